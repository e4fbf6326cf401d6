/- Own texts. -/
import Derived.Test.YtmhkcfjajpjigaaGreatDoorEd3
set_option linter.unusedSimpArgs false
set_option linter.unusedVariables false
set_option linter.unnecessarySimpa false
set_option maxRecDepth 10000
set_option maxHeartbeats 4000000
namespace Go.Proofs.YtmhkcfjajpjigaaGreatDoor
open Go.SX
def QmL (n:Nat)(d:jVj)(e:Int)(b:Int):Option (Int⊕Unit⊕Unit) := (el Wc d e).bind fun a=>if b<((a.2.2.1).length:Int) then(el Vg a.2.2.1 b).bind fun c=>if(c.size:Int)>40 then some (.inr (.inl ())) else if Qg (b+1) then some (.inl (b+1)) else none else some (.inr (.inr ()))
noncomputable def Qph (a:jVj)(b:Int):Lp (Int) (Unit⊕Unit):=⟨fun c=>[(0,.d (.lst false 5 a)),(5,.d (I b)),(6,.d (I c))],fun _=>[],fun
 | (.inl e)=>.ret
 | (.inr e)=>(.exit 2),fun
 | (.inl e)=>[(4,.d (B false))]
 | (.inr e)=>[(0,.d (.lst false 5 a)),(5,.d (I b))],fun _=>[]⟩
theorem Qol {n c d}(e)(r)(h:QmL n c d e=some r):Rl (Zt cx.P 4 1) 71 0 false (Qph c d) e r:=by
 unfold QmL at h;have⟨tb1,hb1,h⟩:=bo h;have q:=Q2 V6 hb1 QA;let o(l:jOj):=.el (VQ tb1)::l;obtain⟨a,h⟩|⟨a,h⟩:=io h
 ·have⟨tb3,hb3,h⟩:=bo h;have q:=Q2 Zb hb3 (Q2 V6 hb1 (Qb (jDj a) q));let o l:=o (b1::.el (VQ tb1)::.el (Wj tb3)::l);obtain⟨b,h⟩|⟨b,h⟩:=io h
  ·cases h;exact rx 45 (o [b1]) [] [4] [] (Qb (jDj b) q)
  have⟨hb5,h⟩:=gd h;cases h;exact rn 45 (o [b0]) [] [0,5,6] [] (Qb hb5 (Qb (jEj b) q))
 cases h;exact rx 45 (o [b0]) [] [0,5] [] (Qb (jEj a) q)
def QmK (n:Nat)(d:jVj)(c:Int):Option (Int⊕Unit⊕Unit) := if c<((d).length:Int) then(el Wc d c).bind fun a=>if(a.2.1.size:Int)>40 then some (.inr (.inl ())) else if((a.2.2.1).length:Int)>6 then some (.inr (.inl ())) else if((a.2.2.2.1).length:Int)>8 then some (.inr (.inl ())) else if(a.2.2.2.2.size:Int)>200 then some (.inr (.inl ())) else(QU (QmL n d c) n 0).bind fun b=>match b with|.inl b=>(some (.inr (.inl ())))|.inr b=>(if Qg (c+1) then some (.inl (c+1)) else none) else some (.inr (.inr ()))
noncomputable def Qpg (a:jVj):Lp (Int) (Unit⊕Unit):=⟨fun b=>[(0,.d (.lst false 5 a)),(5,.d (I b))],fun _=>[],fun
 | (.inl e)=>.ret
 | (.inr e)=>(.exit 0),fun
 | (.inl e)=>[(4,.d (B false))]
 | (.inr e)=>[],fun _=>[]⟩
theorem Qok {n i}(j)(r)(h:QmK n i j=some r):Rl (Zt cx.P 4 0) 71 0 false (Qpg i) j r:=by
 unfold QmK at h;obtain⟨a,h⟩|⟨a,h⟩:=io h
 ·have⟨ta2,ha2,h⟩:=bo h;have q:=Q2 V6 ha2 (Qb (jDj a) QA);let o(l:jOj):=b1::.el (VQ ta2)::l;obtain⟨b,h⟩|⟨b,h⟩:=io h
  ·cases h;exact rx 6 (o [b1,.no,.no,.no]) [] [4] [] (Qb (jDj b) q)
  have q:=Q2 V6 ha2 (Qb (jEj b) q);let o l:=o (b0::.el (VQ ta2)::l);obtain⟨c,h⟩|⟨c,h⟩:=io h
  ·cases h;exact rx 6 (o [b1,.no,.no]) [] [4] [] (Qb (jDj c) q)
  have q:=Q2 V6 ha2 (Qb (jEj c) q);let o l:=o (b0::.el (VQ ta2)::l);obtain⟨e,h⟩|⟨e,h⟩:=io h
  ·cases h;exact rx 6 (o [b1,.no]) [] [4] [] (Qb (jDj e) q)
  have q:=Q2 V6 ha2 (Qb (jEj e) q);let o l:=o (b0::.el (VQ ta2)::l);obtain⟨f,h⟩|⟨f,h⟩:=io h
  ·cases h;exact rx 6 (o [b1]) [] [4] [] (Qb (jDj f) q)
  have q:=Qb (jEj f) q;have⟨g,ha7,h⟩:=bo h;obtain g|g:=g
  ·cases h;exact rx 6 (o [b0,.lp [] [0,5,6] [] .ret [(4,.d (B false))] [] 77]) [] [4] [] (Qb (QE Qol ha7) q)
  have⟨ha8,h⟩:=gd h;cases h;exact rn 6 (o [b0,.lp [] [0,5,6] [] (.exit 2) [(0,.d (.lst false 5 i)),(5,.d (I j))] [] 77]) [] [0,5] [] (Qb ha8 (Qb (QE Qol ha7) q))
 cases h;exact rx 6 [b0] [] [] [] (Qb (jEj a) QA)
def Qnu (n:Nat)(b:jVj)(c:Int):Option (Bool) := if((b).length:Int)>c then some false else(QU (QmK n b) n 0).bind fun a=>match a with|.inl a=>(some false)|.inr a=>(some true)
theorem QpV {n c e r}(h:Qnu n c e=some r):Computes cx 4 [.lst false 5 c,I e] (B r):=by
 unfold Qnu at h;obtain⟨a,h⟩|⟨a,h⟩:=io h
 ·obtain rfl:=oi h;exact rf [b1] (Qb (jDj a) QA)
 have q:=Qb (jEj a) QA;have⟨b,h2,h⟩:=bo h;obtain b|b:=b
 ·obtain rfl:=oi h;exact rf [b0,.lp [] [0,5] [] .ret [(4,.d (B false))] [] 91] (Qb (QE Qok h2) q)
 obtain rfl:=oi h;exact rf [b0,.lp [] [0,5] [] (.exit 0) [] [] 91] (Qb (QE Qok h2) q)
def Qng (n:Nat)(a b c:Int):Option (Bool) := if a<b then some true else some (decide (a>c))
theorem Qoh {n b c d r}(h:Qng n b c d=some r):Computes cx 173 [I b,I c,I d] (B r):=by
 unfold Qng at h;obtain⟨a,h⟩|⟨a,h⟩:=io h
 ·obtain rfl:=oi h;exact rf [b1] (Qb (jDj a) QA)
 cases h;exact rf [b0] (Qb (jEj a) QA)
def QmD (n:Nat)(a:jSj):Option (jSj×Int×Bool) := if(a.toList==(⟨#[115,101,99,116,111,114]⟩:jSj).toList)=true then some (⟨#[83]⟩,1,true) else if(a.toList==(⟨#[109,105,114,114,111,114]⟩:jSj).toList)=true then some (⟨#[77,115]⟩,2,true) else if(a.toList==(⟨#[115,111,105,108]⟩:jSj).toList)=true then some (⟨#[109]⟩,2,true) else if(a.toList==(⟨#[99,108,101,97,110]⟩:jSj).toList)=true then some (⟨#[109]⟩,1,true) else if(a.toList==(⟨#[100,101,102,101,99,116]⟩:jSj).toList)=true then some (⟨#[109]⟩,1,true) else if(a.toList==(⟨#[114,101,112,97,105,114]⟩:jSj).toList)=true then some (⟨#[109]⟩,1,true) else if(a.toList==(⟨#[97,105,109]⟩:jSj).toList)=true then some (⟨#[109]⟩,1,true) else if(a.toList==(⟨#[112,97,114,107]⟩:jSj).toList)=true then some (⟨#[109]⟩,1,true) else if(a.toList==(⟨#[100,105,109]⟩:jSj).toList)=true then some (⟨#[115]⟩,1,true) else if(a.toList==(⟨#[115,117,110]⟩:jSj).toList)=true then some (⟨#[]⟩,2,true) else if(a.toList==(⟨#[102,105,108,108]⟩:jSj).toList)=true then some (⟨#[]⟩,1,true) else if(a.toList==(⟨#[100,114,97,105,110]⟩:jSj).toList)=true then some (⟨#[]⟩,1,true) else if(a.toList==(⟨#[116,114,105,112]⟩:jSj).toList)=true then some (⟨#[]⟩,1,true) else if(a.toList==(⟨#[114,101,115,101,116]⟩:jSj).toList)=true then some (⟨#[]⟩,1,true) else if(a.toList==(⟨#[111,102,102,101,114]⟩:jSj).toList)=true then some (⟨#[79]⟩,5,true) else if(a.toList==(⟨#[100,101,108,105,118,101,114]⟩:jSj).toList)=true then some (⟨#[111]⟩,2,true) else if(a.toList==(⟨#[98,105,108,108]⟩:jSj).toList)=true then some (⟨#[111]⟩,1,true) else if(a.toList==(⟨#[117,110,100,111]⟩:jSj).toList)=true then some (⟨#[]⟩,0,true) else some (⟨#[]⟩,0,false)
theorem Qqk {n y r}(h:QmD n y=some r):Computes cx 174 [Qe y] (.agg [Qe r.1,I r.2.1,B r.2.2]):=by
 unfold QmD at h;obtain⟨t,h⟩|⟨t,h⟩:=io h
 ·cases h;exact rf [b1] (Qb t QA)
 have q:=Qb (Zy t) QA;let o(l:jOj):=b0::l;obtain⟨u,h⟩|⟨u,h⟩:=io h
 ·cases h;exact rf (o [b1]) (Qb u q)
 have q:=Qb (Zy u) q;let o l:=o (b0::l);obtain⟨v,h⟩|⟨v,h⟩:=io h
 ·cases h;exact rf (o [b1]) (Qb v q)
 have q:=Qb (Zy v) q;let o l:=o (b0::l);obtain⟨k,h⟩|⟨k,h⟩:=io h
 ·cases h;exact rf (o [b1,b1]) (Qb k (Qb k q))
 have q:=Qb (Zy k) q;let o l:=o (b0::l);obtain⟨m,h⟩|⟨m,h⟩:=io h
 ·cases h;exact rf (o [b1,b1]) (Qb m (Qb m q))
 have q:=Qb (Zy m) q;let o l:=o (b0::l);obtain⟨p,h⟩|⟨p,h⟩:=io h
 ·cases h;exact rf (o [b1,b1]) (Qb p (Qb p q))
 have q:=Qb (Zy p) q;let o l:=o (b0::l);obtain⟨s,h⟩|⟨s,h⟩:=io h
 ·cases h;exact rf (o [b1,b1]) (Qb s (Qb s q))
 have q:=Qb (Zy s) q;let o l:=o (b0::l);obtain⟨w,h⟩|⟨w,h⟩:=io h
 ·cases h;exact rf (o [b1]) (Qb w q)
 have q:=Qb (Zy w) q;let o l:=o (b0::l);obtain⟨x,h⟩|⟨x,h⟩:=io h
 ·cases h;exact rf (o [b1]) (Qb x q)
 have q:=Qb (Zy x) q;let o l:=o (b0::l);obtain⟨d,h⟩|⟨d,h⟩:=io h
 ·cases h;exact rf (o [b1]) (Qb d q)
 have q:=Qb (Zy d) q;let o l:=o (b0::l);obtain⟨a,h⟩|⟨a,h⟩:=io h
 ·cases h;exact rf (o [b1,b1]) (Qb a (Qb a q))
 have q:=Qb (Zy a) q;let o l:=o (b0::l);obtain⟨b,h⟩|⟨b,h⟩:=io h
 ·cases h;exact rf (o [b1,b1]) (Qb b (Qb b q))
 have q:=Qb (Zy b) q;let o l:=o (b0::l);obtain⟨c,h⟩|⟨c,h⟩:=io h
 ·cases h;exact rf (o [b1,b1]) (Qb c (Qb c q))
 have q:=Qb (Zy c) q;let o l:=o (b0::l);obtain⟨e,h⟩|⟨e,h⟩:=io h
 ·cases h;exact rf (o [b1]) (Qb e q)
 have q:=Qb (Zy e) q;let o l:=o (b0::l);obtain⟨f,h⟩|⟨f,h⟩:=io h
 ·cases h;exact rf (o [b1]) (Qb f q)
 have q:=Qb (Zy f) q;obtain⟨g,h⟩|⟨g,h⟩:=io h
 ·cases h;exact rf (o [b0,b1]) (Qb g q)
 have q:=Qb (Zy g) q;let o l:=o (b0::b0::l);obtain⟨i,h⟩|⟨i,h⟩:=io h
 ·cases h;exact rf (o [b1]) (Qb i q)
 have q:=Qb (Zy i) q;obtain⟨j,h⟩|⟨j,h⟩:=io h
 ·cases h;exact rf (o [b0,b1]) (Qb j q)
 cases h;exact rf (o [b0,b0]) (Qb (Zy j) q)
def Qm9 (n:Nat)(c:jSj)(b:Int):Option (Int⊕Unit⊕Unit) := if b<(c.size:Int) then(UY c b).bind fun a=>if a>=97 then if a<=122 then if a>=48 then if a<=57 then if Qg (b+1) then some (.inl (b+1)) else none else if Qg (b+1) then some (.inl (b+1)) else none else if Qg (b+1) then some (.inl (b+1)) else none else if a>=65 then if a>=48 then if a<=57 then if a<=90 then if Qg (b+1) then some (.inl (b+1)) else none else if b=0 then some (.inr (.inl ())) else if Qg (b+1) then some (.inl (b+1)) else none else if a<=90 then if Qg (b+1) then some (.inl (b+1)) else none else if b=0 then some (.inr (.inl ())) else if a=95 then if Qg (b+1) then some (.inl (b+1)) else none else some (.inr (.inl ())) else if a<=90 then if Qg (b+1) then some (.inl (b+1)) else none else if b=0 then some (.inr (.inl ())) else if a=95 then if Qg (b+1) then some (.inl (b+1)) else none else some (.inr (.inl ())) else if a>=48 then if a<=57 then if b=0 then some (.inr (.inl ())) else if Qg (b+1) then some (.inl (b+1)) else none else if b=0 then some (.inr (.inl ())) else if a=95 then if Qg (b+1) then some (.inl (b+1)) else none else some (.inr (.inl ())) else if b=0 then some (.inr (.inl ())) else if a=95 then if Qg (b+1) then some (.inl (b+1)) else none else some (.inr (.inl ())) else if a>=65 then if a>=48 then if a<=57 then if a<=90 then if Qg (b+1) then some (.inl (b+1)) else none else if b=0 then some (.inr (.inl ())) else if Qg (b+1) then some (.inl (b+1)) else none else if a<=90 then if Qg (b+1) then some (.inl (b+1)) else none else if b=0 then some (.inr (.inl ())) else if a=95 then if Qg (b+1) then some (.inl (b+1)) else none else some (.inr (.inl ())) else if a<=90 then if Qg (b+1) then some (.inl (b+1)) else none else if b=0 then some (.inr (.inl ())) else if a=95 then if Qg (b+1) then some (.inl (b+1)) else none else some (.inr (.inl ())) else if a>=48 then if a<=57 then if b=0 then some (.inr (.inl ())) else if Qg (b+1) then some (.inl (b+1)) else none else if b=0 then some (.inr (.inl ())) else if a=95 then if Qg (b+1) then some (.inl (b+1)) else none else some (.inr (.inl ())) else if b=0 then some (.inr (.inl ())) else if a=95 then if Qg (b+1) then some (.inl (b+1)) else none else some (.inr (.inl ())) else some (.inr (.inr ()))
noncomputable def Qqr (a:jSj):Lp (Int) (Unit⊕Unit):=⟨fun b=>[(0,.d (Qe a)),(3,.d (I b))],fun _=>[],fun
 | (.inl e)=>.ret
 | (.inr e)=>(.exit 0),fun
 | (.inl e)=>[(2,.d (B false))]
 | (.inr e)=>[],fun _=>[]⟩
theorem QoV {n i}(j)(r)(h:Qm9 n i j=some r):Rl (Zt cx.P 175 0) 67 0 false (Qqr i) j r:=by
 unfold Qm9 at h;obtain⟨m,h⟩|⟨m,h⟩:=io h
 ·have⟨ta2,e,h⟩:=bo h;have q:=Qb (Qc1 e:Zu cx.P (Instr.index 9 (.string i) (.int .i64 j))=some (.int .u8 ta2)) (Qb (jDj m) QA);let o(l:jOj):=b1::.el (.v (.int .u8 ta2))::l;obtain⟨p,h⟩|⟨p,h⟩:=io h
  ·have q:=Qb (Qc1 e:Zu cx.P (Instr.index 9 (.string i) (.int .i64 j))=some (.int .u8 ta2)) (Qb (jDj p) q);let o l:=o (b1::.el (.v (.int .u8 ta2))::l);obtain⟨k,h⟩|⟨k,h⟩:=io h
   ·have q:=Qb (Qc1 e:Zu cx.P (Instr.index 9 (.string i) (.int .i64 j))=some (.int .u8 ta2)) (Qb (jDj k) q);let o l:=o (b1::.el (.v (.int .u8 ta2))::l);obtain⟨g,h⟩|⟨g,h⟩:=io h
    ·have q:=Qb (Qc1 e:Zu cx.P (Instr.index 9 (.string i) (.int .i64 j))=some (.int .u8 ta2)) (Qb (jDj g) q);let o l:=o (b1::.el (.v (.int .u8 ta2))::l);obtain⟨d,h⟩|⟨d,h⟩:=io h
     ·have⟨b,h⟩:=gd h;cases h;exact rn 9 (o [b1,.no,.no]) [] [0,3] [] (Qb b (Qb (jDj d) q))
     have⟨b,h⟩:=gd h;cases h;exact rn 9 (o [b0,.el (.v (.int .u8 ta2)),.no,.no]) [] [0,3] [] (Qb b (Qb (Qc1 e:Zu cx.P (Instr.index 9 (.string i) (.int .i64 j))=some (.int .u8 ta2)) (Qb (jEj d) q)))
    have⟨d,h⟩:=gd h;cases h;exact rn 9 (o [b0,.no,.el (.v (.int .u8 ta2)),.no,.no]) [] [0,3] [] (Qb d (Qb (Qc1 e:Zu cx.P (Instr.index 9 (.string i) (.int .i64 j))=some (.int .u8 ta2)) (Qb (jEj g) q)))
   have q:=Qb (Qc1 e:Zu cx.P (Instr.index 9 (.string i) (.int .i64 j))=some (.int .u8 ta2)) (Qb (jEj k) q);let o l:=o (b0::.el (.v (.int .u8 ta2))::l);obtain⟨g,h⟩|⟨g,h⟩:=io h
   ·have q:=Qb (Qc1 e:Zu cx.P (Instr.index 9 (.string i) (.int .i64 j))=some (.int .u8 ta2)) (Qb (Qc1 e:Zu cx.P (Instr.index 9 (.string i) (.int .i64 j))=some (.int .u8 ta2)) (Qb (jDj g) q));let o l:=o (b1::.el (.v (.int .u8 ta2))::.el (.v (.int .u8 ta2))::l);obtain⟨d,h⟩|⟨d,h⟩:=io h
    ·have q:=Qb (Qc1 e:Zu cx.P (Instr.index 9 (.string i) (.int .i64 j))=some (.int .u8 ta2)) (Qb (jDj d) q);let o l:=o (b1::.el (.v (.int .u8 ta2))::l);obtain⟨b,h⟩|⟨b,h⟩:=io h
     ·have q:=Qb (jDj b) q;obtain⟨a,h⟩|⟨a,h⟩:=io h
      ·have⟨c,h⟩:=gd h;cases h;exact rn 9 (o [b1,b0,.no]) [] [0,3] [] (Qb c (Qb (zV (jDj a)) q))
      have q:=Qb (wG (jEj a)) q;obtain⟨c,h⟩|⟨c,h⟩:=io h
      ·cases h;exact rx 9 (o [b1,b1,b1,.no]) [] [2] [] (Qb (eqt c) q)
      have⟨f,h⟩:=gd h;cases h;exact rn 9 (o [b1,b1,b0,.no]) [] [0,3] [] (Qb f (Qb (eqf c) q))
     have q:=Qb (Qc1 e:Zu cx.P (Instr.index 9 (.string i) (.int .i64 j))=some (.int .u8 ta2)) (Qb (jEj b) q);let o l:=o (b0::.el (.v (.int .u8 ta2))::l);obtain⟨a,h⟩|⟨a,h⟩:=io h
     ·have⟨c,h⟩:=gd h;cases h;exact rn 9 (o [b0,.no]) [] [0,3] [] (Qb c (Qb (zV (jDj a)) q))
     have q:=Qb (wG (jEj a)) q;obtain⟨c,h⟩|⟨c,h⟩:=io h
     ·cases h;exact rx 9 (o [b1,b1,.no]) [] [2] [] (Qb (eqt c) q)
     have q:=Qb (eqf c) q;obtain⟨f,h⟩|⟨f,h⟩:=io h
     ·have⟨ha11,h⟩:=gd h;cases h;exact rn 9 (o [b1,b0,b0]) [] [0,3] [] (Qb ha11 (Qb (zV (eqt f)) q))
     cases h;exact rx 9 (o [b1,b0,b1]) [] [2] [] (Qb (wG (eqf f)) q)
    have q:=Qb (Qc1 e:Zu cx.P (Instr.index 9 (.string i) (.int .i64 j))=some (.int .u8 ta2)) (Qb (jEj d) q);let o l:=o (b0::.no::.el (.v (.int .u8 ta2))::l);obtain⟨b,h⟩|⟨b,h⟩:=io h
    ·have⟨a,h⟩:=gd h;cases h;exact rn 9 (o [b0,.no]) [] [0,3] [] (Qb a (Qb (zV (jDj b)) q))
    have q:=Qb (wG (jEj b)) q;obtain⟨a,h⟩|⟨a,h⟩:=io h
    ·cases h;exact rx 9 (o [b1,b1,.no]) [] [2] [] (Qb (eqt a) q)
    have q:=Qb (eqf a) q;obtain⟨c,h⟩|⟨c,h⟩:=io h
    ·have⟨f,h⟩:=gd h;cases h;exact rn 9 (o [b1,b0,b0]) [] [0,3] [] (Qb f (Qb (zV (eqt c)) q))
    cases h;exact rx 9 (o [b1,b0,b1]) [] [2] [] (Qb (wG (eqf c)) q)
   have q:=Qb (Qc1 e:Zu cx.P (Instr.index 9 (.string i) (.int .i64 j))=some (.int .u8 ta2)) (Qb (jEj g) q);let o l:=o (b0::.el (.v (.int .u8 ta2))::l);obtain⟨d,h⟩|⟨d,h⟩:=io h
   ·have q:=Qb (Qc1 e:Zu cx.P (Instr.index 9 (.string i) (.int .i64 j))=some (.int .u8 ta2)) (Qb (jDj d) q);let o l:=o (b1::.el (.v (.int .u8 ta2))::l);obtain⟨b,h⟩|⟨b,h⟩:=io h
    ·have q:=Qb (jDj b) q;obtain⟨a,h⟩|⟨a,h⟩:=io h
     ·cases h;exact rx 9 (o [b1,.no,b1,.no]) [] [2] [] (Qb (eqt a) q)
     have⟨c,h⟩:=gd h;cases h;exact rn 9 (o [b1,.no,b0,.no]) [] [0,3] [] (Qb c (Qb (eqf a) q))
    have q:=Qb (Qc1 e:Zu cx.P (Instr.index 9 (.string i) (.int .i64 j))=some (.int .u8 ta2)) (Qb (jEj b) q);let o l:=o (b0::.el (.v (.int .u8 ta2))::.no::l);obtain⟨a,h⟩|⟨a,h⟩:=io h
    ·cases h;exact rx 9 (o [b1,.no]) [] [2] [] (Qb (eqt a) q)
    have q:=Qb (eqf a) q;obtain⟨c,h⟩|⟨c,h⟩:=io h
    ·have⟨f,h⟩:=gd h;cases h;exact rn 9 (o [b0,b0]) [] [0,3] [] (Qb f (Qb (zV (eqt c)) q))
    cases h;exact rx 9 (o [b0,b1]) [] [2] [] (Qb (wG (eqf c)) q)
   have q:=Qb (Qc1 e:Zu cx.P (Instr.index 9 (.string i) (.int .i64 j))=some (.int .u8 ta2)) (Qb (jEj d) q);let o l:=o (b0::.no::.el (.v (.int .u8 ta2))::.no::l);obtain⟨b,h⟩|⟨b,h⟩:=io h
   ·cases h;exact rx 9 (o [b1,.no]) [] [2] [] (Qb (eqt b) q)
   have q:=Qb (eqf b) q;obtain⟨a,h⟩|⟨a,h⟩:=io h
   ·have⟨c,h⟩:=gd h;cases h;exact rn 9 (o [b0,b0]) [] [0,3] [] (Qb c (Qb (zV (eqt a)) q))
   cases h;exact rx 9 (o [b0,b1]) [] [2] [] (Qb (wG (eqf a)) q)
  have q:=Qb (Qc1 e:Zu cx.P (Instr.index 9 (.string i) (.int .i64 j))=some (.int .u8 ta2)) (Qb (jEj p) q);let o l:=o (b0::.no::.el (.v (.int .u8 ta2))::l);obtain⟨k,h⟩|⟨k,h⟩:=io h
  ·have q:=Qb (Qc1 e:Zu cx.P (Instr.index 9 (.string i) (.int .i64 j))=some (.int .u8 ta2)) (Qb (Qc1 e:Zu cx.P (Instr.index 9 (.string i) (.int .i64 j))=some (.int .u8 ta2)) (Qb (jDj k) q));let o l:=o (b1::.el (.v (.int .u8 ta2))::.el (.v (.int .u8 ta2))::l);obtain⟨g,h⟩|⟨g,h⟩:=io h
   ·have q:=Qb (Qc1 e:Zu cx.P (Instr.index 9 (.string i) (.int .i64 j))=some (.int .u8 ta2)) (Qb (jDj g) q);let o l:=o (b1::.el (.v (.int .u8 ta2))::l);obtain⟨d,h⟩|⟨d,h⟩:=io h
    ·have q:=Qb (jDj d) q;obtain⟨b,h⟩|⟨b,h⟩:=io h
     ·have⟨a,h⟩:=gd h;cases h;exact rn 9 (o [b1,b0,.no]) [] [0,3] [] (Qb a (Qb (zV (jDj b)) q))
     have q:=Qb (wG (jEj b)) q;obtain⟨a,h⟩|⟨a,h⟩:=io h
     ·cases h;exact rx 9 (o [b1,b1,b1,.no]) [] [2] [] (Qb (eqt a) q)
     have⟨c,h⟩:=gd h;cases h;exact rn 9 (o [b1,b1,b0,.no]) [] [0,3] [] (Qb c (Qb (eqf a) q))
    have q:=Qb (Qc1 e:Zu cx.P (Instr.index 9 (.string i) (.int .i64 j))=some (.int .u8 ta2)) (Qb (jEj d) q);let o l:=o (b0::.el (.v (.int .u8 ta2))::l);obtain⟨b,h⟩|⟨b,h⟩:=io h
    ·have⟨a,h⟩:=gd h;cases h;exact rn 9 (o [b0,.no]) [] [0,3] [] (Qb a (Qb (zV (jDj b)) q))
    have q:=Qb (wG (jEj b)) q;obtain⟨a,h⟩|⟨a,h⟩:=io h
    ·cases h;exact rx 9 (o [b1,b1,.no]) [] [2] [] (Qb (eqt a) q)
    have q:=Qb (eqf a) q;obtain⟨c,h⟩|⟨c,h⟩:=io h
    ·have⟨f,h⟩:=gd h;cases h;exact rn 9 (o [b1,b0,b0]) [] [0,3] [] (Qb f (Qb (zV (eqt c)) q))
    cases h;exact rx 9 (o [b1,b0,b1]) [] [2] [] (Qb (wG (eqf c)) q)
   have q:=Qb (Qc1 e:Zu cx.P (Instr.index 9 (.string i) (.int .i64 j))=some (.int .u8 ta2)) (Qb (jEj g) q);let o l:=o (b0::.no::.el (.v (.int .u8 ta2))::l);obtain⟨d,h⟩|⟨d,h⟩:=io h
   ·have⟨b,h⟩:=gd h;cases h;exact rn 9 (o [b0,.no]) [] [0,3] [] (Qb b (Qb (zV (jDj d)) q))
   have q:=Qb (wG (jEj d)) q;obtain⟨b,h⟩|⟨b,h⟩:=io h
   ·cases h;exact rx 9 (o [b1,b1,.no]) [] [2] [] (Qb (eqt b) q)
   have q:=Qb (eqf b) q;obtain⟨a,h⟩|⟨a,h⟩:=io h
   ·have⟨c,h⟩:=gd h;cases h;exact rn 9 (o [b1,b0,b0]) [] [0,3] [] (Qb c (Qb (zV (eqt a)) q))
   cases h;exact rx 9 (o [b1,b0,b1]) [] [2] [] (Qb (wG (eqf a)) q)
  have q:=Qb (Qc1 e:Zu cx.P (Instr.index 9 (.string i) (.int .i64 j))=some (.int .u8 ta2)) (Qb (jEj k) q);let o l:=o (b0::.el (.v (.int .u8 ta2))::l);obtain⟨g,h⟩|⟨g,h⟩:=io h
  ·have q:=Qb (Qc1 e:Zu cx.P (Instr.index 9 (.string i) (.int .i64 j))=some (.int .u8 ta2)) (Qb (jDj g) q);let o l:=o (b1::.el (.v (.int .u8 ta2))::l);obtain⟨d,h⟩|⟨d,h⟩:=io h
   ·have q:=Qb (jDj d) q;obtain⟨b,h⟩|⟨b,h⟩:=io h
    ·cases h;exact rx 9 (o [b1,.no,b1,.no]) [] [2] [] (Qb (eqt b) q)
    have⟨a,h⟩:=gd h;cases h;exact rn 9 (o [b1,.no,b0,.no]) [] [0,3] [] (Qb a (Qb (eqf b) q))
   have q:=Qb (Qc1 e:Zu cx.P (Instr.index 9 (.string i) (.int .i64 j))=some (.int .u8 ta2)) (Qb (jEj d) q);let o l:=o (b0::.el (.v (.int .u8 ta2))::.no::l);obtain⟨b,h⟩|⟨b,h⟩:=io h
   ·cases h;exact rx 9 (o [b1,.no]) [] [2] [] (Qb (eqt b) q)
   have q:=Qb (eqf b) q;obtain⟨a,h⟩|⟨a,h⟩:=io h
   ·have⟨c,h⟩:=gd h;cases h;exact rn 9 (o [b0,b0]) [] [0,3] [] (Qb c (Qb (zV (eqt a)) q))
   cases h;exact rx 9 (o [b0,b1]) [] [2] [] (Qb (wG (eqf a)) q)
  have q:=Qb (Qc1 e:Zu cx.P (Instr.index 9 (.string i) (.int .i64 j))=some (.int .u8 ta2)) (Qb (jEj g) q);let o l:=o (b0::.no::.el (.v (.int .u8 ta2))::.no::l);obtain⟨d,h⟩|⟨d,h⟩:=io h
  ·cases h;exact rx 9 (o [b1,.no]) [] [2] [] (Qb (eqt d) q)
  have q:=Qb (eqf d) q;obtain⟨b,h⟩|⟨b,h⟩:=io h
  ·have⟨a,h⟩:=gd h;cases h;exact rn 9 (o [b0,b0]) [] [0,3] [] (Qb a (Qb (zV (eqt b)) q))
  cases h;exact rx 9 (o [b0,b1]) [] [2] [] (Qb (wG (eqf b)) q)
 cases h;exact rx 9 [b0] [] [] [] (Qb (jEj m) QA)
def Qoa (n:Nat)(a:jSj):Option (Bool) := if(a.toList==(⟨#[]⟩:jSj).toList)=true then some false else if(a.size:Int)>24 then some false else(QU (Qm9 n a) n 0).bind fun b=>match b with|.inl b=>(some false)|.inr b=>(some true)
theorem Qq6 {n e r}(h:Qoa n e=some r):Computes cx 175 [Qe e] (B r):=by
 unfold Qoa at h;obtain⟨a,h⟩|⟨a,h⟩:=io h
 ·obtain rfl:=oi h;exact rf [b1,.no] (Qb a QA)
 have q:=Qb (Zy a) QA;obtain⟨b,h⟩|⟨b,h⟩:=io h
 ·obtain rfl:=oi h;exact rf [b0,b1] (Qb (jDj b) q)
 have q:=Qb (jEj b) q;have⟨c,h3,h⟩:=bo h;obtain c|c:=c
 ·obtain rfl:=oi h;exact rf [b0,b0,.lp [] [0,3] [] .ret [(2,.d (B false))] [] 77] (Qb (QE QoV h3) q)
 obtain rfl:=oi h;exact rf [b0,b0,.lp [] [0,3] [] (.exit 0) [] [] 77] (Qb (QE QoV h3) q)
def QmW (n:Nat)(f:Int)(g:jSj)(d h:jVj)(i:jSj)(e:jSj×Int×Bool)(a:Int):Option (Int⊕Unit⊕Unit) := if a<(e.1.size:Int) then(el Vg d a).bind fun b=>(Qoa n b).bind fun c=>if c=true then if Qg (a+1) then some (.inl (a+1)) else none else some (.inr (.inl ())) else some (.inr (.inr ()))
noncomputable def Qps (b:Int)(c:jSj)(f g:jVj)(h:jSj)(a:jSj×Int×Bool):Lp (Int) (Unit⊕Unit):=⟨fun i=>[(1,.ptr 0 0 0 0 0),(3,.ptr 8 0 0 0 0),(4,.d (I i))],fun _=>[(0,.box (.d (.agg [I b,Qe c,.lst false 1 f,.lst false 1 g,Qe h]))),(8,.box (.d (.agg [Qe a.1,I a.2.1,B a.2.2])))],fun
 | (.inl e)=>.ret
 | (.inr e)=>(.exit 0),fun
 | (.inl e)=>[(2,.d (I 8))]
 | (.inr e)=>[(1,.ptr 0 0 0 0 0),(3,.ptr 8 0 0 0 0)],fun
 | (.inl e)=>[]
 | (.inr e)=>[(0,.box (.d (.agg [I b,Qe c,.lst false 1 f,.lst false 1 g,Qe h]))),(8,.box (.d (.agg [Qe a.1,I a.2.1,B a.2.2])))]⟩
theorem Qos {n c d e f g j}(i)(r)(h:QmW n c d e f g j i=some r):Rl (Zt cx.P 69 0) 59 0 false (Qps c d e f g j) i r:=by
 unfold QmW at h;obtain⟨a,h⟩|⟨a,h⟩:=io h
 ·have⟨ta2,ha2,h⟩:=bo h;have⟨ta3,ha3,h⟩:=bo h;have q:=Qb (Qq6 ha3) (Q2 Zb ha2 (Qb (jDj a) QA));let o(l:jOj):=b1::.el (Wj ta2)::.ret (B ta3)::l;obtain⟨b,h⟩|⟨b,h⟩:=io h
  ·have⟨ha5,h⟩:=gd h;cases h;exact rn 29 (o [b0]) [] [1,3,4] [0,8] (Qb ha5 (Qb (zV b) q))
  cases h;exact rx 29 (o [b1]) [] [2] [] (Qb (wG (Zy b)) q)
 cases h;exact rx 29 [b0] [] [1,3] [0,8] (Qb (jEj a) QA)
def QmV (n:Nat)(f:Int)(g:jSj)(h d:jVj)(i:jSj)(e:jSj×Int×Bool)(a:Int):Option (Int⊕Unit⊕Unit) := if a<e.2.1 then(el V5 d a).bind fun b=>(Qng n b 0 999999999).bind fun c=>if c=true then some (.inr (.inl ())) else if Qg (a+1) then some (.inl (a+1)) else none else some (.inr (.inr ()))
noncomputable def Qpr (b:Int)(c:jSj)(f g:jVj)(h:jSj)(a:jSj×Int×Bool):Lp (Int) (Unit⊕Unit):=⟨fun i=>[(1,.ptr 0 0 0 0 0),(3,.ptr 8 0 0 0 0),(5,.d (I i))],fun _=>[(0,.box (.d (.agg [I b,Qe c,.lst false 1 f,.lst false 1 g,Qe h]))),(8,.box (.d (.agg [Qe a.1,I a.2.1,B a.2.2])))],fun
 | (.inl e)=>.ret
 | (.inr e)=>(.exit 2),fun
 | (.inl e)=>[(2,.d (I 3))]
 | (.inr e)=>[(1,.ptr 0 0 0 0 0)],fun
 | (.inl e)=>[]
 | (.inr e)=>[(0,.box (.d (.agg [I b,Qe c,.lst false 1 f,.lst false 1 g,Qe h])))]⟩
theorem Qor {n c d e f g j}(i)(r)(h:QmV n c d e f g j i=some r):Rl (Zt cx.P 69 1) 59 0 false (Qpr c d e f g j) i r:=by
 unfold QmV at h;obtain⟨a,h⟩|⟨a,h⟩:=io h
 ·have⟨ta2,ha2,h⟩:=bo h;have⟨ta3,ha3,h⟩:=bo h;have q:=Qb (Qoh ha3) (Q2 QM ha2 (Qb (jDj a) QA));let o(l:jOj):=b1::.el (Zi ta2)::.ret (B ta3)::l;obtain⟨b,h⟩|⟨b,h⟩:=io h
  ·cases h;exact rx 56 (o [b1]) [] [2] [] (Qb b q)
  have⟨ha5,h⟩:=gd h;cases h;exact rn 56 (o [b0]) [] [1,3,5] [0,8] (Qb ha5 (Qb (Zy b) q))
 cases h;exact rx 56 [b0] [] [1] [0] (Qb (jEj a) QA)
def Qnb (n:Nat)(b:Int)(c:jSj)(d e:jVj)(f:jSj):Option (Int) := (Qng n b 1 1000).bind fun i=>if i=true then some 3 else(QmD n c).bind fun a=>if a.2.2=true then if((d).length:Int)=(a.1.size:Int) then if((e).length:Int)=a.2.1 then(QU (QmW n b c d e f a) n 0).bind fun g=>match g with|.inl g=>(some 8)|.inr g=>((QU (QmV n b c d e f a) n 0).bind fun h=>match h with|.inl h=>(some 3)|.inr h=>(if(!(f.toList==(⟨#[]⟩:jSj).toList))=true then some 1 else some 0)) else some 2 else some 2 else some 13
theorem QoL {n a b c e f r}(h:Qnb n a b c e f=some r):Computes cx 69 [.agg [I a,Qe b,.lst false 1 c,.lst false 1 e,Qe f]] (I r):=by
 unfold Qnb at h;have⟨t1,h1,h⟩:=bo h;have q:=Qb (Qoh h1) QA;let o(l:jOj):=.ret (B t1)::l;obtain⟨g,h⟩|⟨g,h⟩:=io h
 ·obtain rfl:=oi h;exact rf (o [b1]) (Qb g q)
 have⟨t3,h3,h⟩:=bo h;have q:=Qb (Qqk h3) (Qb (Zy g) q);let o l:=o (b0::.ret (.agg [Qe t3.1,I t3.2.1,B t3.2.2])::l);obtain⟨i,h⟩|⟨i,h⟩:=io h
 ·have q:=Qb (zV i) q;let o l:=o (b0::l);obtain⟨j,h⟩|⟨j,h⟩:=io h
  ·have q:=Qb (nef j) q;let o l:=o (b0::l);obtain⟨k,h⟩|⟨k,h⟩:=io h
   ·have q:=Qb (nef k) q;have⟨p,h7,h⟩:=bo h;obtain p|p:=p
    ·obtain rfl:=oi h;exact rf (o [b0,.lp [] [1,3,4] [0,8] .ret [(2,.d (I 8))] [] 55]) (Qb (QE Qos h7) q)
    have q:=Qb (QE Qos h7) q;let o l:=o (b0::.lp [] [1,3,4] [0,8] (.exit 0) [(1,.ptr 0 0 0 0 0),(3,.ptr 8 0 0 0 0)] [(0,.box (.d (.agg [I a,Qe b,.lst false 1 c,.lst false 1 e,Qe f]))),(8,.box (.d (.agg [Qe t3.1,I t3.2.1,B t3.2.2])))] 55::l);have⟨s,h8,h⟩:=bo h;obtain s|s:=s
    ·obtain rfl:=oi h;exact rf (o [.lp [] [1,3,5] [0,8] .ret [(2,.d (I 3))] [] 80]) (Qb (QE Qor h8) q)
    have q:=Qb (QE Qor h8) q;let o l:=o (.lp [] [1,3,5] [0,8] (.exit 2) [(1,.ptr 0 0 0 0 0)] [(0,.box (.d (.agg [I a,Qe b,.lst false 1 c,.lst false 1 e,Qe f])))] 80::l);obtain⟨m,h⟩|⟨m,h⟩:=io h
    ·obtain rfl:=oi h;exact rf (o [b1]) (Qb m q)
    obtain rfl:=oi h;exact rf (o [b0]) (Qb (Zy m) q)
   obtain rfl:=oi h;exact rf (o [b1]) (Qb (net k) q)
  obtain rfl:=oi h;exact rf (o [b1,.no]) (Qb (net j) q)
 obtain rfl:=oi h;exact rf (o [b1]) (Qb (wG (Zy i)) q)
def QnE (n:Nat)(e c:Int)(f g:Bool)(h i j:Int)(k d l:jVj)(b:(Int×Int)):Option (Int×Int⊕Int) := if b.2<((d).length:Int) then(el QV d b.2).bind fun a=>if a.2.2.2.2.2=true then if Qg (1000 - a.2.2.2.1) then if Qg (a.2.2.1*(1000 - a.2.2.2.1)) then if Qg ((a.2.2.1*(1000 - a.2.2.2.1))*c) then if Qg (b.1+((a.2.2.1*(1000 - a.2.2.2.1))*c)) then if Qg (b.2+1) then some (.inl ((b.1+((a.2.2.1*(1000 - a.2.2.2.1))*c)),(b.2+1))) else none else none else none else none else none else if Qg (b.2+1) then some (.inl (b.1,(b.2+1))) else none else some (.inr b.1)
noncomputable def QqO (b c:Int)(f g:Bool)(h i j:Int)(k l m:jVj):Lp (Int×Int) (Int):=⟨fun a=>[(1,.ptr 0 0 0 0 0),(3,.d (I a.1)),(4,.d (I a.2))],fun _=>[(0,.box (.d (.agg [I b,I c,B f,B g,I h,I i,I j,.lst false 1 k,.lst false 6 l,.lst false 7 m])))],fun _=>(.exit 0),fun e=>[(3,.d (I e))],fun _=>[]⟩
theorem QqN {n c d e f g i j k m p}(s)(r)(h:QnE n c d e f g i j k m p s=some r):Rl (Zt cx.P 216 0) 32 0 false (QqO c d e f g i j k m p) s r:=by
 unfold QnE at h;obtain⟨a,h⟩|⟨a,h⟩:=io h
 ·have⟨ta2,ha2,h⟩:=bo h;have q:=Q2 QB ha2 (Qb (jDj a) QA);let o(l:jOj):=b1::.el (QF ta2)::l;obtain⟨b,h⟩|⟨b,h⟩:=io h
  ·have⟨ha4,h⟩:=gd h;have⟨ha5,h⟩:=gd h;have⟨ha6,h⟩:=gd h;have⟨ha7,h⟩:=gd h;have⟨ha8,h⟩:=gd h;cases h;exact rn 4 (o [b1]) [] [1,3,4] [0] (Qb ha8 (Qb ha7 (Qb ha6 (Qb ha5 (Qb ha4 (Qb b q))))))
  have⟨ha4,h⟩:=gd h;cases h;exact rn 4 (o [b0]) [] [1,3,4] [0] (Qb ha4 (Qb (Zy b) q))
 cases h;exact rx 4 [b0] [] [3] [] (Qb (jEj a) QA)
def Qom (n:Nat)(a b:Int)(c d:Bool)(e f g:Int)(h i j:jVj):Option (Int) := (QU (QnE n a b c d e f g h i j) n (0,0)).bind fun k=>some k
theorem QrK {n a b c e f g i j k l r}(h:Qom n a b c e f g i j k l=some r):Computes cx 216 [.agg [I a,I b,B c,B e,I f,I g,I i,.lst false 1 j,.lst false 6 k,.lst false 7 l]] (I r):=by unfold Qom at h;have⟨t1,h1,h⟩:=bo h;obtain rfl:=oi h;exact rf [.lp [] [1,3,4] [0] (.exit 0) [(3,.d (I t1))] [] 44] (Qb (QE QqN h1) QA)
def Qn9 (n:Nat)(b f:Int)(g h:Bool)(d e i:Int)(j k l:jVj)(a:Int):Option (Int×Int×Int) := (Qom n b f g h d e i j k l).bind fun c=>if Qg (a - b) then if Qg (c*(a - b)) then if Qg (1000000000000000 - d) then if(c*(a - b))>(1000000000000000 - d) then some (0,0,4) else if Qg (1000000000000000 - e) then if(c*(a - b))>(1000000000000000 - e) then some (0,0,4) else if Qg (d+(c*(a - b))) then if Qg (e+(c*(a - b))) then some ((d+(c*(a - b))),(e+(c*(a - b))),0) else none else none else none else none else none else none
theorem Qq5 {n d e f g i j k l m o a r}(h:Qn9 n d e f g i j k l m o a=some r):Computes cx 176 [.agg [I d,I e,B f,B g,I i,I j,I k,.lst false 1 l,.lst false 6 m,.lst false 7 o],I a] (.tup [.agg [I r.1,I r.2.1],I r.2.2]):=by
 unfold Qn9 at h;have⟨t1,h1,h⟩:=bo h;have⟨h2,h⟩:=gd h;have⟨h3,h⟩:=gd h;have⟨h4,h⟩:=gd h;have q:=Qb h4 (Qb h3 (Qb h2 (Qb (QrK h1) QA)));obtain⟨b,h⟩|⟨b,h⟩:=io h
 ·cases h;exact rf [.ret (I t1),b1,.no] (Qb (jDj b) q)
 have⟨h6,h⟩:=gd h;have q:=Qb h6 (Qb (jEj b) q);obtain⟨c,h⟩|⟨c,h⟩:=io h
 ·cases h;exact rf [.ret (I t1),b0,b1] (Qb (jDj c) q)
 have⟨h8,h⟩:=gd h;have⟨h9,h⟩:=gd h;cases h;exact rf [.ret (I t1),b0,b0] (Qb h9 (Qb h8 (Qb (jEj c) q)))
def QnQ (n:Nat)(e f:Int)(g h:Bool)(i j k:Int)(d l m:jVj)(b:jSj)(a:Int):Option (Int⊕Int⊕Unit) := if a<((d).length:Int) then(el Vg d a).bind fun c=>if(c.toList==b.toList)=true then some (.inr (.inl a)) else if Qg (a+1) then some (.inl (a+1)) else none else some (.inr (.inr ()))
noncomputable def Qrn (b c:Int)(f g:Bool)(h i j:Int)(k l m:jVj)(a:jSj):Lp (Int) (Int⊕Unit):=⟨fun n=>[(2,.d (Qe a)),(3,.ptr 0 0 0 0 0),(7,.d (I n))],fun _=>[(0,.box (.d (.agg [I b,I c,B f,B g,I h,I i,I j,.lst false 1 k,.lst false 6 l,.lst false 7 m])))],fun
 | (.inl e)=>.ret
 | (.inr e)=>(.exit 1),fun
 | (.inl e)=>[(6,.d (I e))]
 | (.inr e)=>[],fun _=>[]⟩
theorem Qp5 {n d e f g i j k l m o c}(p)(r)(h:QnQ n d e f g i j k l m o c p=some r):Rl (Zt cx.P 217 0) 64 0 false (Qrn d e f g i j k l m o c) p r:=by
 unfold QnQ at h;obtain⟨a,h⟩|⟨a,h⟩:=io h
 ·have⟨ta2,ha2,h⟩:=bo h;have q:=Q2 Zb ha2 (Qb (jDj a) QA);obtain⟨b,h⟩|⟨b,h⟩:=io h
  ·cases h;exact rx 6 [b1,.el (Wj ta2),b1] [] [6] [] (Qb b q)
  have⟨ha4,h⟩:=gd h;cases h;exact rn 6 [b1,.el (Wj ta2),b0] [] [2,3,7] [0] (Qb ha4 (Qb (Zy b) q))
 cases h;exact rx 6 [b0] [] [] [] (Qb (jEj a) QA)
def QnP (n:Nat)(e f:Int)(g h:Bool)(i j k:Int)(l d m:jVj)(b:jSj)(a:Int):Option (Int⊕Int⊕Unit) := if a<((d).length:Int) then(el QV d a).bind fun c=>if(c.1.toList==b.toList)=true then some (.inr (.inl a)) else if Qg (a+1) then some (.inl (a+1)) else none else some (.inr (.inr ()))
noncomputable def Qrm (b c:Int)(f g:Bool)(h i j:Int)(k l m:jVj)(a:jSj):Lp (Int) (Int⊕Unit):=⟨fun n=>[(2,.d (Qe a)),(3,.ptr 0 0 0 0 0),(8,.d (I n))],fun _=>[(0,.box (.d (.agg [I b,I c,B f,B g,I h,I i,I j,.lst false 1 k,.lst false 6 l,.lst false 7 m])))],fun
 | (.inl e)=>.ret
 | (.inr e)=>(.exit 3),fun
 | (.inl e)=>[(6,.d (I e))]
 | (.inr e)=>[],fun _=>[]⟩
theorem Qp4 {n d e f g i j k m p s c}(t)(r)(h:QnP n d e f g i j k m p s c t=some r):Rl (Zt cx.P 217 1) 64 0 false (Qrm d e f g i j k m p s c) t r:=by
 unfold QnP at h;obtain⟨a,h⟩|⟨a,h⟩:=io h
 ·have⟨ta2,ha2,h⟩:=bo h;have q:=Q2 QB ha2 (Qb (jDj a) QA);let o(l:jOj):=b1::.el (QF ta2)::l;obtain⟨b,h⟩|⟨b,h⟩:=io h
  ·cases h;exact rx 8 (o [b1]) [] [6] [] (Qb b q)
  have⟨ha4,h⟩:=gd h;cases h;exact rn 8 (o [b0]) [] [2,3,8] [0] (Qb ha4 (Qb (Zy b) q))
 cases h;exact rx 8 [b0] [] [] [] (Qb (jEj a) QA)
def QnO (n:Nat)(e f:Int)(g h:Bool)(i j k:Int)(l m d:jVj)(b:jSj)(a:Int):Option (Int⊕Int⊕Unit) := if a<((d).length:Int) then(el Z4 d a).bind fun c=>if(c.1.toList==b.toList)=true then some (.inr (.inl a)) else if Qg (a+1) then some (.inl (a+1)) else none else some (.inr (.inr ()))
noncomputable def Qrl (b c:Int)(f g:Bool)(h i j:Int)(k l m:jVj)(a:jSj):Lp (Int) (Int⊕Unit):=⟨fun n=>[(2,.d (Qe a)),(3,.ptr 0 0 0 0 0),(9,.d (I n))],fun _=>[(0,.box (.d (.agg [I b,I c,B f,B g,I h,I i,I j,.lst false 1 k,.lst false 6 l,.lst false 7 m])))],fun
 | (.inl e)=>.ret
 | (.inr e)=>(.exit 5),fun
 | (.inl e)=>[(6,.d (I e))]
 | (.inr e)=>[],fun _=>[]⟩
theorem Qp3 {n d e f g i j k l m o c}(p)(r)(h:QnO n d e f g i j k l m o c p=some r):Rl (Zt cx.P 217 2) 64 0 false (Qrl d e f g i j k l m o c) p r:=by
 unfold QnO at h;obtain⟨a,h⟩|⟨a,h⟩:=io h
 ·have⟨ta2,ha2,h⟩:=bo h;have q:=Q2 Zg ha2 (Qb (jDj a) QA);obtain⟨b,h⟩|⟨b,h⟩:=io h
  ·cases h;exact rx 10 [b1,.el (Zr ta2),b1] [] [6] [] (Qb b q)
  have⟨ha4,h⟩:=gd h;cases h;exact rn 10 [b1,.el (Zr ta2),b0] [] [2,3,9] [0] (Qb ha4 (Qb (Zy b) q))
 cases h;exact rx 10 [b0] [] [] [] (Qb (jEj a) QA)
def Qnk (n:Nat)(f g:Int)(h i:Bool)(j k l:Int)(m o p:jVj)(a:Int)(b:jSj):Option (Int) := if a=115 then(QU (QnQ n f g h i j k l m o p b) n 0).bind fun c=>match c with|.inl c=>(some c)|.inr c=>(some (-1)) else if a=109 then(QU (QnP n f g h i j k l m o p b) n 0).bind fun d=>match d with|.inl d=>(some d)|.inr d=>(some (-1)) else if a=111 then(QU (QnO n f g h i j k l m o p b) n 0).bind fun e=>match e with|.inl e=>(some e)|.inr e=>(some (-1)) else some (-1)
theorem QoM {n k l m o p s t u w x c e r}(h:Qnk n k l m o p s t u w x c e=some r):Computes cx 217 [.agg [I k,I l,B m,B o,I p,I s,I t,.lst false 1 u,.lst false 6 w,.lst false 7 x],.v (.int .u8 c),Qe e] (I r):=by
 unfold Qnk at h;obtain⟨j,h⟩|⟨j,h⟩:=io h
 ·have q:=Qb (eqt j) QA;have⟨f,a,h⟩:=bo h;obtain f|f:=f
  ·obtain rfl:=oi h;exact rf [b1,.lp [] [2,3,7] [0] .ret [(6,.d (I f))] [] 32] (Qb (QE Qp5 a) q)
  cases h;exact rf [b1,.lp [] [2,3,7] [0] (.exit 1) [] [] 32] (Qb (QE Qp5 a) q)
 have q:=Qb (eqf j) QA;obtain⟨a,h⟩|⟨a,h⟩:=io h
 ·have q:=Qb (eqt a) q;have⟨g,b,h⟩:=bo h;obtain g|g:=g
  ·obtain rfl:=oi h;exact rf [b0,b1,.lp [] [2,3,8] [0] .ret [(6,.d (I g))] [] 35] (Qb (QE Qp4 b) q)
  cases h;exact rf [b0,b1,.lp [] [2,3,8] [0] (.exit 3) [] [] 35] (Qb (QE Qp4 b) q)
 have q:=Qb (eqf a) q;obtain⟨b,h⟩|⟨b,h⟩:=io h
 ·have q:=Qb (eqt b) q;have⟨i,h4,h⟩:=bo h;obtain i|i:=i
  ·obtain rfl:=oi h;exact rf [b0,b0,b1,.lp [] [2,3,9] [0] .ret [(6,.d (I i))] [] 37] (Qb (QE Qp3 h4) q)
  cases h;exact rf [b0,b0,b1,.lp [] [2,3,9] [0] (.exit 5) [] [] 37] (Qb (QE Qp3 h4) q)
 cases h;exact rf [b0,b0,b0] (Qb (eqf b) q)
def Kn (n:Nat)(g h:Int)(m o:Bool)(p q r:Int)(s t u:jVj)(i:Int)(j:jSj)(c k:jVj)(l:jSj)(f:jSj×Int×Bool)(a:Int):Option (Int⊕Unit⊕Unit) := if a<(f.1.size:Int) then(UY f.1 a).bind fun b=>if b>=97 then(el Vg c a).bind fun d=>(Qnk n g h m o p q r s t u b d).bind fun e=>if e<0 then some (.inr (.inl ())) else if Qg (a+1) then some (.inl (a+1)) else none else if Qg (a+1) then some (.inl (a+1)) else none else some (.inr (.inr ()))
noncomputable def Qpp (h i:Int)(j k:Bool)(l m n:Int)(o p q:jVj)(a:Int)(b:jSj)(c f:jVj)(g:jSj)(r:jSj×Int×Bool):Lp (Int) (Unit⊕Unit):=⟨fun s=>[(2,.ptr 0 0 0 0 0),(3,.ptr 1 0 0 0 0),(5,.d (Qe r.1)),(6,.d (I s))],fun _=>[(0,.box (.d (.agg [I h,I i,B j,B k,I l,I m,I n,.lst false 1 o,.lst false 6 p,.lst false 7 q]))),(1,.box (.d (.agg [I a,Qe b,.lst false 1 c,.lst false 1 f,Qe g])))],fun
 | (.inl e)=>.ret
 | (.inr e)=>(.exit 0),fun
 | (.inl e)=>[(4,.d (I 10))]
 | (.inr e)=>[(2,.ptr 0 0 0 0 0),(3,.ptr 1 0 0 0 0),(5,.d (Qe r.1))],fun
 | (.inl e)=>[]
 | (.inr e)=>[(0,.box (.d (.agg [I h,I i,B j,B k,I l,I m,I n,.lst false 1 o,.lst false 6 p,.lst false 7 q]))),(1,.box (.d (.agg [I a,Qe b,.lst false 1 c,.lst false 1 f,Qe g])))]⟩
theorem Qop {n p s t u w x y z A C d e f g i m}(k)(r)(h:Kn n p s t u w x y z A C d e f g i m k=some r):Rl (Zt cx.P 177 0) 55 0 false (Qpp p s t u w x y z A C d e f g i m) k r:=by
 unfold Kn at h;obtain⟨a,h⟩|⟨a,h⟩:=io h
 ·have⟨ta2,j,h⟩:=bo h;have q:=Qb (Qc1 j:Zu cx.P (Instr.index 9 (.string m.1) (.int .i64 k))=some (.int .u8 ta2)) (Qb (jDj a) QA);let o(l:jOj):=b1::.el (.v (.int .u8 ta2))::l;obtain⟨b,h⟩|⟨b,h⟩:=io h
  ·have⟨ta4,ha4,h⟩:=bo h;have⟨ta5,ha5,h⟩:=bo h;have q:=Qb (QoM ha5) (Q2 Zb ha4 (Qb (Qc1 j:Zu cx.P (Instr.index 9 (.string m.1) (.int .i64 k))=some (.int .u8 ta2)) (Qb (jDj b) q)));let o l:=o (b1::.el (.v (.int .u8 ta2))::.el (Wj ta4)::.ret (I ta5)::l);obtain⟨c,h⟩|⟨c,h⟩:=io h
   ·cases h;exact rx 9 (o [b1]) [] [4] [] (Qb (jDj c) q)
   have⟨ha7,h⟩:=gd h;cases h;exact rn 9 (o [b0]) [] [2,3,5,6] [0,1] (Qb ha7 (Qb (jEj c) q))
  have⟨ha4,h⟩:=gd h;cases h;exact rn 9 (o [b0,.no]) [] [2,3,5,6] [0,1] (Qb ha4 (Qb (jEj b) q))
 cases h;exact rx 9 [b0] [] [2,3,5] [0,1] (Qb (jEj a) QA)
def um (n:Nat)(h i:Int)(j k:Bool)(l m o:Int)(p q r:jVj)(c:Int)(a:jSj)(b d:jVj)(e:jSj):Option (Int) := (QmD n a).bind fun f=>(QU (Kn n h i j k l m o p q r c a b d e f) n 0).bind fun g=>match g with|.inl g=>(some 10)|.inr g=>(if(f.1.size:Int)>0 then(UY f.1 0).bind fun s=>if s<97 then(el Vg b 0).bind fun t=>(Qnk n h i j k l m o p q r (IntKind.wrap .u8 ((IntKind.wrap .u8 (s+97)) - 65)) t).bind fun u=>if u>=0 then some 9 else some 0 else some 0 else some 0)
theorem Qp8 {n g i j k m p s t u w a b c e f r}(h:um n g i j k m p s t u w a b c e f=some r):Computes cx 177 [.agg [I g,I i,B j,B k,I m,I p,I s,.lst false 1 t,.lst false 6 u,.lst false 7 w],.agg [I a,Qe b,.lst false 1 c,.lst false 1 e,Qe f]] (I r):=by
 unfold um at h;have⟨t1,h1,h⟩:=bo h;have q:=Qb (Qqk h1) QA;let o(l:jOj):=.ret (.agg [Qe t1.1,I t1.2.1,B t1.2.2])::l;have⟨A,h2,h⟩:=bo h;obtain A|A:=A
 ·obtain rfl:=oi h;exact rf (o [.lp [] [2,3,5,6] [0,1] .ret [(4,.d (I 10))] [] 44]) (Qb (QE Qop h2) q)
 have q:=Qb (QE Qop h2) q;let o l:=o (.lp [] [2,3,5,6] [0,1] (.exit 0) [(2,.ptr 0 0 0 0 0),(3,.ptr 1 0 0 0 0),(5,.d (Qe t1.1))] [(0,.box (.d (.agg [I g,I i,B j,B k,I m,I p,I s,.lst false 1 t,.lst false 6 u,.lst false 7 w]))),(1,.box (.d (.agg [I a,Qe b,.lst false 1 c,.lst false 1 e,Qe f])))] 44::l);obtain⟨x,h⟩|⟨x,h⟩:=io h
 ·have⟨t4,C,h⟩:=bo h;have q:=Qb (Qc1 C:Zu cx.P (Instr.index 9 (.string t1.1) (.int .i64 0))=some (.int .u8 t4)) (Qb (jDj x) q);let o l:=o (b1::.el (.v (.int .u8 t4))::l);obtain⟨y,h⟩|⟨y,h⟩:=io h
  ·have⟨t6,h6,h⟩:=bo h;have⟨t7,h7,h⟩:=bo h;have q:=Qb (QoM h7) (Q2 Zb h6 (Qb (Qc1 C:Zu cx.P (Instr.index 9 (.string t1.1) (.int .i64 0))=some (.int .u8 t4)) (Qb (jDj y) q)));let o l:=o (b1::.el (.v (.int .u8 t4))::.el (Wj t6)::.ret (I t7)::l);obtain⟨z,h⟩|⟨z,h⟩:=io h
   ·obtain rfl:=oi h;exact rf (o [b1]) (Qb (jDj z) q)
   obtain rfl:=oi h;exact rf (o [b0]) (Qb (jEj z) q)
  obtain rfl:=oi h;exact rf (o [b0,.no]) (Qb (jEj y) q)
 obtain rfl:=oi h;exact rf (o [b0,.no,.no]) (Qb (jEj x) q)
def Qnw (n:Nat)(d e:Int)(f g:Bool)(h i j:Int)(k c l:jVj)(a:(Int×jVj)):Option (Int×jVj⊕jVj) := if a.1<((c).length:Int) then(el QV c a.1).bind fun b=>if b.2.2.2.2.2=true then if Wi 16 ((a.2).length+1) then if Qg (a.1+1) then some (.inl ((a.1+1),(a.2++([.v (.string b.1)]:jVj)))) else none else none else if Qg (a.1+1) then some (.inl ((a.1+1),a.2)) else none else some (.inr a.2)
noncomputable def QqF (b c:Int)(f g:Bool)(h i j:Int)(k l m:jVj):Lp (Int×jVj) (jVj):=⟨fun a=>[(1,.ptr 0 0 0 0 0),(3,.own 4 0),(4,.d (I a.1))],fun a=>[(0,.box (.d (.agg [I b,I c,B f,B g,I h,I i,I j,.lst false 1 k,.lst false 6 l,.lst false 7 m]))),(4,.row 0 1 a.2)],fun _=>(.exit 0),fun _=>[(3,.own 4 0)],fun e=>[(4,.row 0 1 e)]⟩
theorem QqA {n c d e f g i j k m p}(s)(r)(h:Qnw n c d e f g i j k m p s=some r):Rl (Zt cx.P 218 0) 28 0 false (QqF c d e f g i j k m p) s r:=by
 unfold Qnw at h;obtain⟨a,h⟩|⟨a,h⟩:=io h
 ·have⟨ta2,ha2,h⟩:=bo h;have q:=Q2 QB ha2 (Qb (jDj a) QA);let o(l:jOj):=b1::.el (QF ta2)::l;obtain⟨b,h⟩|⟨b,h⟩:=io h
  ·have⟨ha4,h⟩:=gd h;have⟨ha5,h⟩:=gd h;cases h;exact rn 5 (o [b1,.el (QF ta2),b1]) [] [1,3,4] [0,4] (Qb ha5 (Qb (ro 9 ha4) (Q2 QB ha2 (Qb b q))))
  have⟨ha4,h⟩:=gd h;cases h;exact rn 5 (o [b0]) [] [1,3,4] [0,4] (Qb ha4 (Qb (Zy b) q))
 cases h;exact rx 5 [b0] [] [3] [4] (Qb (jEj a) QA)
def Qog (n:Nat)(a b:Int)(c d:Bool)(e f g:Int)(h i j:jVj):Option (jVj) := (QU (Qnw n a b c d e f g h i j) n (0,[])).bind fun k=>some k
theorem Qrg {n a b c d e f g i j k r}(h:Qog n a b c d e f g i j k=some r):Computes cx 218 [.agg [I a,I b,B c,B d,I e,I f,I g,.lst false 1 i,.lst false 6 j,.lst false 7 k]] (.lst false 1 r):=by unfold Qog at h;have⟨t1,h1,h⟩:=bo h;obtain rfl:=oi h;exact rf [.lp [3,1] [1,3,4] [0,4] (.exit 0) [(3,.own 4 0)] [(4,.row 0 1 t1)] 40] (Qb (QE QqA h1) QA)
theorem QoS {n a b c d e f g r}(h:Za n a b c d e f g=some r):Computes cx 221 [.agg [Qe a,I b,I c,I d,I e,I f,B g]] (I r):=by unfold Za at h;have⟨h1,h⟩:=gd h;cases h;exact rf [] (Qb h1 QA)
theorem Qql {n a b c d e f g r}(h:WQ n a b c d e f g=some r):Computes cx 220 [.agg [Qe a,I b,I c,I d,I e,I f,B g]] (I r):=by unfold WQ at h;have⟨h1,h⟩:=gd h;have⟨h2,h⟩:=gd h;have⟨t3,h3,h⟩:=bo h;have⟨h4,h⟩:=gd h;have⟨h5,h⟩:=gd h;cases h;exact rf [.ret (I t3)] (Qb h5 (Qb h4 (Qb (QoS h3) (Qb h2 (Qb h1 QA)))))
def Qnj (n:Nat)(h i:Int)(j k:Bool)(l m o:Int)(p q r:jVj)(c:Int)(d:jSj)(e f:jVj)(g:jSj)(s:Int)(t:Int×Int×Int)(a:(Int×jVj)):Option (Int×jVj⊕jVj) := if a.1<((a.2).length:Int) then if 0<=a.1/\a.1<((a.2).length:Int) then((nth (a.2) (Int.toNat a.1)).bind QV).bind fun b=>if Qg (a.1+1) then some (.inl ((a.1+1),(List.set a.2 (Int.toNat a.1) (.agg [.v (.string b.1),.v (.string b.2.1),I b.2.2.1,I b.2.2.2.1,B b.2.2.2.2.1,B false]:D)))) else none else none else some (.inr a.2)
noncomputable def QqE (m b:Int)(c l:Bool)(n o f:Int)(q t r:jVj)(g:Int)(h:jSj)(i j:jVj)(k:jSj)(p:Int)(a:Int×Int×Int):Lp (Int×jVj) (jVj):=⟨fun s=>[(1,.d (Qe ⟨#[]⟩)),(2,.d (B true)),(3,.ptr 109 0 0 0 0),(6,.ptr 110 0 0 0 0),(7,.d (I s.1))],fun s=>[(0,.box (.d (.agg [I m,I b,B c,B l,I n,I o,I f,.lst false 1 q,.lst false 6 t,.lst false 7 r]))),(1,.box (.d (.agg [I g,Qe h,.lst false 1 i,.lst false 1 j,Qe k]))),(2,.box (.d YC)),(20,.box (.d (.agg [I a.1,I a.2.1]))),(33,.box (.agg [.d (I p),.d (I b),.d (B c),.d (B l),.d (I a.1),.d (I a.2.1),.d (I f),.own 40 0,.own 46 0,.own 52 0])),(35,.box (.agg [.d (I m),.d (I b),.d (B c),.d (B l),.d (I n),.d (I o),.d (I f),.own 40 0,.own 46 0,.own 52 0])),(36,.box (.agg [.d (I m),.d (I b),.d (B c),.d (B l),.d (I n),.d (I o),.d (I f),.own 40 0,.own 46 0,.own 52 0])),(40,.row 0 1 q),(46,.row 0 6 s.2),(52,.row 0 7 r),(88,.box (.agg [.d (I p),.d (I b),.d (B c),.d (B true),.d (I a.1),.d (I a.2.1),.d (I f),.own 40 0,.own 46 0,.own 52 0])),(89,.box (.d (.agg [I g,Qe h,.lst false 1 i,.lst false 1 j,Qe k]))),(90,.box (.d YC)),(109,.box (.agg [.d (I p),.d (I b),.d (B c),.d (B true),.d (I a.1),.d (I a.2.1),.d (I f),.own 40 0,.own 46 0,.own 52 0])),(110,.box (.d YC))],fun _=>(.exit 0),fun _=>[(3,.ptr 109 0 0 0 0),(6,.ptr 110 0 0 0 0)],fun e=>[(0,.box (.d (.agg [I m,I b,B c,B l,I n,I o,I f,.lst false 1 q,.lst false 6 t,.lst false 7 r]))),(1,.box (.d (.agg [I g,Qe h,.lst false 1 i,.lst false 1 j,Qe k]))),(2,.box (.d YC)),(20,.box (.d (.agg [I a.1,I a.2.1]))),(33,.box (.agg [.d (I p),.d (I b),.d (B c),.d (B l),.d (I a.1),.d (I a.2.1),.d (I f),.own 40 0,.own 46 0,.own 52 0])),(35,.box (.agg [.d (I m),.d (I b),.d (B c),.d (B l),.d (I n),.d (I o),.d (I f),.own 40 0,.own 46 0,.own 52 0])),(36,.box (.agg [.d (I m),.d (I b),.d (B c),.d (B l),.d (I n),.d (I o),.d (I f),.own 40 0,.own 46 0,.own 52 0])),(40,.row 0 1 q),(46,.row 0 6 e),(52,.row 0 7 r),(88,.box (.agg [.d (I p),.d (I b),.d (B c),.d (B true),.d (I a.1),.d (I a.2.1),.d (I f),.own 40 0,.own 46 0,.own 52 0])),(89,.box (.d (.agg [I g,Qe h,.lst false 1 i,.lst false 1 j,Qe k]))),(90,.box (.d YC)),(109,.box (.agg [.d (I p),.d (I b),.d (B c),.d (B true),.d (I a.1),.d (I a.2.1),.d (I f),.own 40 0,.own 46 0,.own 52 0])),(110,.box (.d YC))]⟩
theorem Qqz {n g i j k l m o p q s b c d e f u v}(t)(r)(h:Qnj n g i j k l m o p q s b c d e f u v t=some r):Rl (Zt cx.P 219 0) 32 109 false (QqE g i j k l m o p q s b c d e f u v) t r:=by
 unfold Qnj at h;obtain⟨a,h⟩|⟨a,h⟩:=io h
 ·have⟨ha2,h⟩:=gd h;have⟨ta3,ha3,h⟩:=bo h;have⟨ha4,h⟩:=gd h;cases h;exact rn 112 [b1,.no,.no,b1,.el (QF ta3)] [] [1,2,3,6,7] [0,1,2,20,33,35,36,40,46,52,88,89,90,109,110] (Qb ha4 (Qb (Q0 QB ha3) (Qb ha2 (Qb (jDj a) QA))))
 cases h;exact rx 112 [b0] [] [3,6] [0,1,2,20,33,35,36,40,46,52,88,89,90,109,110] (Qb (jEj a) QA)
def Qni (n:Nat)(i j:Int)(k l:Bool)(m o p:Int)(q r s:jVj)(d:Int)(e:jSj)(f g:jVj)(h:jSj)(t:Int)(u:Int×Int×Int)(c:jSj)(a:(Int×jVj)):Option (Int×jVj⊕jVj) := if a.1<((a.2).length:Int) then if 0<=a.1/\a.1<((a.2).length:Int) then((nth (a.2) (Int.toNat a.1)).bind QV).bind fun b=>if(b.2.1.toList==c.toList)=true then if Qg (a.1+1) then some (.inl ((a.1+1),(List.set a.2 (Int.toNat a.1) (.agg [.v (.string b.1),.v (.string b.2.1),I b.2.2.1,I b.2.2.2.1,B b.2.2.2.2.1,B false]:D)))) else none else if Qg (a.1+1) then some (.inl ((a.1+1),a.2)) else none else none else some (.inr a.2)
noncomputable def QqD (m b:Int)(c f:Bool)(n o g:Int)(q u r:jVj)(h:Int)(i:jSj)(j k:jVj)(l:jSj)(p:Int)(a:Int×Int×Int)(t:jSj):Lp (Int×jVj) (jVj):=⟨fun s=>[(1,.d (Qe t)),(2,.d (B false)),(3,.ptr 119 0 0 0 0),(6,.ptr 120 0 0 0 0),(7,.d (I s.1))],fun s=>[(0,.box (.d (.agg [I m,I b,B c,B f,I n,I o,I g,.lst false 1 q,.lst false 6 u,.lst false 7 r]))),(1,.box (.d (.agg [I h,Qe i,.lst false 1 j,.lst false 1 k,Qe l]))),(2,.box (.d YC)),(20,.box (.d (.agg [I a.1,I a.2.1]))),(33,.box (.agg [.d (I p),.d (I b),.d (B c),.d (B f),.d (I a.1),.d (I a.2.1),.d (I g),.own 40 0,.own 46 0,.own 52 0])),(35,.box (.agg [.d (I m),.d (I b),.d (B c),.d (B f),.d (I n),.d (I o),.d (I g),.own 40 0,.own 46 0,.own 52 0])),(36,.box (.agg [.d (I m),.d (I b),.d (B c),.d (B f),.d (I n),.d (I o),.d (I g),.own 40 0,.own 46 0,.own 52 0])),(40,.row 0 1 q),(46,.row 0 6 s.2),(52,.row 0 7 r),(96,.box (.agg [.d (I p),.d (I b),.d (B c),.d (B f),.d (I a.1),.d (I a.2.1),.d (I g),.own 40 0,.own 46 0,.own 52 0])),(97,.box (.d (.agg [I h,Qe i,.lst false 1 j,.lst false 1 k,Qe l]))),(98,.box (.d YC)),(119,.box (.agg [.d (I p),.d (I b),.d (B c),.d (B f),.d (I a.1),.d (I a.2.1),.d (I g),.own 40 0,.own 46 0,.own 52 0])),(120,.box (.d YC))],fun _=>(.exit 0),fun _=>[(3,.ptr 119 0 0 0 0),(6,.ptr 120 0 0 0 0)],fun e=>[(0,.box (.d (.agg [I m,I b,B c,B f,I n,I o,I g,.lst false 1 q,.lst false 6 u,.lst false 7 r]))),(1,.box (.d (.agg [I h,Qe i,.lst false 1 j,.lst false 1 k,Qe l]))),(2,.box (.d YC)),(20,.box (.d (.agg [I a.1,I a.2.1]))),(33,.box (.agg [.d (I p),.d (I b),.d (B c),.d (B f),.d (I a.1),.d (I a.2.1),.d (I g),.own 40 0,.own 46 0,.own 52 0])),(35,.box (.agg [.d (I m),.d (I b),.d (B c),.d (B f),.d (I n),.d (I o),.d (I g),.own 40 0,.own 46 0,.own 52 0])),(36,.box (.agg [.d (I m),.d (I b),.d (B c),.d (B f),.d (I n),.d (I o),.d (I g),.own 40 0,.own 46 0,.own 52 0])),(40,.row 0 1 q),(46,.row 0 6 e),(52,.row 0 7 r),(96,.box (.agg [.d (I p),.d (I b),.d (B c),.d (B f),.d (I a.1),.d (I a.2.1),.d (I g),.own 40 0,.own 46 0,.own 52 0])),(97,.box (.d (.agg [I h,Qe i,.lst false 1 j,.lst false 1 k,Qe l]))),(98,.box (.d YC)),(119,.box (.agg [.d (I p),.d (I b),.d (B c),.d (B f),.d (I a.1),.d (I a.2.1),.d (I g),.own 40 0,.own 46 0,.own 52 0])),(120,.box (.d YC))]⟩
theorem Qqy {n j k m p s t u v w x c d e f g z A i}(y)(r)(h:Qni n j k m p s t u v w x c d e f g z A i y=some r):Rl (Zt cx.P 219 0) 32 119 false (QqD j k m p s t u v w x c d e f g z A i) y r:=by
 unfold Qni at h;obtain⟨a,h⟩|⟨a,h⟩:=io h
 ·have⟨ha2,h⟩:=gd h;have⟨ta3,ha3,h⟩:=bo h;have q:=Qb (Q0 QB ha3) (Qb ha2 (Qb (jDj a) QA));let o(l:jOj):=b1::.no::b1::.el (QF ta3)::l;obtain⟨b,h⟩|⟨b,h⟩:=io h
  ·have⟨ha5,h⟩:=gd h;cases h;exact rn 122 (o [b1,b1,.el (QF ta3)]) [] [1,2,3,6,7] [0,1,2,20,33,35,36,40,46,52,96,97,98,119,120] (Qb ha5 (Qb (Q0 QB ha3) (Qb ha2 (Qb b q))))
  have⟨ha5,h⟩:=gd h;cases h;exact rn 122 (o [b0]) [] [1,2,3,6,7] [0,1,2,20,33,35,36,40,46,52,96,97,98,119,120] (Qb ha5 (Qb (Zy b) q))
 cases h;exact rx 122 [b0] [] [3,6] [0,1,2,20,33,35,36,40,46,52,96,97,98,119,120] (Qb (jEj a) QA)
def QmC (n:Nat)(u k:Int)(i j:Bool)(y z g:Int)(f d e:jVj)(w:Int)(m:jSj)(q p:jVj)(x:jSj):Option (Int×Int×Bool×Bool×Int×Int×Int×jVj×jVj×jVj×Int) := (el V5 p 0).bind fun h=>if h<u then some (u,k,i,j,y,z,g,f,d,e,22) else(Qn9 n u k i j y z g f d e h).bind fun a=>if a.2.2=0 then(um n u k i j y z g f d e w m q p x).bind fun J=>if J=0 then if Wi 16 (0+(f).length) then if Wi 56 (0+(d).length) then if Wi 64 (0+(e).length) then if(m.toList==(⟨#[115,117,110]⟩:jSj).toList)=true then(el V5 p 1).bind fun C=>if C>1000 then some (h,k,i,j,a.1,a.2.1,g,f,d,e,3) else some (h,C,i,j,a.1,a.2.1,g,f,d,e,0) else if(m.toList==(⟨#[102,105,108,108]⟩:jSj).toList)=true then if i=true then some (h,k,i,j,a.1,a.2.1,g,f,d,e,9) else some (h,k,true,j,a.1,a.2.1,g,f,d,e,0) else if(m.toList==(⟨#[100,114,97,105,110]⟩:jSj).toList)=true then if i=true then(Qog n h k i j a.1 a.2.1 g f d e).bind fun F=>if((F).length:Int)>0 then some (h,k,i,j,a.1,a.2.1,g,f,d,e,31) else some (h,k,false,j,a.1,a.2.1,g,f,d,e,0) else some (h,k,i,j,a.1,a.2.1,g,f,d,e,22) else if(m.toList==(⟨#[116,114,105,112]⟩:jSj).toList)=true then if j=true then some (h,k,i,j,a.1,a.2.1,g,f,d,e,9) else(QU (Qnj n u k i j y z g f d e w m q p x h a) n (0,d)).bind fun G=>some (h,k,i,true,a.1,a.2.1,g,f,G,e,0) else if(m.toList==(⟨#[114,101,115,101,116]⟩:jSj).toList)=true then if j=true then some (h,k,i,false,a.1,a.2.1,g,f,d,e,0) else some (h,k,i,j,a.1,a.2.1,g,f,d,e,22) else if(m.toList==(⟨#[111,102,102,101,114]⟩:jSj).toList)=true then(el V5 p 1).bind fun A=>if A<h then some (h,k,i,j,a.1,a.2.1,g,f,d,e,14) else(el V5 p 2).bind fun t18=>if A>=t18 then some (h,k,i,j,a.1,a.2.1,g,f,d,e,14) else(el V5 p 3).bind fun c=>(Qng n c 1 1000).bind fun l=>if l=true then some (h,k,i,j,a.1,a.2.1,g,f,d,e,3) else(el V5 p 4).bind fun E=>if E>1000 then some (h,k,i,j,a.1,a.2.1,g,f,d,e,3) else if((e).length:Int)>=32 then some (h,k,i,j,a.1,a.2.1,g,f,d,e,5) else(el Vg q 0).bind fun t=>if Wi 64 ((e).length+1) then some (h,k,i,j,a.1,a.2.1,g,f,d,(e++([.agg [.v (.string t),I A,I t18,I c,I E,I 0,B false]]:jVj)),0) else none else if(m.toList==(⟨#[100,101,108,105,118,101,114]⟩:jSj).toList)=true then(el Vg q 0).bind fun t17=>(Qnk n h k i j a.1 a.2.1 g f d e 111 t17).bind fun t18=>if 0<=t18/\t18<((e).length:Int) then((nth (e) (Int.toNat t18)).bind Z4).bind fun c=>if c.2.2.2.2.2.2=true then some (h,k,i,j,a.1,a.2.1,g,f,d,e,23) else if(m.toList==(⟨#[98,105,108,108]⟩:jSj).toList)=true then if h<c.2.2.1 then some (h,k,i,j,a.1,a.2.1,g,f,d,e,32) else(WQ n c.1 c.2.1 c.2.2.1 c.2.2.2.1 c.2.2.2.2.1 c.2.2.2.2.2.1 c.2.2.2.2.2.2).bind fun b=>if Qg (g+b) then some (h,k,i,j,a.1,a.2.1,(g+b),f,d,(List.set e (Int.toNat t18) (.agg [.v (.string c.1),I c.2.1,I c.2.2.1,I c.2.2.2.1,I c.2.2.2.2.1,I c.2.2.2.2.2.1,B true]:D)),0) else none else if h<c.2.1 then some (h,k,i,j,a.1,a.2.1,g,f,d,e,14) else if h>=c.2.2.1 then some (h,k,i,j,a.1,a.2.1,g,f,d,e,14) else(el V5 p 1).bind fun r=>if r=0 then some (h,k,i,j,a.1,a.2.1,g,f,d,e,3) else(Za n c.1 c.2.1 c.2.2.1 c.2.2.2.1 c.2.2.2.2.1 c.2.2.2.2.2.1 c.2.2.2.2.2.2).bind fun H=>if r>H then some (h,k,i,j,a.1,a.2.1,g,f,d,e,20) else if Qg (r*1000000) then if(r*1000000)>a.2.1 then some (h,k,i,j,a.1,a.2.1,g,f,d,e,16) else if Qg (a.2.1 - (r*1000000)) then if Qg (c.2.2.2.2.2.1+r) then some (h,k,i,j,a.1,(a.2.1 - (r*1000000)),g,f,d,(List.set e (Int.toNat t18) (.agg [.v (.string c.1),I c.2.1,I c.2.2.1,I c.2.2.2.1,I c.2.2.2.2.1,I (c.2.2.2.2.2.1+r),B c.2.2.2.2.2.2]:D)),0) else none else none else none else none else if(m.toList==(⟨#[98,105,108,108]⟩:jSj).toList)=true then(el Vg q 0).bind fun t18=>(Qnk n h k i j a.1 a.2.1 g f d e 111 t18).bind fun s=>if 0<=s/\s<((e).length:Int) then((nth (e) (Int.toNat s)).bind Z4).bind fun l=>if l.2.2.2.2.2.2=true then some (h,k,i,j,a.1,a.2.1,g,f,d,e,23) else if h<l.2.2.1 then some (h,k,i,j,a.1,a.2.1,g,f,d,e,32) else(WQ n l.1 l.2.1 l.2.2.1 l.2.2.2.1 l.2.2.2.2.1 l.2.2.2.2.2.1 l.2.2.2.2.2.2).bind fun b=>if Qg (g+b) then some (h,k,i,j,a.1,a.2.1,(g+b),f,d,(List.set e (Int.toNat s) (.agg [.v (.string l.1),I l.2.1,I l.2.2.1,I l.2.2.2.1,I l.2.2.2.2.1,I l.2.2.2.2.2.1,B true]:D)),0) else none else none else if(m.toList==(⟨#[115,101,99,116,111,114]⟩:jSj).toList)=true then if((f).length:Int)>=8 then some (h,k,i,j,a.1,a.2.1,g,f,d,e,5) else(el Vg q 0).bind fun c=>if Wi 16 ((f).length+1) then some (h,k,i,j,a.1,a.2.1,g,(f++([.v (.string c)]:jVj)),d,e,0) else none else if(m.toList==(⟨#[109,105,114,114,111,114]⟩:jSj).toList)=true then(el V5 p 1).bind fun c=>(Qng n c 1 100).bind fun l=>if l=true then some (h,k,i,j,a.1,a.2.1,g,f,d,e,3) else if((d).length:Int)>=32 then some (h,k,i,j,a.1,a.2.1,g,f,d,e,5) else(el Vg q 0).bind fun b=>(el Vg q 1).bind fun r=>if Wi 56 ((d).length+1) then some (h,k,i,j,a.1,a.2.1,g,f,(d++([.agg [.v (.string b),.v (.string r),I c,I 0,B false,B false]]:jVj)),e,0) else none else if(m.toList==(⟨#[100,105,109]⟩:jSj).toList)=true then(el Vg q 0).bind fun l=>(QU (Qni n u k i j y z g f d e w m q p x h a l) n (0,d)).bind fun o=>some (h,k,i,j,a.1,a.2.1,g,f,o,e,0) else(el Vg q 0).bind fun l=>(Qnk n h k i j a.1 a.2.1 g f d e 109 l).bind fun o=>if 0<=o/\o<((d).length:Int) then((nth (d) (Int.toNat o)).bind QV).bind fun b=>if(m.toList==(⟨#[115,111,105,108]⟩:jSj).toList)=true then(el V5 p 1).bind fun t=>if t>1000 then some (h,k,i,j,a.1,a.2.1,g,f,d,e,3) else if(Int.toNat o)<(d).length then some (h,k,i,j,a.1,a.2.1,g,f,(List.set d (Int.toNat o) (.agg [.v (.string b.1),.v (.string b.2.1),I b.2.2.1,I t,B b.2.2.2.2.1,B b.2.2.2.2.2]:D)),e,0) else none else if(m.toList==(⟨#[99,108,101,97,110]⟩:jSj).toList)=true then if(Int.toNat o)<(d).length then some (h,k,i,j,a.1,a.2.1,g,f,(List.set d (Int.toNat o) (.agg [.v (.string b.1),.v (.string b.2.1),I b.2.2.1,I 0,B b.2.2.2.2.1,B b.2.2.2.2.2]:D)),e,0) else none else if(m.toList==(⟨#[100,101,102,101,99,116]⟩:jSj).toList)=true then if b.2.2.2.2.1=true then some (h,k,i,j,a.1,a.2.1,g,f,d,e,9) else if b.2.2.2.2.2=true then some (h,k,i,j,a.1,a.2.1,g,f,d,e,31) else if(Int.toNat o)<(d).length then some (h,k,i,j,a.1,a.2.1,g,f,(List.set d (Int.toNat o) (.agg [.v (.string b.1),.v (.string b.2.1),I b.2.2.1,I b.2.2.2.1,B true,B b.2.2.2.2.2]:D)),e,0) else none else if(m.toList==(⟨#[114,101,112,97,105,114]⟩:jSj).toList)=true then if b.2.2.2.2.1=true then if(Int.toNat o)<(d).length then some (h,k,i,j,a.1,a.2.1,g,f,(List.set d (Int.toNat o) (.agg [.v (.string b.1),.v (.string b.2.1),I b.2.2.1,I b.2.2.2.1,B false,B b.2.2.2.2.2]:D)),e,0) else none else some (h,k,i,j,a.1,a.2.1,g,f,d,e,22) else if(m.toList==(⟨#[97,105,109]⟩:jSj).toList)=true then if i=true then if j=true then some (h,k,i,j,a.1,a.2.1,g,f,d,e,29) else if b.2.2.2.2.1=true then some (h,k,i,j,a.1,a.2.1,g,f,d,e,21) else if b.2.2.2.2.2=true then some (h,k,i,j,a.1,a.2.1,g,f,d,e,9) else if(Int.toNat o)<(d).length then some (h,k,i,j,a.1,a.2.1,g,f,(List.set d (Int.toNat o) (.agg [.v (.string b.1),.v (.string b.2.1),I b.2.2.1,I b.2.2.2.1,B b.2.2.2.2.1,B true]:D)),e,0) else none else some (h,k,i,j,a.1,a.2.1,g,f,d,e,30) else if b.2.2.2.2.2=true then if(Int.toNat o)<(d).length then some (h,k,i,j,a.1,a.2.1,g,f,(List.set d (Int.toNat o) (.agg [.v (.string b.1),.v (.string b.2.1),I b.2.2.1,I b.2.2.2.1,B b.2.2.2.2.1,B false]:D)),e,0) else none else some (h,k,i,j,a.1,a.2.1,g,f,d,e,22) else none else none else none else none else some (u,k,i,j,y,z,g,f,d,e,J) else some (u,k,i,j,y,z,g,f,d,e,a.2.2)
theorem QoW {n Q F G O S T H V X W J K L M N r}(h:QmC n Q F G O S T H V X W J K L M N=some r):Computes cx 70 [.agg [I Q,I F,B G,B O,I S,I T,I H,.lst false 1 V,.lst false 6 X,.lst false 7 W],.agg [I J,Qe K,.lst false 1 L,.lst false 1 M,Qe N]] (.tup [.agg [I r.1,I r.2.1,B r.2.2.1,B r.2.2.2.1,I r.2.2.2.2.1,I r.2.2.2.2.2.1,I r.2.2.2.2.2.2.1,.lst false 1 r.2.2.2.2.2.2.2.1,.lst false 6 r.2.2.2.2.2.2.2.2.1,.lst false 7 r.2.2.2.2.2.2.2.2.2.1],I r.2.2.2.2.2.2.2.2.2.2]):=by
 unfold QmC at h;have⟨t1,h1,h⟩:=bo h;have q:=Q2 QM h1 QA;let o(l:jOj):=.el (Zi t1)::l;obtain⟨Z,h⟩|⟨Z,h⟩:=io h
 ·cases h;exact rf (o [b1]) (Qb (jDj Z) q)
 have⟨t3,h3,h⟩:=bo h;have q:=Qb (Qq5 h3) (Q2 QM h1 (Qb (jEj Z) q));let o l:=o (b0::.el (Zi t1)::.ret (.tup [.agg [I t3.1,I t3.2.1],I t3.2.2])::l);obtain⟨Y,h⟩|⟨Y,h⟩:=io h
 ·have⟨t5,h5,h⟩:=bo h;have q:=Qb (Qp8 h5) (Qb (eqt Y) q);let o l:=o (b1::.ret (I t5)::l);obtain⟨h6,h⟩|⟨h6,h⟩:=io h
  ·have⟨h7,h⟩:=gd h;have⟨h8,h⟩:=gd h;have⟨h9,h⟩:=gd h;have q:=Q2 QM h1 (Qb (ro 270 h9) (Qb (ro 272 h8) (Qb (ro 9 h7) (Qb (nef h6) q))));let o l:=o (b0::b1::.ix (-8)::b1::.ix (-8)::b1::.ix (-8)::b1::.el (Zi t1)::l);obtain⟨z,h⟩|⟨z,h⟩:=io h
   ·have⟨t11,v,h⟩:=bo h;have q:=Q2 QM v (Qb z (Qb z (Qb z q)));let o l:=o (b1::b1::b1::b1::.el (Zi t11)::l);obtain⟨j,h⟩|⟨j,h⟩:=io h
    ·cases h;exact rf (o [b1]) (Qb (jDj j) q)
    cases h;exact rf (o [b0,.el (Zi t11)]) (Q2 QM v (Qb (jEj j) q))
   have q:=Qb (Zy z) q;let o l:=o (b0::l);obtain⟨v,h⟩|⟨v,h⟩:=io h
   ·have q:=Qb v (Qb (Zy z) (Qb v (Qb v q)));let o l:=o (b1::b1::b1::b0::b1::l);obtain⟨j,h⟩|⟨j,h⟩:=io h
    ·cases h;exact rf (o [b1]) (Qb j q)
    cases h;exact rf (o [b0]) (Qb (Zy j) q)
   have q:=Qb (Zy v) q;let o l:=o (b0::l);obtain⟨j,h⟩|⟨j,h⟩:=io h
   ·have q:=Qb j (Qb (Zy v) (Qb (Zy z) (Qb j (Qb j q))));let o l:=o (b1::b1::b1::b0::b0::b1::l);obtain⟨w,h⟩|⟨w,h⟩:=io h
    ·have⟨t14,A,h⟩:=bo h;have q:=Qb (Qrg A) (Qb (zV w) q);let o l:=o (b0::.ret (.lst false 1 t14)::l);obtain⟨f,h⟩|⟨f,h⟩:=io h
     ·cases h;exact rf (o [b1]) (Qb (jDj f) q)
     cases h;exact rf (o [b0]) (Qb (jEj f) q)
    cases h;exact rf (o [b1]) (Qb (wG (Zy w)) q)
   have q:=Qb (Zy j) q;let o l:=o (b0::l);obtain⟨w,h⟩|⟨w,h⟩:=io h
   ·have q:=Qb w (Qb (Zy j) (Qb (Zy v) (Qb (Zy z) (Qb w (Qb w q)))));let o l:=o (b1::b1::b1::b0::b0::b0::b1::l);obtain⟨A,h⟩|⟨A,h⟩:=io h
    ·cases h;exact rf (o [b1]) (Qb A q)
    have⟨t15,f,h⟩:=bo h;cases h;exact rf (o [b0,b1,.lp [] [1,2,3,6,7] [0,1,2,20,33,35,36,40,46,52,88,89,90,109,110] (.exit 0) [(3,.ptr 109 0 0 0 0),(6,.ptr 110 0 0 0 0)] [(0,.box (.d (.agg [I Q,I F,B G,B O,I S,I T,I H,.lst false 1 V,.lst false 6 X,.lst false 7 W]))),(1,.box (.d (.agg [I J,Qe K,.lst false 1 L,.lst false 1 M,Qe N]))),(2,.box (.d YC)),(20,.box (.d (.agg [I t3.1,I t3.2.1]))),(33,.box (.agg [.d (I t1),.d (I F),.d (B G),.d (B O),.d (I t3.1),.d (I t3.2.1),.d (I H),.own 40 0,.own 46 0,.own 52 0])),(35,.box (.agg [.d (I Q),.d (I F),.d (B G),.d (B O),.d (I S),.d (I T),.d (I H),.own 40 0,.own 46 0,.own 52 0])),(36,.box (.agg [.d (I Q),.d (I F),.d (B G),.d (B O),.d (I S),.d (I T),.d (I H),.own 40 0,.own 46 0,.own 52 0])),(40,.row 0 1 V),(46,.row 0 6 t15),(52,.row 0 7 W),(88,.box (.agg [.d (I t1),.d (I F),.d (B G),.d (B true),.d (I t3.1),.d (I t3.2.1),.d (I H),.own 40 0,.own 46 0,.own 52 0])),(89,.box (.d (.agg [I J,Qe K,.lst false 1 L,.lst false 1 M,Qe N]))),(90,.box (.d YC)),(109,.box (.agg [.d (I t1),.d (I F),.d (B G),.d (B true),.d (I t3.1),.d (I t3.2.1),.d (I H),.own 40 0,.own 46 0,.own 52 0])),(110,.box (.d YC))] 148]) (Qb (QE Qqz f) (Qb (Zy A) q))
   have q:=Qb (Zy w) q;let o l:=o (b0::l);obtain⟨A,h⟩|⟨A,h⟩:=io h
   ·have q:=Qb (Zy w) (Qb (Zy j) (Qb (Zy v) (Qb (Zy z) (Qb A q))));let o l:=o (b1::b1::b0::b0::b0::b0::l);obtain⟨f,h⟩|⟨f,h⟩:=io h
    ·cases h;exact rf (o [b0]) (Qb (zV f) q)
    cases h;exact rf (o [b1]) (Qb (wG (Zy f)) q)
   have q:=Qb (Zy A) q;let o l:=o (b0::l);obtain⟨f,h⟩|⟨f,h⟩:=io h
   ·have⟨t16,C,h⟩:=bo h;have q:=Q2 QM h1 (Q2 QM C (Qb f (Qb f (Qb f q))));let o l:=o (b1::b1::b1::b1::.el (Zi t16)::.el (Zi t1)::l);obtain⟨x,h⟩|⟨x,h⟩:=io h
    ·cases h;exact rf (o [b1,.no]) (Qb (jDj x) q)
    have⟨t18,y,h⟩:=bo h;have q:=Q2 QM y (Q2 QM C (Qb (jEj x) q));let o l:=o (b0::.el (Zi t16)::.el (Zi t18)::l);obtain⟨g,h⟩|⟨g,h⟩:=io h
    ·cases h;exact rf (o [b1]) (Qb (jDj g) q)
    have⟨t20,e,h⟩:=bo h;have⟨t21,i,h⟩:=bo h;have q:=Qb (Qoh i) (Q2 QM e (Qb (jEj g) q));let o l:=o (b0::.el (Zi t20)::.ret (B t21)::l);obtain⟨b,h⟩|⟨b,h⟩:=io h
    ·cases h;exact rf (o [b1,.no]) (Qb b q)
    have⟨t23,a,h⟩:=bo h;have q:=Q2 QM a (Qb (Zy b) q);let o l:=o (b0::.el (Zi t23)::l);obtain⟨k,h⟩|⟨k,h⟩:=io h
    ·cases h;exact rf (o [b1]) (Qb (jDj k) q)
    have q:=Qb (jEj k) q;obtain⟨c,h⟩|⟨c,h⟩:=io h
    ·cases h;exact rf (o [b0,b1]) (Qb (jDj c) q)
    have⟨t26,p,h⟩:=bo h;have⟨t,h⟩:=gd h;cases h;exact rf (o [b0,b0,.el (Wj t26),.el (Zi t16),.el (Zi t18),.el (Zi t20),.el (Zi t23),b1]) (Qb (ro 270 t) (Q2 QM a (Q2 QM e (Q2 QM y (Q2 QM C (Q2 Zb p (Qb (jEj c) q)))))))
   have q:=Qb (Zy f) q;let o l:=o (b0::l);obtain⟨C,h⟩|⟨C,h⟩:=io h
   ·have⟨t17,x,h⟩:=bo h;have⟨t18,y,h⟩:=bo h;have⟨g,h⟩:=gd h;have⟨t20,e,h⟩:=bo h;have q:=Qb (Q0 Zg e) (Qb g (Qb (QoM y) (Q2 Zb x (Qb (Zy f) (Qb C (Qb C q))))));let o l:=o (b1::b1::b1::b0::.el (Wj t17)::.ix 0::.ret (I t18)::b1::.el (Zr t20)::l);obtain⟨i,h⟩|⟨i,h⟩:=io h
    ·cases h;exact rf (o [b1]) (Qb i q)
    have q:=Qb (Zy i) q;let o l:=o (b0::l);obtain⟨b,h⟩|⟨b,h⟩:=io h
    ·have q:=Q2 QM h1 (Qb b q);let o l:=o (b1::.el (Zi t1)::l);obtain⟨a,h⟩|⟨a,h⟩:=io h
     ·cases h;exact rf (o [b1]) (Qb (jDj a) q)
     have⟨t24,k,h⟩:=bo h;have⟨c,h⟩:=gd h;cases h;exact rf (o [b0,b1,.el (Zr t20),.ret (I t24)]) (Qb c (Qb (Qql k) (Qb (Q0 Zg e) (Qb g (Qb (jEj a) q)))))
    have q:=Q2 QM h1 (Qb (Zy b) q);let o l:=o (b0::.el (Zi t1)::l);obtain⟨a,h⟩|⟨a,h⟩:=io h
    ·cases h;exact rf (o [b1,.no]) (Qb (jDj a) q)
    have q:=Q2 QM h1 (Qb (jEj a) q);let o l:=o (b0::.el (Zi t1)::l);obtain⟨k,h⟩|⟨k,h⟩:=io h
    ·cases h;exact rf (o [b1]) (Qb (jDj k) q)
    have⟨t25,c,h⟩:=bo h;have q:=Q2 QM c (Qb (jEj k) q);let o l:=o (b0::.el (Zi t25)::l);obtain⟨p,h⟩|⟨p,h⟩:=io h
    ·cases h;exact rf (o [b1]) (Qb (eqt p) q)
    have⟨t27,t,h⟩:=bo h;have q:=Qb (QoS t) (Q2 QM c (Qb (eqf p) q));let o l:=o (b0::.el (Zi t25)::.ret (I t27)::l);obtain⟨u,h⟩|⟨u,h⟩:=io h
    ·cases h;exact rf (o [b1]) (Qb (jDj u) q)
    have⟨s,h⟩:=gd h;have q:=Qb s (Q2 QM c (Qb (jEj u) q));let o l:=o (b0::.el (Zi t25)::l);obtain⟨m,h⟩|⟨m,h⟩:=io h
    ·cases h;exact rf (o [b1]) (Qb (jDj m) q)
    have⟨E,h⟩:=gd h;have⟨P,h⟩:=gd h;cases h;exact rf (o [b0,.el (Zi t25),.el (Zi t25),b1,.el (Zr t20)]) (Qb (Q0 Zg e) (Qb g (Qb P (Q2 QM c (Qb E (Qb s (Q2 QM c (Qb (jEj m) q))))))))
   have q:=Qb (Zy C) q;let o l:=o (b0::l);obtain⟨x,h⟩|⟨x,h⟩:=io h
   ·have⟨t18,y,h⟩:=bo h;have⟨t19,g,h⟩:=bo h;have⟨e,h⟩:=gd h;have⟨t21,i,h⟩:=bo h;have q:=Qb (Q0 Zg i) (Qb e (Qb (QoM g) (Q2 Zb y (Qb (Zy f) (Qb x q)))));let o l:=o (b1::b1::b0::.el (Wj t18)::.ix 0::.ret (I t19)::b1::.el (Zr t21)::l);obtain⟨b,h⟩|⟨b,h⟩:=io h
    ·cases h;exact rf (o [b1]) (Qb b q)
    have q:=Q2 QM h1 (Qb x (Qb (Zy b) q));let o l:=o (b0::b1::.el (Zi t1)::l);obtain⟨a,h⟩|⟨a,h⟩:=io h
    ·cases h;exact rf (o [b1]) (Qb (jDj a) q)
    have⟨t24,k,h⟩:=bo h;have⟨c,h⟩:=gd h;cases h;exact rf (o [b0,b1,.el (Zr t21),.ret (I t24)]) (Qb c (Qb (Qql k) (Qb (Q0 Zg i) (Qb e (Qb (jEj a) q)))))
   have q:=Qb (Zy x) q;let o l:=o (b0::b1::l);obtain⟨y,h⟩|⟨y,h⟩:=io h
   ·have q:=Qb y q;obtain⟨g,h⟩|⟨g,h⟩:=io h
    ·cases h;exact rf (o [b1,b1]) (Qb (jDj g) q)
    have⟨t20,e,h⟩:=bo h;have⟨i,h⟩:=gd h;cases h;exact rf (o [b1,b0,.el (Wj t20),b1]) (Qb (ro 9 i) (Q2 Zb e (Qb (jEj g) q)))
   have q:=Qb (Zy y) q;let o l:=o (b0::l);obtain⟨g,h⟩|⟨g,h⟩:=io h
   ·have⟨t20,e,h⟩:=bo h;have⟨t21,i,h⟩:=bo h;have q:=Qb (Qoh i) (Q2 QM e (Qb g q));let o l:=o (b1::.el (Zi t20)::.ret (B t21)::l);obtain⟨b,h⟩|⟨b,h⟩:=io h
    ·cases h;exact rf (o [b1]) (Qb b q)
    have q:=Qb (Zy b) q;obtain⟨a,h⟩|⟨a,h⟩:=io h
    ·cases h;exact rf (o [b0,b1]) (Qb (jDj a) q)
    have⟨t24,k,h⟩:=bo h;have⟨t25,c,h⟩:=bo h;have⟨p,h⟩:=gd h;cases h;exact rf (o [b0,b0,.el (Wj t24),.el (Wj t25),.el (Zi t20),b1]) (Qb (ro 272 p) (Q2 QM e (Q2 Zb c (Q2 Zb k (Qb (jEj a) q)))))
   have q:=Qb (Zy g) q;let o l:=o (b0::l);obtain⟨e,h⟩|⟨e,h⟩:=io h
   ·have⟨t21,i,h⟩:=bo h;have⟨t22,b,h⟩:=bo h;cases h;exact rf (o [b1,.el (Wj t21),.ix (-9),b1,.lp [] [1,2,3,6,7] [0,1,2,20,33,35,36,40,46,52,96,97,98,119,120] (.exit 0) [(3,.ptr 119 0 0 0 0),(6,.ptr 120 0 0 0 0)] [(0,.box (.d (.agg [I Q,I F,B G,B O,I S,I T,I H,.lst false 1 V,.lst false 6 X,.lst false 7 W]))),(1,.box (.d (.agg [I J,Qe K,.lst false 1 L,.lst false 1 M,Qe N]))),(2,.box (.d YC)),(20,.box (.d (.agg [I t3.1,I t3.2.1]))),(33,.box (.agg [.d (I t1),.d (I F),.d (B G),.d (B O),.d (I t3.1),.d (I t3.2.1),.d (I H),.own 40 0,.own 46 0,.own 52 0])),(35,.box (.agg [.d (I Q),.d (I F),.d (B G),.d (B O),.d (I S),.d (I T),.d (I H),.own 40 0,.own 46 0,.own 52 0])),(36,.box (.agg [.d (I Q),.d (I F),.d (B G),.d (B O),.d (I S),.d (I T),.d (I H),.own 40 0,.own 46 0,.own 52 0])),(40,.row 0 1 V),(46,.row 0 6 t22),(52,.row 0 7 W),(96,.box (.agg [.d (I t1),.d (I F),.d (B G),.d (B O),.d (I t3.1),.d (I t3.2.1),.d (I H),.own 40 0,.own 46 0,.own 52 0])),(97,.box (.d (.agg [I J,Qe K,.lst false 1 L,.lst false 1 M,Qe N]))),(98,.box (.d YC)),(119,.box (.agg [.d (I t1),.d (I F),.d (B G),.d (B O),.d (I t3.1),.d (I t3.2.1),.d (I H),.own 40 0,.own 46 0,.own 52 0])),(120,.box (.d YC))] 158]) (Qb (QE Qqy b) (Q2 Zb i (Qb e q)))
   have⟨t21,i,h⟩:=bo h;have⟨t22,b,h⟩:=bo h;have⟨a,h⟩:=gd h;have⟨t24,k,h⟩:=bo h;have q:=Qb (Q0 QB k) (Qb a (Qb (QoM b) (Q2 Zb i (Qb (Zy e) q))));let o l:=o (b0::.el (Wj t21)::.ix 0::.ret (I t22)::b1::.el (QF t24)::l);obtain⟨c,h⟩|⟨c,h⟩:=io h
   ·have⟨t26,p,h⟩:=bo h;have q:=Q2 QM p (Qb c q);let o l:=o (b1::.el (Zi t26)::l);obtain⟨t,h⟩|⟨t,h⟩:=io h
    ·cases h;exact rf (o [b1]) (Qb (jDj t) q)
    have⟨u,h⟩:=gd h;cases h;exact rf (o [b0,.el (Zi t26),b1,b1]) (Qb u (Qb a (Q2 QM p (Qb (jEj t) q))))
   have q:=Qb (Zy c) q;let o l:=o (b0::l);obtain⟨p,h⟩|⟨p,h⟩:=io h
   ·have⟨t,h⟩:=gd h;cases h;exact rf (o [b1,b1,b1]) (Qb t (Qb a (Qb p q)))
   have q:=Qb (Zy p) q;let o l:=o (b0::l);obtain⟨t,h⟩|⟨t,h⟩:=io h
   ·have q:=Qb t q;obtain⟨u,h⟩|⟨u,h⟩:=io h
    ·cases h;exact rf (o [b1,b1]) (Qb u q)
    have q:=Qb (Zy u) q;obtain⟨s,h⟩|⟨s,h⟩:=io h
    ·cases h;exact rf (o [b1,b0,b1]) (Qb s q)
    have⟨m,h⟩:=gd h;cases h;exact rf (o [b1,b0,b0,b1,b1]) (Qb m (Qb a (Qb (Zy s) q)))
   have q:=Qb (Zy t) q;let o l:=o (b0::l);obtain⟨u,h⟩|⟨u,h⟩:=io h
   ·have q:=Qb u q;obtain⟨s,h⟩|⟨s,h⟩:=io h
    ·have⟨m,h⟩:=gd h;cases h;exact rf (o [b1,b0,b1,b1]) (Qb m (Qb a (Qb (zV s) q)))
    cases h;exact rf (o [b1,b1]) (Qb (wG (Zy s)) q)
   have q:=Qb (Zy u) q;let o l:=o (b0::l);obtain⟨s,h⟩|⟨s,h⟩:=io h
   ·have q:=Qb s q;let o l:=o (b1::l);obtain⟨m,h⟩|⟨m,h⟩:=io h
    ·have q:=Qb (zV m) q;obtain⟨E,h⟩|⟨E,h⟩:=io h
     ·cases h;exact rf (o [b0,b1]) (Qb E q)
     have q:=Qb (Zy E) q;let o l:=o (b0::b0::l);obtain⟨P,h⟩|⟨P,h⟩:=io h
     ·cases h;exact rf (o [b1]) (Qb P q)
     have q:=Qb (Zy P) q;obtain⟨U,h⟩|⟨U,h⟩:=io h
     ·cases h;exact rf (o [b0,b1]) (Qb U q)
     have⟨h34,h⟩:=gd h;cases h;exact rf (o [b0,b0,b1,b1]) (Qb h34 (Qb a (Qb (Zy U) q)))
    cases h;exact rf (o [b1]) (Qb (wG (Zy m)) q)
   have q:=Qb (Zy s) q;obtain⟨m,h⟩|⟨m,h⟩:=io h
   ·have⟨E,h⟩:=gd h;cases h;exact rf (o [b0,b0,b1,b1]) (Qb E (Qb a (Qb (zV m) q)))
   cases h;exact rf (o [b0,b1]) (Qb (wG (Zy m)) q)
  cases h;exact rf (o [b1]) (Qb (net h6) q)
 cases h;exact rf (o [b0,b1]) (Qb (net Y) (Qb (eqf Y) q))
def QnA (x:jRj):D:=.agg [I x.1,I x.2.1,B x.2.2.1,B x.2.2.2.1,I x.2.2.2.2.1,I x.2.2.2.2.2.1,I x.2.2.2.2.2.2.1,.lst false 1 x.2.2.2.2.2.2.2.1,.lst false 6 x.2.2.2.2.2.2.2.2.1,.lst false 7 x.2.2.2.2.2.2.2.2.2]
def QnF:D->Option (jRj)
 | .agg [c0,c1,c2,c3,c4,c5,c6,c7,c8,c9]=>(YZ .i64 c0).bind fun a=>(YZ .i64 c1).bind fun b=>(wv c2).bind fun c=>(wv c3).bind fun d=>(YZ .i64 c4).bind fun e=>(YZ .i64 c5).bind fun f=>(YZ .i64 c6).bind fun g=>(jt 1 c7).bind fun h=>(jt 6 c8).bind fun i=>(jt 7 c9).bind fun j=>some (a,b,c,d,e,f,g,h,i,j)
 | _=>none
theorem Qox {d:D}{x:jRj}(h:QnF d=some x):d=QnA x:=by
 unfold QnF at h;split at h;case h_2=>cases h
 obtain⟨w,m,h⟩:=Wh h;obtain⟨y,n,h⟩:=Wh h;obtain⟨z,o,h⟩:=Wh h;obtain⟨A,p,h⟩:=Wh h;obtain⟨C,q,h⟩:=Wh h;obtain⟨E,r,h⟩:=Wh h;obtain⟨F,s,h⟩:=Wh h;obtain⟨G,t,h⟩:=Wh h;obtain⟨H,u,h⟩:=Wh h;obtain⟨J,v,h⟩:=Wh h;cases h;have a:=Vj m;have b:=Vj n;have c:=zH o;have e:=zH p;have f:=Vj q;have g:=Vj r;have i:=Vj s;have j:=qK t;have k:=qK u;have l:=qK v;rw[a,b,c,e,f,g,i,j,k,l];rfl
def QmP:Option D->Bool
 | some (.agg [.v (.int .i64 0),.v (.int .i64 0),.v (.bool false),.v (.bool false),.v (.int .i64 0),.v (.int .i64 0),.v (.int .i64 0),.lst true 0 [],.lst true 0 [],.lst true 0 []])=>true
 | _=>false
theorem Qoo {o:Option D}(h:QmP o=true):o=some YC:=by
 unfold QmP at h;split at h
 ·rfl
 ·cases h
def QmH (n:Nat)(g:jVj)(c:(Unit)⊕jVj×jVj×Int):Option ((Unit⊕jVj×jVj×Int)⊕Int×Int⊕Unit⊕jVj×jVj):=match c with|(.inl c)=>(if 0<((g).length:Int) then(el Wc g 0).bind fun a=>(Qnb n a.1 a.2.1 a.2.2.1 a.2.2.2.1 a.2.2.2.2).bind fun f=>if f=0 then if a.1=1 then if(a.2.1.toList==(⟨#[117,110,100,111]⟩:jSj).toList)=true then some (.inr (.inl (1,12))) else(QmC n 0 0 false false 0 0 0 ([]) ([]) ([]) a.1 a.2.1 a.2.2.1 a.2.2.2.1 a.2.2.2.2).bind fun d=>if d.2.2.2.2.2.2.2.2.2.2=0 then some (.inl (.inr ([.agg [I a.1,.v (.string a.2.1),.lst false 1 a.2.2.1,.lst false 1 a.2.2.2.1,.v (.string a.2.2.2.2)]],[jZj,.agg [I d.1,I d.2.1,B d.2.2.1,B d.2.2.2.1,I d.2.2.2.2.1,I d.2.2.2.2.2.1,I d.2.2.2.2.2.2.1,.lst false 1 d.2.2.2.2.2.2.2.1,.lst false 6 d.2.2.2.2.2.2.2.2.1,.lst false 7 d.2.2.2.2.2.2.2.2.2.1]],1))) else some (.inr (.inl (1,d.2.2.2.2.2.2.2.2.2.2))) else some (.inr (.inl (1,11))) else some (.inr (.inl (1,f))) else some (.inr (.inr (.inl ()))))|.inr c=>(if c.2.2<((g).length:Int) then(el Wc g c.2.2).bind fun a=>(Qnb n a.1 a.2.1 a.2.2.1 a.2.2.2.1 a.2.2.2.2).bind fun f=>if f=0 then if Qg (c.2.2+1) then if a.1=(c.2.2+1) then if(a.2.1.toList==(⟨#[117,110,100,111]⟩:jSj).toList)=true then if((c.1).length:Int)=0 then some (.inr (.inl ((c.2.2+1),12))) else if Qg (((c.1).length:Int) - 1) then(el Wc c.1 (((c.1).length:Int) - 1)).bind fun b=>if(b.2.1.toList==(⟨#[100,101,108,105,118,101,114]⟩:jSj).toList)=true then some (.inr (.inl ((c.2.2+1),21))) else if(b.2.1.toList==(⟨#[98,105,108,108]⟩:jSj).toList)=true then some (.inr (.inl ((c.2.2+1),21))) else if(0:Int)<=0/\0<=(((c.1).length:Int) - 1)/\(((c.1).length:Int) - 1)<=((c.1).length:Int)/\(c.1=[]\/5=5) then if(0:Int)<=0/\0<=((c.1).length:Int)/\((c.1).length:Int)<=((c.2.1).length:Int)/\(c.2.1=[]\/10=10) then some (.inl (.inr (((c.1.take (Int.toNat (((c.1).length:Int) - 1))).drop (Int.toNat 0)),((c.2.1.take (Int.toNat ((c.1).length:Int))).drop (Int.toNat 0)),(c.2.2+1)))) else none else none else none else if QmP (nth (c.2.1) (Int.toNat ((c.1).length:Int)))=true then if(0:Int)<=((c.1).length:Int) then(QmC n 0 0 false false 0 0 0 ([]) ([]) ([]) a.1 a.2.1 a.2.2.1 a.2.2.2.1 a.2.2.2.2).bind fun b=>if b.2.2.2.2.2.2.2.2.2.2=0 then if Wi 88 (0+(c.1).length) then if Wi 88 ((c.1).length+1) then if Wi 120 (0+(c.2.1).length) then if Wi 120 ((c.2.1).length+1) then some (.inl (.inr ((c.1++([.agg [I a.1,.v (.string a.2.1),.lst false 1 a.2.2.1,.lst false 1 a.2.2.2.1,.v (.string a.2.2.2.2)]]:jVj)),(c.2.1++([.agg [I b.1,I b.2.1,B b.2.2.1,B b.2.2.2.1,I b.2.2.2.2.1,I b.2.2.2.2.2.1,I b.2.2.2.2.2.2.1,.lst false 1 b.2.2.2.2.2.2.2.1,.lst false 6 b.2.2.2.2.2.2.2.2.1,.lst false 7 b.2.2.2.2.2.2.2.2.2.1]]:jVj)),(c.2.2+1)))) else none else none else none else none else some (.inr (.inl ((c.2.2+1),b.2.2.2.2.2.2.2.2.2.2))) else none else(el QnF c.2.1 ((c.1).length:Int)).bind fun e=>(QmC n e.1 e.2.1 e.2.2.1 e.2.2.2.1 e.2.2.2.2.1 e.2.2.2.2.2.1 e.2.2.2.2.2.2.1 e.2.2.2.2.2.2.2.1 e.2.2.2.2.2.2.2.2.1 e.2.2.2.2.2.2.2.2.2 a.1 a.2.1 a.2.2.1 a.2.2.2.1 a.2.2.2.2).bind fun b=>if b.2.2.2.2.2.2.2.2.2.2=0 then if Wi 88 (0+(c.1).length) then if Wi 88 ((c.1).length+1) then if Wi 120 (0+(c.2.1).length) then if Wi 120 ((c.2.1).length+1) then some (.inl (.inr ((c.1++([.agg [I a.1,.v (.string a.2.1),.lst false 1 a.2.2.1,.lst false 1 a.2.2.2.1,.v (.string a.2.2.2.2)]]:jVj)),(c.2.1++([.agg [I b.1,I b.2.1,B b.2.2.1,B b.2.2.2.1,I b.2.2.2.2.1,I b.2.2.2.2.2.1,I b.2.2.2.2.2.2.1,.lst false 1 b.2.2.2.2.2.2.2.1,.lst false 6 b.2.2.2.2.2.2.2.2.1,.lst false 7 b.2.2.2.2.2.2.2.2.2.1]]:jVj)),(c.2.2+1)))) else none else none else none else none else some (.inr (.inl ((c.2.2+1),b.2.2.2.2.2.2.2.2.2.2))) else some (.inr (.inl ((c.2.2+1),11))) else none else if Qg (c.2.2+1) then some (.inr (.inl ((c.2.2+1),f))) else none else some (.inr (.inr (.inr (c.1,c.2.1)))))
noncomputable def Qqb (a:jVj):Lp (Unit⊕jVj×jVj×Int) (Int×Int⊕Unit⊕jVj×jVj):=⟨fun
 | (.inl sa)=>[(0,.d (.lst false 5 a)),(6,.d (.lst true 0 [])),(7,.d (.lst true 10 [jZj])),(8,.d (I 0))]
 | (.inr sa)=>[(0,.d (.lst false 5 a)),(6,.d (.lst false 5 sa.1)),(7,.d (.lst false 10 sa.2.1)),(8,.d (I sa.2.2))],fun _=>[],fun
 | (.inl e)=>.ret
 | (.inr (.inl e))=>(.exit 0)
 | (.inr (.inr e))=>(.exit 0),fun
 | (.inl e)=>[(2,.d (.lst true 0 [])),(3,.d (.lst true 0 [])),(4,.d (I e.1)),(5,.d (I e.2))]
 | (.inr (.inl e))=>[(6,.d (.lst true 0 [])),(7,.d (.lst true 10 [jZj]))]
 | (.inr (.inr e))=>[(6,.d (.lst false 5 e.1)),(7,.d (.lst false 10 e.2))],fun _=>[]⟩
theorem Qoi {n k}(j)(r)(h:QmH n k j=some r):Rl (Zt cx.P 26 0) 113 0 false (Qqb k) j r:=by
 unfold QmH at h;obtain j|j:=j
 ·obtain⟨f,h⟩|⟨f,h⟩:=io h
  ·have⟨ta2,ha2,h⟩:=bo h;have⟨ta3,ha3,h⟩:=bo h;have q:=Qb (QoL ha3) (Q2 V6 ha2 (Qb (jDj f) QA));let o(l:jOj):=b1::.el (VQ ta2)::.ret (I ta3)::l;obtain⟨b,h⟩|⟨b,h⟩:=io h
   ·have q:=Qb ((by unfold Qg;omega):Qg 1) (Q2 V6 ha2 (Qb (eqt b) q));let o l:=o (b1::.el (VQ ta2)::l);obtain⟨c,h⟩|⟨c,h⟩:=io h
    ·have q:=Q2 V6 ha2 (Qb (eqt b) (Qb (nef c) q));let o l:=o (b0::b1::.el (VQ ta2)::l);obtain⟨g,h⟩|⟨g,h⟩:=io h
     ·cases h;exact rx 12 (o [b1,.no,.no,.no]) [] [2,3,4,5] [] (Qb ((by unfold Qg;omega):Qg 1) (Qb g q))
     have⟨ta7,i,h⟩:=bo h;have q:=Qb (((QoW i).le (.cons (.aggs (.cons (.refl _) (.cons (.refl _) (.cons (.refl _) (.cons (.refl _) (.cons (.refl _) (.cons (.refl _) (.cons (.refl _) (.cons (.nilF) (.cons (.nilF) (.cons (.nilF) (.nil)))))))))))) (.cons (.refl _) (.nil))) (.refl _)):Computes cx 70 [jZj,.agg [I ta2.1,Qe ta2.2.1,.lst false 1 ta2.2.2.1,.lst false 1 ta2.2.2.2.1,Qe ta2.2.2.2.2]] (.tup [.agg [I ta7.1,I ta7.2.1,B ta7.2.2.1,B ta7.2.2.2.1,I ta7.2.2.2.2.1,I ta7.2.2.2.2.2.1,I ta7.2.2.2.2.2.2.1,.lst false 1 ta7.2.2.2.2.2.2.2.1,.lst false 6 ta7.2.2.2.2.2.2.2.2.1,.lst false 7 ta7.2.2.2.2.2.2.2.2.2.1],I ta7.2.2.2.2.2.2.2.2.2.2])) (Q2 V6 ha2 (Qb (eqt b) (Qb (Zy g) q)));let o l:=o (b0::b1::.no::.el (VQ ta2)::.ret (.tup [.agg [I ta7.1,I ta7.2.1,B ta7.2.2.1,B ta7.2.2.2.1,I ta7.2.2.2.2.1,I ta7.2.2.2.2.2.1,I ta7.2.2.2.2.2.2.1,.lst false 1 ta7.2.2.2.2.2.2.2.1,.lst false 6 ta7.2.2.2.2.2.2.2.2.1,.lst false 7 ta7.2.2.2.2.2.2.2.2.2.1],I ta7.2.2.2.2.2.2.2.2.2.2])::l);obtain⟨e,h⟩|⟨e,h⟩:=io h
     ·cases h;exact rn 12 (o [b0,.no,.no,.el (VQ ta2),.no,.no,.ix 0,.ix (-8),.no,.no,.ix (-7)]) [] [0,6,7,8] [] (Qb ((by unfold Qg;omega):Qg 1) (Q2 V6 ha2 (Qb (nef e) q)))
     cases h;exact rx 12 (o [b1]) [] [2,3,4,5] [] (Qb ((by unfold Qg;omega):Qg 1) (Qb (net e) q))
    cases h;exact rx 12 (o [b1,.no,.no,.no,.no]) [] [2,3,4,5] [] (Qb ((by unfold Qg;omega):Qg 1) (Qb (net c) q))
   cases h;exact rx 12 (o [b0,.no,b0,.no,b0,b1]) [] [2,3,4,5] [] (Qb ((by unfold Qg;omega):Qg 1) (Qb (net b) (Qb (eqf b) (Qb (eqf b) (Qb (eqf b) q)))))
  cases h;exact rx 12 [b0] [] [6,7] [] (Qb (jEj f) QA)
 ·obtain⟨f,h⟩|⟨f,h⟩:=io h
  ·have⟨ta2,ha2,h⟩:=bo h;have⟨ta3,ha3,h⟩:=bo h;have q:=Qb (QoL ha3) (Q2 V6 ha2 (Qb (jDj f) QA));let o(l:jOj):=b1::.el (VQ ta2)::.ret (I ta3)::l;obtain⟨b,h⟩|⟨b,h⟩:=io h
   ·have⟨c,h⟩:=gd h;have q:=Qb c (Q2 V6 ha2 (Qb (eqt b) q));let o l:=o (b1::.el (VQ ta2)::l);obtain⟨g,h⟩|⟨g,h⟩:=io h
    ·have q:=Q2 V6 ha2 (Qb (eqt b) (Qb (nef g) q));let o l:=o (b0::b1::.el (VQ ta2)::l);obtain⟨i,h⟩|⟨i,h⟩:=io h
     ·have q:=Qb i q;obtain⟨e,h⟩|⟨e,h⟩:=io h
      ·cases h;exact rx 12 (o [b1,b1,.no,.no]) [] [2,3,4,5] [] (Qb c (Qb (eqt e) q))
      have⟨ha9,h⟩:=gd h;have⟨ta10,ha10,h⟩:=bo h;have q:=Q2 V6 ha10 (Qb ha9 (Qb (eqf e) q));let o l:=o (b1::b0::.el (VQ ta10)::l);obtain⟨a,h⟩|⟨a,h⟩:=io h
      ·cases h;exact rx 12 (o [b1,.no,.no,.no]) [] [2,3,4,5] [] (Qb c (Qb a q))
      have q:=Q2 V6 ha10 (Qb ha9 (Qb (Zy a) q));let o l:=o (b0::.el (VQ ta10)::l);obtain⟨d,h⟩|⟨d,h⟩:=io h
      ·cases h;exact rx 12 (o [b1,.no,.no]) [] [2,3,4,5] [] (Qb c (Qb d q))
      have⟨ha13,h⟩:=gd h;have⟨ha14,h⟩:=gd h;cases h;exact rn 12 (o [b0,b1,b1]) [] [0,6,7,8] [] (Qb c (Qb ha14 (Qb ha13 (Qb ha9 (Qb (Zy d) q)))))
     have q:=Qb (eqt b) (Qb (Zy i) q);let o l:=o (b0::b1::l);obtain⟨e,h⟩|⟨e,h⟩:=io h
     ·have⟨ha9,h⟩:=gd h;have⟨ta10,ha10,h⟩:=bo h;have q:=Qb (((QoW ha10).le (.cons (.aggs (.cons (.refl _) (.cons (.refl _) (.cons (.refl _) (.cons (.refl _) (.cons (.refl _) (.cons (.refl _) (.cons (.refl _) (.cons (.nilF) (.cons (.nilF) (.cons (.nilF) (.nil)))))))))))) (.cons (.refl _) (.nil))) (.refl _)):Computes cx 70 [jZj,.agg [I ta2.1,Qe ta2.2.1,.lst false 1 ta2.2.2.1,.lst false 1 ta2.2.2.2.1,Qe ta2.2.2.2.2]] (.tup [.agg [I ta10.1,I ta10.2.1,B ta10.2.2.1,B ta10.2.2.2.1,I ta10.2.2.2.2.1,I ta10.2.2.2.2.2.1,I ta10.2.2.2.2.2.2.1,.lst false 1 ta10.2.2.2.2.2.2.2.1,.lst false 6 ta10.2.2.2.2.2.2.2.2.1,.lst false 7 ta10.2.2.2.2.2.2.2.2.2.1],I ta10.2.2.2.2.2.2.2.2.2.2])) (Q2 V6 ha2 (Qb ha9 (Qb ((Qoo e):nth (j.2.1) (Int.toNat ((j.1).length:Int))=some YC) q)));let o l:=o (.el YC::.el (VQ ta2)::.ret (.tup [.agg [I ta10.1,I ta10.2.1,B ta10.2.2.1,B ta10.2.2.2.1,I ta10.2.2.2.2.1,I ta10.2.2.2.2.2.1,I ta10.2.2.2.2.2.2.1,.lst false 1 ta10.2.2.2.2.2.2.2.1,.lst false 6 ta10.2.2.2.2.2.2.2.2.1,.lst false 7 ta10.2.2.2.2.2.2.2.2.2.1],I ta10.2.2.2.2.2.2.2.2.2.2])::l);obtain⟨a,h⟩|⟨a,h⟩:=io h
      ·have⟨d,h⟩:=gd h;have⟨ha13,h⟩:=gd h;have⟨ha14,h⟩:=gd h;have⟨ha15,h⟩:=gd h;cases h;exact rn 12 (o [b0,.ix (-8),b1,.el (VQ ta2),b1,.ix (-7),.ix (-8),b1,b1,.ix (-7)]) [] [0,6,7,8] [] (Qb c (Qb (ro 30 ha15) (Qb (ro 30 ha14) (Qb (ro 35 ha13) (Q2 V6 ha2 (Qb (ro 35 d) (Qb (nef a) q)))))))
      cases h;exact rx 12 (o [b1]) [] [2,3,4,5] [] (Qb c (Qb (net a) q))
     have⟨ta9,ha9,h⟩:=bo h;have⟨ta10,ha10,h⟩:=bo h;have q:=Qb (QoW ha10) (Q2 V6 ha2 (Q2 Qox ha9 q));let o l:=o (.el (QnA ta9)::.el (VQ ta2)::.ret (.tup [.agg [I ta10.1,I ta10.2.1,B ta10.2.2.1,B ta10.2.2.2.1,I ta10.2.2.2.2.1,I ta10.2.2.2.2.2.1,I ta10.2.2.2.2.2.2.1,.lst false 1 ta10.2.2.2.2.2.2.2.1,.lst false 6 ta10.2.2.2.2.2.2.2.2.1,.lst false 7 ta10.2.2.2.2.2.2.2.2.2.1],I ta10.2.2.2.2.2.2.2.2.2.2])::l);obtain⟨a,h⟩|⟨a,h⟩:=io h
     ·have⟨d,h⟩:=gd h;have⟨ha13,h⟩:=gd h;have⟨ha14,h⟩:=gd h;have⟨ha15,h⟩:=gd h;cases h;exact rn 12 (o [b0,.ix (-8),b1,.el (VQ ta2),b1,.ix (-7),.ix (-8),b1,b1,.ix (-7)]) [] [0,6,7,8] [] (Qb c (Qb (ro 30 ha15) (Qb (ro 30 ha14) (Qb (ro 35 ha13) (Q2 V6 ha2 (Qb (ro 35 d) (Qb (nef a) q)))))))
     cases h;exact rx 12 (o [b1]) [] [2,3,4,5] [] (Qb c (Qb (net a) q))
    cases h;exact rx 12 (o [b1,.no,.no,.no,.no]) [] [2,3,4,5] [] (Qb c (Qb (net g) q))
   have⟨c,h⟩:=gd h;cases h;exact rx 12 (o [b0,.no,b0,.no,b0,b1]) [] [2,3,4,5] [] (Qb c (Qb (net b) (Qb (eqf b) (Qb (eqf b) (Qb (eqf b) q)))))
  cases h;exact rx 12 [b0] [] [6,7] [] (Qb (jEj f) QA)
def QnZ (n:Nat)(b:jVj):Option (jVj×jVj×Int×Int) := if((b).length:Int)>1000 then some ([],[],0,5) else(QU (QmH n b) n (.inl ())).bind fun a=>match a with|.inl a=>(some ([],[],a.1,a.2))|(.inr (.inl a))=>(some ([],[jZj],0,0))|(.inr (.inr a))=>(some (a.1,a.2,0,0))
theorem QqM {n c r}(h:QnZ n c=some r):Computes cx 26 [.lst false 5 c] (.tup [.lst false 5 r.1,.lst false 10 r.2.1,I r.2.2.1,I r.2.2.2]):=by
 unfold QnZ at h;obtain⟨b,h⟩|⟨b,h⟩:=io h
 ·cases h;exact(rf (r:=.tup [.lst true 0 [],.lst true 0 [],I 0,I 5]) [b1] (Qb (jDj b) QA)).le (LEs.refl _) (.tups (.cons (.nilF) (.cons (.nilF) (.cons (.refl _) (.cons (.refl _) (.nil))))))
 have q:=Qb (jEj b) QA;have⟨a,h2,h⟩:=bo h;obtain a|a|a:=a
 ·cases h;exact(rf (r:=.tup [.lst true 0 [],.lst true 0 [],I a.1,I a.2]) [b0,.lp [] [0,6,7,8] [] .ret [(2,.d (.lst true 0 [])),(3,.d (.lst true 0 [])),(4,.d (I a.1)),(5,.d (I a.2))] [] 97] (Qb (QE Qoi h2) q)).le (LEs.refl _) (.tups (.cons (.nilF) (.cons (.nilF) (.cons (.refl _) (.cons (.refl _) (.nil))))))
 ·cases h;exact(rf (r:=.tup [.lst true 0 [],.lst true 10 [jZj],I 0,I 0]) [b0,.lp [] [0,6,7,8] [] (.exit 0) [(6,.d (.lst true 0 [])),(7,.d (.lst true 10 [jZj]))] [] 97] (Qb (QE Qoi h2) q)).le (LEs.refl _) (.tups (.cons (.nilF) (.cons (.full _ _ _) (.cons (.refl _) (.cons (.refl _) (.nil))))))
 cases h;exact rf [b0,.lp [] [0,6,7,8] [] (.exit 0) [(6,.d (.lst false 5 a.1)),(7,.d (.lst false 10 a.2))] [] 97] (Qb (QE Qoi h2) q)
def Qn8 (n:Nat)(c:jVj):Option (Int×Int×Bool×Bool×Int×Int×Int×jVj×jVj×jVj×Int×Int) := (QnZ n c).bind fun b=>if b.2.2.2=0 then if Qg (((b.2.1).length:Int) - 1) then if QmP (nth (b.2.1) (Int.toNat (((b.2.1).length:Int) - 1)))=true then if(0:Int)<=(((b.2.1).length:Int) - 1) then some (0,0,false,false,0,0,0,[],[],[],0,0) else none else(el QnF b.2.1 (((b.2.1).length:Int) - 1)).bind fun a=>some (a.1,a.2.1,a.2.2.1,a.2.2.2.1,a.2.2.2.2.1,a.2.2.2.2.2.1,a.2.2.2.2.2.2.1,a.2.2.2.2.2.2.2.1,a.2.2.2.2.2.2.2.2.1,a.2.2.2.2.2.2.2.2.2,0,0) else none else some (0,0,false,false,0,0,0,[],[],[],b.2.2.1,b.2.2.2)
theorem Qq4 {n b r}(h:Qn8 n b=some r):Computes cx 6 [.lst false 5 b] (.tup [.agg [I r.1,I r.2.1,B r.2.2.1,B r.2.2.2.1,I r.2.2.2.2.1,I r.2.2.2.2.2.1,I r.2.2.2.2.2.2.1,.lst false 1 r.2.2.2.2.2.2.2.1,.lst false 6 r.2.2.2.2.2.2.2.2.1,.lst false 7 r.2.2.2.2.2.2.2.2.2.1],I r.2.2.2.2.2.2.2.2.2.2.1,I r.2.2.2.2.2.2.2.2.2.2.2]):=by
 unfold Qn8 at h;have⟨t1,h1,h⟩:=bo h;have q:=Qb (QqM h1) QA;let o(l:jOj):=.ret (.tup [.lst false 5 t1.1,.lst false 10 t1.2.1,I t1.2.2.1,I t1.2.2.2])::l;obtain⟨a,h⟩|⟨a,h⟩:=io h
 ·have⟨h3,h⟩:=gd h;have q:=Qb h3 (Qb (nef a) q);obtain⟨c,h⟩|⟨c,h⟩:=io h
  ·have⟨h5,h⟩:=gd h;cases h;exact(rf (r:=.tup [jZj,I 0,I 0]) (o [b0,.el YC]) (Qb h5 (Qb ((Qoo c):nth (t1.2.1) (Int.toNat (((t1.2.1).length:Int) - 1))=some YC) q))).le (LEs.refl _) (.tups (.cons (.aggs (.cons (.refl _) (.cons (.refl _) (.cons (.refl _) (.cons (.refl _) (.cons (.refl _) (.cons (.refl _) (.cons (.refl _) (.cons (.nilF) (.cons (.nilF) (.cons (.nilF) (.nil)))))))))))) (.cons (.refl _) (.cons (.refl _) (.nil)))))
  have⟨t5,h5,h⟩:=bo h;cases h;exact rf (o [b0,.el (QnA t5)]) (Q2 Qox h5 q)
 cases h;exact(rf (r:=.tup [jZj,I t1.2.2.1,I t1.2.2.2]) (o [b1]) (Qb (net a) q)).le (LEs.refl _) (.tups (.cons (.aggs (.cons (.refl _) (.cons (.refl _) (.cons (.refl _) (.cons (.refl _) (.cons (.refl _) (.cons (.refl _) (.cons (.refl _) (.cons (.nilF) (.cons (.nilF) (.cons (.nilF) (.nil)))))))))))) (.cons (.refl _) (.cons (.refl _) (.nil)))))
def QkM (n:Nat)(a:jSj):Option (Int) := if((⟨#[10]⟩:jSj).toList==a.toList)=true then some 0 else(Un n a 10).bind fun b=>some b
theorem Qlb {n b r}(h:QkM n b=some r):Computes cx 182 [Qe b,Qe ⟨#[10]⟩] (I r):=by
 unfold QkM at h;obtain⟨a,h⟩|⟨a,h⟩:=io h
 ·obtain rfl:=oi h;exact rf [.no,b1] (Qb a QA)
 have⟨t2,h2,h⟩:=bo h;obtain rfl:=oi h;exact rf [.no,b0,.no,.no,.ret (I t2)] (Qb (ko h2) (Qb (Zy a) QA))
def QkQ (n:Nat)(a:jSj):Option (jSj×jSj×Bool) := (QkM n a).bind fun b=>if b>=0 then(XY a none (some b)).bind fun c=>if Qg (b+1) then(XY a (some (b+1)) none).bind fun d=>some (c,d,true) else none else some (a,⟨#[]⟩,false)
theorem Qlj {n a r}(h:QkQ n a=some r):Computes cx 78 [Qe a,Qe ⟨#[10]⟩] (.tup [Qe r.1,Qe r.2.1,B r.2.2]):=by
 unfold QkQ at h;have⟨t1,h1,h⟩:=bo h;have q:=Qb (Qlb h1) QA;obtain⟨b,h⟩|⟨b,h⟩:=io h
 ·have⟨t3,c,h⟩:=bo h;have⟨h4,h⟩:=gd h;have⟨t5,d,h⟩:=bo h;cases h;exact rf [.ret (I t1),b1,.el (Qe t3),.el (Qe t5)] (Qb (Qa1 d:Zu cx.P (Instr.sliceAt 9 (.string a) (some (.int .i64 (t1+1))) none none)=some (.string t5)) (Qb h4 (Qb (Qa1 c:Zu cx.P (Instr.sliceAt 9 (.string a) none (some (.int .i64 t1)) none)=some (.string t3)) (Qb (jDj b) q))))
 cases h;exact rf [.ret (I t1),b0] (Qb (jEj b) q)
def QkR (n:Nat)(b:jSj):Option (jSj×jSj×Bool) := (QkQ n b).bind fun a=>some (a.1,a.2.1,a.2.2)
theorem Qlu {n a r}(h:QkR n a=some r):Computes cx 31 [Qe a,Qe ⟨#[10]⟩] (.tup [Qe r.1,Qe r.2.1,B r.2.2]):=by unfold QkR at h;have⟨t1,h1,h⟩:=bo h;cases h;exact rf [.ret (.tup [Qe t1.1,Qe t1.2.1,B t1.2.2])] (Qb (Qlj h1) QA)
def QkS (n:Nat)(c:jSj)(a:(Int×Int)):Option (Int×Int⊕Int) := if a.2<(c.size:Int) then if Qg (353*a.1) then(UY c a.2).bind fun b=>if Qg ((353*a.1)+(IntKind.wrap .i64 b)) then if Qg (a.2+1) then some (.inl ((Int.tmod ((353*a.1)+(IntKind.wrap .i64 b)) 9999649),(a.2+1))) else none else none else none else some (.inr a.1)
noncomputable def Qld (a:jSj):Lp (Int×Int) (Int):=⟨fun b=>[(0,.d (Qe a)),(3,.d (I b.1)),(8,.d (I (a.size:Int))),(9,.d (I b.2))],fun _=>[],fun _=>(.exit 0),fun e=>[(3,.d (I e))],fun _=>[]⟩
theorem Qlc {n b}(d)(r)(h:QkS n b d=some r):Rl (Zt cx.P 77 0) 38 0 false (Qld b) d r:=by
 unfold QkS at h;obtain⟨a,h⟩|⟨a,h⟩:=io h
 ·have⟨ha2,h⟩:=gd h;have⟨ta3,c,h⟩:=bo h;have⟨ha4,h⟩:=gd h;have⟨ha5,h⟩:=gd h;cases h;exact rn 5 [b1,.el (.v (.int .u8 ta3))] [] [0,3,8,9] [] (Qb ha5 (Qb ((by decide):(9999649:Int)≠0) (Qb ha4 (Qb (Qc1 c:Zu cx.P (Instr.index 9 (.string b) (.int .i64 d.2))=some (.int .u8 ta3)) (Qb ha2 (Qb (jDj a) QA))))))
 cases h;exact rx 5 [b0] [] [3] [] (Qb (jEj a) QA)
def QkO (n:Nat)(c:jSj):Option (jSj) := (QU (QkS n c) n (1,0)).bind fun a=>if Qg (48+(Int.tmod a 10)) then if Qg (Int.tdiv a 10) then if Qg (48+(Int.tmod (Int.tdiv a 10) 10)) then if Qg (Int.tdiv (Int.tdiv a 10) 10) then if Qg (48+(Int.tmod (Int.tdiv (Int.tdiv a 10) 10) 10)) then if Qg (Int.tdiv (Int.tdiv (Int.tdiv a 10) 10) 10) then if Qg (48+(Int.tmod (Int.tdiv (Int.tdiv (Int.tdiv a 10) 10) 10) 10)) then if Qg (Int.tdiv (Int.tdiv (Int.tdiv (Int.tdiv a 10) 10) 10) 10) then if Qg (48+(Int.tmod (Int.tdiv (Int.tdiv (Int.tdiv (Int.tdiv a 10) 10) 10) 10) 10)) then if Qg (Int.tdiv (Int.tdiv (Int.tdiv (Int.tdiv (Int.tdiv a 10) 10) 10) 10) 10) then if Qg (48+(Int.tmod (Int.tdiv (Int.tdiv (Int.tdiv (Int.tdiv (Int.tdiv a 10) 10) 10) 10) 10) 10)) then if Qg (Int.tdiv (Int.tdiv (Int.tdiv (Int.tdiv (Int.tdiv (Int.tdiv a 10) 10) 10) 10) 10) 10) then if Qg (48+(Int.tmod (Int.tdiv (Int.tdiv (Int.tdiv (Int.tdiv (Int.tdiv (Int.tdiv a 10) 10) 10) 10) 10) 10) 10)) then if Qg (Int.tdiv (Int.tdiv (Int.tdiv (Int.tdiv (Int.tdiv (Int.tdiv (Int.tdiv a 10) 10) 10) 10) 10) 10) 10) then((ku ([.v (.int .u8 (IntKind.wrap .u8 (48+(Int.tmod (Int.tdiv (Int.tdiv (Int.tdiv (Int.tdiv (Int.tdiv (Int.tdiv a 10) 10) 10) 10) 10) 10) 10)))),.v (.int .u8 (IntKind.wrap .u8 (48+(Int.tmod (Int.tdiv (Int.tdiv (Int.tdiv (Int.tdiv (Int.tdiv a 10) 10) 10) 10) 10) 10)))),.v (.int .u8 (IntKind.wrap .u8 (48+(Int.tmod (Int.tdiv (Int.tdiv (Int.tdiv (Int.tdiv a 10) 10) 10) 10) 10)))),.v (.int .u8 (IntKind.wrap .u8 (48+(Int.tmod (Int.tdiv (Int.tdiv (Int.tdiv a 10) 10) 10) 10)))),.v (.int .u8 (IntKind.wrap .u8 (48+(Int.tmod (Int.tdiv (Int.tdiv a 10) 10) 10)))),.v (.int .u8 (IntKind.wrap .u8 (48+(Int.tmod (Int.tdiv a 10) 10)))),.v (.int .u8 (IntKind.wrap .u8 (48+(Int.tmod a 10))))])).map fun l=>ByteArray.mk l.toArray).bind fun b=>some b else none else none else none else none else none else none else none else none else none else none else none else none else none else none
theorem Qk2 {n a r}(h:QkO n a=some r):Computes cx 77 [Qe a] (Qe r):=by unfold QkO at h;have⟨t1,h1,h⟩:=bo h;have⟨h2,h⟩:=gd h;have⟨h3,h⟩:=gd h;have⟨h4,h⟩:=gd h;have⟨h5,h⟩:=gd h;have⟨h6,h⟩:=gd h;have⟨h7,h⟩:=gd h;have⟨h8,h⟩:=gd h;have⟨h9,h⟩:=gd h;have⟨h10,h⟩:=gd h;have⟨h11,h⟩:=gd h;have⟨h12,h⟩:=gd h;have⟨h13,h⟩:=gd h;have⟨h14,h⟩:=gd h;have⟨h15,h⟩:=gd h;have⟨t16,h16,h⟩:=bo h;obtain rfl:=oi h;exact rf (.lp [] [0,3,8,9] [] (.exit 0) [(3,.d (I t1))] [] 30::(no 31 [.el (Qe t16)])) (Qb h16 (Qb ((by unfold Qg;omega):Qg 7) (Qb ((by decide):(10:Int)≠0) (Qb h15 (Qb h14 (Qb ((by decide):(10:Int)≠0) (Qb ((by unfold Qg;omega):Qg 0) (Qb ((by unfold Qg;omega):Qg 6) (Qb ((by decide):(10:Int)≠0) (Qb h13 (Qb h12 (Qb ((by decide):(10:Int)≠0) (Qb ((by unfold Qg;omega):Qg 1) (Qb ((by unfold Qg;omega):Qg 5) (Qb ((by decide):(10:Int)≠0) (Qb h11 (Qb h10 (Qb ((by decide):(10:Int)≠0) (Qb ((by unfold Qg;omega):Qg 2) (Qb ((by unfold Qg;omega):Qg 4) (Qb ((by decide):(10:Int)≠0) (Qb h9 (Qb h8 (Qb ((by decide):(10:Int)≠0) (Qb ((by unfold Qg;omega):Qg 3) (Qb ((by unfold Qg;omega):Qg 3) (Qb ((by decide):(10:Int)≠0) (Qb h7 (Qb h6 (Qb ((by decide):(10:Int)≠0) (Qb ((by unfold Qg;omega):Qg 4) (Qb ((by unfold Qg;omega):Qg 2) (Qb ((by decide):(10:Int)≠0) (Qb h5 (Qb h4 (Qb ((by decide):(10:Int)≠0) (Qb ((by unfold Qg;omega):Qg 5) (Qb ((by unfold Qg;omega):Qg 1) (Qb ((by decide):(10:Int)≠0) (Qb h3 (Qb h2 (Qb ((by decide):(10:Int)≠0) (Qb ((by unfold Qg;omega):Qg 6) (Qb (QE Qlc h1) QA))))))))))))))))))))))))))))))))))))))))))))
def V2 (n:Nat)(a:jSj):Option (Int) := if((⟨#[32]⟩:jSj).toList==a.toList)=true then some 0 else(Un n a 32).bind fun b=>some b
theorem EC {n b r}(h:V2 n b=some r):Computes cx 182 [Qe b,Qe ⟨#[32]⟩] (I r):=by
 unfold V2 at h;obtain⟨a,h⟩|⟨a,h⟩:=io h
 ·obtain rfl:=oi h;exact rf [.no,b1] (Qb a QA)
 have⟨t2,h2,h⟩:=bo h;obtain rfl:=oi h;exact rf [.no,b0,.no,.no,.ret (I t2)] (Qb (ko h2) (Qb (Zy a) QA))
def YO (n:Nat)(a:jSj):Option (Int) := (V2 n a).bind fun b=>some b
theorem yz {n a r}(h:YO n a=some r):Computes cx 207 [Qe a,Qe ⟨#[32]⟩] (I r):=by unfold YO at h;have⟨t1,h1,h⟩:=bo h;obtain rfl:=oi h;exact rf [.ret (I t1)] (Qb (EC h1) QA)
def Wb (n:Nat)(e:jSj)(f:Int)(a:(jSj×Int×jVj)):Option (jSj×Int×jVj⊕jSj×Int×jVj) := if a.2.1<((Zv (f+1) ((e.size:Int)+1)) - 1) then(YO n a.1).bind fun b=>if b<0 then some (.inr (a.1,a.2.1,a.2.2)) else if Qg (b+0) then(XY a.1 none (some (b+0))).bind fun c=>if 0<=a.2.1/\a.2.1<((a.2.2).length:Int) then if(Int.toNat a.2.1)<(a.2.2).length then if Qg (b+1) then(XY a.1 (some (b+1)) none).bind fun d=>if Qg (a.2.1+1) then some (.inl (d,(a.2.1+1),(List.set a.2.2 (Int.toNat a.2.1) (.v (.string c):D)))) else none else none else none else none else none else some (.inr (a.1,a.2.1,a.2.2))
noncomputable def EP (b:jSj)(c:Int):Lp (jSj×Int×jVj) (jSj×Int×jVj):=⟨fun a=>[(0,.d (Qe a.1)),(1,.d (Qe ⟨#[32]⟩)),(2,.d (I 0)),(3,.d (I ((Zv (c+1) ((b.size:Int)+1)) - 1))),(9,.own 19 0),(10,.d (I a.2.1))],fun a=>[(19,.row 0 1 a.2.2)],fun _=>(.exit 0),fun e=>[(0,.d (Qe e.1)),(9,.own 19 0),(10,.d (I e.2.1))],fun e=>[(19,.row 0 1 e.2.2)]⟩
theorem EJ {n f g}(c)(r)(h:Wb n f g c=some r):Rl (Zt cx.P 103 0) 66 0 false (EP f g) c r:=by
 unfold Wb at h;obtain⟨a,h⟩|⟨a,h⟩:=io h
 ·have⟨ta2,ha2,h⟩:=bo h;have q:=Qb (yz ha2) (Qb (jDj a) QA);obtain⟨b,h⟩|⟨b,h⟩:=io h
  ·cases h;exact rx 25 [b1,.ret (I ta2),b1] [] [0,9,10] [19] (Qb (jDj b) q)
  have⟨ha4,h⟩:=gd h;have⟨ta5,d,h⟩:=bo h;have⟨ha6,h⟩:=gd h;have⟨ha7,h⟩:=gd h;have⟨ha8,h⟩:=gd h;have⟨ta9,e,h⟩:=bo h;have⟨ha10,h⟩:=gd h;cases h;exact rn 25 [b1,.ret (I ta2),b0,.el (Qe ta5),b1,b1,.el (Qe ta9)] [] [0,1,2,3,9,10] [19] (Qb ha10 (Qb (Qa1 e:Zu cx.P (Instr.sliceAt 9 (.string c.1) (some (.int .i64 (ta2+1))) none none)=some (.string ta9)) (Qb ha8 (Qb ha7 (Qb ha6 (Qb (Qa1 d:Zu cx.P (Instr.sliceAt 9 (.string c.1) none (some (.int .i64 (ta2+0))) none)=some (.string ta5)) (Qb ha4 (Qb (jEj b) q))))))))
 cases h;exact rx 25 [b0] [] [0,9,10] [19] (Qb (jEj a) QA)
def YI (n:Nat)(b:jSj):Option (jVj) := (UC n b (⟨#[32]⟩)).bind fun c=>if Qg (c+1) then if Qg ((b.size:Int)+1) then if 0<=(Zv (c+1) ((b.size:Int)+1))/\(Zv (c+1) ((b.size:Int)+1))<=(Zv (c+1) ((b.size:Int)+1))/\16*(Zv (c+1) ((b.size:Int)+1))<=281474976710656/\(Zv (c+1) ((b.size:Int)+1))<=9223372036854775807 then if Qg ((Zv (c+1) ((b.size:Int)+1)) - 1) then(QU (Wb n b c) n (b,0,(List.replicate (Int.toNat (Zv (c+1) ((b.size:Int)+1))) (.v (.string ⟨#[]⟩):D)))).bind fun a=>if 0<=a.2.1/\a.2.1<((a.2.2).length:Int) then if(Int.toNat a.2.1)<(a.2.2).length then if Qg (a.2.1+1) then if(0:Int)<=0/\0<=(a.2.1+1)/\(a.2.1+1)<=(((List.set a.2.2 (Int.toNat a.2.1) (.v (.string a.1):D)):jVj).length:Int)/\((List.set a.2.2 (Int.toNat a.2.1) (.v (.string a.1):D))=[]\/1=1) then some (((List.set a.2.2 (Int.toNat a.2.1) (.v (.string a.1):D)).take (Int.toNat (a.2.1+1))).drop (Int.toNat 0)) else none else none else none else none else none else none else none else none
theorem wk {n a r}(h:YI n a=some r):Computes cx 103 [Qe a,Qe ⟨#[32]⟩,I 0,I (-1)] (.lst false 1 r):=by unfold YI at h;have⟨t1,h1,h⟩:=bo h;have⟨h2,h⟩:=gd h;have⟨h3,h⟩:=gd h;have⟨h4,h⟩:=gd h;have⟨h5,h⟩:=gd h;have⟨t6,h6,h⟩:=bo h;have⟨h7,h⟩:=gd h;have⟨h8,h⟩:=gd h;have⟨h9,h⟩:=gd h;have⟨h10,h⟩:=gd h;cases h;exact rf [.no,.no,.no,.ret (I t1),b1,.lp [] [0,1,2,3,9,10] [19] (.exit 0) [(0,.d (Qe t6.1)),(9,.own 19 0),(10,.d (I t6.2.1))] [(19,.row 0 1 t6.2.2)] 64,b1,b1,b1] (Qb h10 (Qb h9 (Qb h8 (Qb h7 (Qb (QE EJ h6) (Qb h5 (Qb h4 (Qb h3 (Qb h2 (Qb (yA h1) QA))))))))))
def YN (n:Nat)(a:jSj):Option (jVj) := (YI n a).bind fun b=>some b
theorem yy {n a r}(h:YN n a=some r):Computes cx 52 [Qe a,Qe ⟨#[32]⟩] (.lst false 1 r):=by unfold YN at h;have⟨t1,h1,h⟩:=bo h;obtain rfl:=oi h;exact rf [.ret (.lst false 1 t1)] (Qb (wk h1) QA)
def ZC (n:Nat)(b:jSj)(a:(Int×Nat)):Option (Int×Nat⊕Unit⊕Int) := if a.2<b.size then if((Utf8.decode b a.2).1:Int)<48 then some (.inr (.inl ())) else if((Utf8.decode b a.2).1:Int)>57 then some (.inr (.inl ())) else if(b.size:Int)>9 then some (.inr (.inl ())) else if Qg (10*a.1) then if Qg ((10*a.1)+(IntKind.wrap .i64 (IntKind.wrap .i32 (((Utf8.decode b a.2).1:Int) - 48)))) then some (.inl (((10*a.1)+(IntKind.wrap .i64 (IntKind.wrap .i32 (((Utf8.decode b a.2).1:Int) - 48)))),(a.2+(Utf8.decode b a.2).2))) else none else none else some (.inr (.inr a.1))
noncomputable def ws (a:jSj):Lp (Int×Nat) (Unit⊕Int):=⟨fun b=>[(0,.d (Qe a)),(4,.d (I b.1)),(8,.own 4 0)],fun b=>[(4,.it a b.2)],fun
 | (.inl e)=>.ret
 | (.inr e)=>(.exit 0),fun
 | (.inl e)=>[(2,.d (I 0)),(3,.d (B false))]
 | (.inr e)=>[(0,.d (Qe a)),(4,.d (I e))],fun _=>[]⟩
theorem Gs {n e}(f)(r)(h:ZC n e f=some r):Rl (Zt cx.P 80 0) 42 0 false (ws e) f r:=by
 unfold ZC at h;obtain⟨a,h⟩|⟨a,h⟩:=io h
 ·have q:=Qb a QA;obtain⟨b,h⟩|⟨b,h⟩:=io h
  ·cases h;exact rx 5 [b1,.no,b1,.no,.no] [] [2,3] [] (Qb (jDj b) q)
  have q:=Qb (jEj b) q;let o(l:jOj):=b1::.no::b0::l;obtain⟨c,h⟩|⟨c,h⟩:=io h
  ·cases h;exact rx 5 (o [b1,.no]) [] [2,3] [] (Qb (jDj c) q)
  have q:=Qb (jEj c) q;obtain⟨d,h⟩|⟨d,h⟩:=io h
  ·cases h;exact rx 5 (o [b0,b1]) [] [2,3] [] (Qb (jDj d) q)
  have⟨ha5,h⟩:=gd h;have⟨ha6,h⟩:=gd h;cases h;exact rn 5 (o [b0,b0]) [] [0,4,8] [4] (Qb ha6 (Qb ha5 (Qb (jEj d) q)))
 cases h;exact rx 5 [b0,.no] [] [0,4] [] (Qb a QA)
def YP (n:Nat)(b:jSj):Option (Int×Bool) := (QU (ZC n b) n (0,0)).bind fun a=>match a with|.inl a=>(some (0,false))|.inr a=>(if(!(b.toList==(⟨#[]⟩:jSj).toList))=true then if(b.size:Int)=1 then some (a,true) else(UY b 0).bind fun c=>some (a,(c != 48)) else some (a,false))
theorem yB {n a r}(h:YP n a=some r):Computes cx 80 [Qe a] (.tup [I r.1,B r.2]):=by
 unfold YP at h;have⟨b,h1,h⟩:=bo h;obtain b|b:=b
 ·cases h;exact rf [.lp [] [0,4,8] [4] .ret [(2,.d (I 0)),(3,.d (B false))] [] 38] (Qb (QE Gs h1) QA)
 have q:=Qb (QE Gs h1) QA;let o(l:jOj):=.lp [] [0,4,8] [4] (.exit 0) [(0,.d (Qe a)),(4,.d (I b))] [] 38::l;obtain⟨c,h⟩|⟨c,h⟩:=io h
 ·have q:=Qb c q;obtain⟨e,h⟩|⟨e,h⟩:=io h
  ·cases h;exact rf (o [b1,b1]) (Qb (eqt e) q)
  have⟨t4,f,h⟩:=bo h;cases h;exact rf (o [b1,b0,.el (.v (.int .u8 t4))]) (Qb (Qc1 f:Zu cx.P (Instr.index 9 (.string a) (.int .i64 0))=some (.int .u8 t4)) (Qb (eqf e) q))
 cases h;exact rf (o [b0]) (Qb (Zy c) q)
def Wt (n:Nat)(a:jVj)(c:Bool):Option (jSj×jVj×Bool) := if((a).length:Int)=0 then some (⟨#[]⟩,[],true) else(el Vg a 0).bind fun b=>if(b.toList==(⟨#[]⟩:jSj).toList)=true then some (⟨#[]⟩,[],true) else if(0:Int)<=1/\1<=((a).length:Int)/\((a).length:Int)<=((a).length:Int)/\(a=[]\/1=1) then some (b,(a.drop (Int.toNat 1)),c) else none
theorem YE {n c e r}(h:Wt n c e=some r):ComputesO cx 165 [.ptr 0 0 0 0 0] (some [.dat (.lst false 1 c),.dat (B e)]) (.d (Qe r.1)) [.dat (.lst false 1 r.2.1),.dat (B r.2.2)] []:=by
 unfold Wt at h;obtain⟨a,h⟩|⟨a,h⟩:=io h
 ·cases h;exact(rfO 0 (r:=.d (Qe ⟨#[]⟩)) (cs:=[.dat (.lst true 0 []),.dat (B true)]) [b1,.no] (Qb (eqt a) QA)).le (.refl _) (.refl _) (.refl _) (.dat (.nilF) (.same _ (.nil)))
 have⟨t2,h2,h⟩:=bo h;have q:=Q2 Zb h2 (Qb (eqf a) QA);obtain⟨b,h⟩|⟨b,h⟩:=io h
 ·cases h;exact(rfO 0 (r:=.d (Qe ⟨#[]⟩)) (cs:=[.dat (.lst true 0 []),.dat (B true)]) [b0,.el (Wj t2),b1] (Qb b q)).le (.refl _) (.refl _) (.refl _) (.dat (.nilF) (.same _ (.nil)))
 have⟨h4,h⟩:=gd h;cases h;exact rfO 0 [b0,.el (Wj t2),b0,.el (Wj t2),b1] (Qb h4 (Q2 Zb h2 (Qb (Zy b) q)))
def Zp (n:Nat)(c:jVj)(d:Bool):Option (Int×jVj×Bool) := (Wt n c d).bind fun a=>(YP n a.1).bind fun b=>if a.2.2=true then some (b.1,a.2.1,true) else some (b.1,a.2.1,(!b.2))
theorem Yc {n b c r}(h:Zp n b c=some r):ComputesO cx 166 [.ptr 0 0 0 0 0] (some [.dat (.lst false 1 b),.dat (B c)]) (.d (I r.1)) [.dat (.lst false 1 r.2.1),.dat (B r.2.2)] []:=by
 unfold Zp at h;have⟨t1,h1,h⟩:=bo h;have⟨t2,h2,h⟩:=bo h;have q:=Qb (yB h2) (Qb (YE h1) QA);let o(l:jOj):=.obj (some 0) (.d (Qe t1.1)) [.dat (.lst false 1 t1.2.1),.dat (B t1.2.2)] []::.ret (.tup [I t2.1,B t2.2])::l;obtain⟨a,h⟩|⟨a,h⟩:=io h
 ·cases h;exact rfO 0 (o [b1]) (Qb a q)
 cases h;exact rfO 0 (o [b0]) (Qb (Zy a) q)
def WA (n:Nat)(e:Int)(d:jSj×jVj×Bool)(c:jSj×Int×FnD×FnD)(b:(Unit)⊕jVj×Bool×Nat×jVj):Option ((Unit⊕jVj×Bool×Nat×jVj)⊕Unit⊕jVj×Bool×jVj):=match b with|(.inl b)=>(if 0<c.1.size then(Wt n d.2.1 d.2.2).bind fun a=>some (.inl (.inr (a.2.1,a.2.2,(0+(Utf8.decode c.1 0).2),[.v (.string a.1)]))) else some (.inr (.inl ())))|.inr b=>(if b.2.2.1<c.1.size then(Wt n b.1 b.2.1).bind fun a=>if Wi 16 ((b.2.2.2).length+1) then some (.inl (.inr (a.2.1,a.2.2,(b.2.2.1+(Utf8.decode c.1 b.2.2.1).2),(b.2.2.2++([.v (.string a.1)]:jVj))))) else none else some (.inr (.inr (b.1,b.2.1,b.2.2.2))))
abbrev Z9:D:=.agg [I 0,.v (.string ⟨#[]⟩),.lst true 0 [],.lst true 0 [],.v (.string ⟨#[]⟩)]
noncomputable def kM (c:Int)(b:jSj×jVj×Bool)(a:jSj×Int×FnD×FnD):Lp (Unit⊕jVj×Bool×Nat×jVj) (Unit⊕jVj×Bool×jVj):=⟨fun _=>[(4,.ptr 0 0 0 0 0),(6,.ptr 4 0 0 0 0),(7,.fn (.func 165) [.ptr 4 0 0 0 0] []),(8,.ptr 13 0 0 0 0),(9,.ptr 24 0 0 0 0),(34,.own 31 0)],fun
 | (.inl sa)=>[(0,.box (.d Z9)),(4,.box (.d (.agg [.lst false 1 b.2.1,B b.2.2]))),(13,.box (.d (.agg [I c,Qe b.1,.lst true 0 [],.lst true 0 [],Qe ⟨#[]⟩]))),(24,.box (.d (.agg [Qe a.1,I a.2.1,.fn a.2.2.1.1 a.2.2.1.2.1 a.2.2.1.2.2,.fn a.2.2.2.1 a.2.2.2.2.1 a.2.2.2.2.2]))),(31,.it a.1 0)]
 | (.inr sa)=>[(0,.box (.d Z9)),(4,.box (.d (.agg [.lst false 1 sa.1,B sa.2.1]))),(13,.box (.agg [.d (I c),.d (Qe b.1),.own 43 0,.d (.lst true 0 []),.d (Qe ⟨#[]⟩)])),(24,.box (.d (.agg [Qe a.1,I a.2.1,.fn a.2.2.1.1 a.2.2.1.2.1 a.2.2.1.2.2,.fn a.2.2.2.1 a.2.2.2.2.1 a.2.2.2.2.2]))),(31,.it a.1 sa.2.2.1),(43,.row 0 1 sa.2.2.2)],fun _=>(.exit 0),fun _=>[(4,.ptr 0 0 0 0 0),(6,.ptr 4 0 0 0 0),(8,.ptr 13 0 0 0 0),(9,.ptr 24 0 0 0 0)],fun
 | (.inl e)=>[(0,.box (.d Z9)),(4,.box (.d (.agg [.lst false 1 b.2.1,B b.2.2]))),(13,.box (.d (.agg [I c,Qe b.1,.lst true 0 [],.lst true 0 [],Qe ⟨#[]⟩]))),(24,.box (.d (.agg [Qe a.1,I a.2.1,.fn a.2.2.1.1 a.2.2.1.2.1 a.2.2.1.2.2,.fn a.2.2.2.1 a.2.2.2.2.1 a.2.2.2.2.2])))]
 | (.inr e)=>[(0,.box (.d Z9)),(4,.box (.d (.agg [.lst false 1 e.1,B e.2.1]))),(13,.box (.agg [.d (I c),.d (Qe b.1),.own 43 0,.d (.lst true 0 []),.d (Qe ⟨#[]⟩)])),(24,.box (.d (.agg [Qe a.1,I a.2.1,.fn a.2.2.1.1 a.2.2.1.2.1 a.2.2.1.2.2,.fn a.2.2.2.1 a.2.2.2.2.1 a.2.2.2.2.2]))),(43,.row 0 1 e.2.2)]⟩
theorem XP {n c e f}(b)(r)(h:WA n c e f b=some r):Rl (Zt cx.P 56 0) 72 0 false (kM c e f) b r:=by
 unfold WA at h;obtain b|b:=b
 ·obtain⟨a,h⟩|⟨a,h⟩:=io h
  ·have⟨ta2,ha2,h⟩:=bo h;cases h;exact rn 32 [b1,.no,.obj (some 4) (.d (Qe ta2.1)) [.dat (.lst false 1 ta2.2.1),.dat (B ta2.2.2)] [],.no,.no] [] [4,6,7,8,9,34] [0,4,13,24,31,43] (Qb (YE ha2) (Qb a QA))
  cases h;exact rx 32 [b0,.no] [] [4,6,8,9] [0,4,13,24] (Qb a QA)
 ·obtain⟨a,h⟩|⟨a,h⟩:=io h
  ·have⟨ta2,ha2,h⟩:=bo h;have⟨ha3,h⟩:=gd h;cases h;exact rn 44 [b1,.no,.obj (some 4) (.d (Qe ta2.1)) [.dat (.lst false 1 ta2.2.1),.dat (B ta2.2.2)] [],b1] [] [4,6,7,8,9,34] [0,4,13,24,31,43] (Qb (ro 9 ha3) (Qb (YE ha2) (Qb a QA)))
  cases h;exact rx 44 [b0,.no] [] [4,6,8,9] [0,4,13,24,43] (Qb a QA)
def KR (n:Nat)(e:Int)(c:jSj×jVj×Bool)(d:jSj×Int×FnD×FnD)(b:(Unit)⊕Int×jVj×Bool×jVj):Option ((Unit⊕Int×jVj×Bool×jVj)⊕Unit⊕jVj×Bool×jVj):=match b with|(.inl b)=>(if 0<d.2.1 then(Zp n c.2.1 c.2.2).bind fun a=>some (.inl (.inr (1,a.2.1,a.2.2,[I a.1]))) else some (.inr (.inl ())))|.inr b=>(if b.1<d.2.1 then(Zp n b.2.1 b.2.2.1).bind fun a=>if Wi 8 ((b.2.2.2).length+1) then if Qg (b.1+1) then some (.inl (.inr ((b.1+1),a.2.1,a.2.2,(b.2.2.2++([I a.1]:jVj))))) else none else none else some (.inr (.inr (b.2.1,b.2.2.1,b.2.2.2))))
noncomputable def kL (b:Int)(a:jSj×jVj×Bool)(c:jSj×Int×FnD×FnD):Lp (Unit⊕Int×jVj×Bool×jVj) (Unit⊕jVj×Bool×jVj):=⟨fun
 | (.inl sa)=>[(4,.ptr 0 0 0 0 0),(6,.ptr 4 0 0 0 0),(8,.ptr 13 0 0 0 0),(46,.d (I c.2.1)),(47,.d (I 0))]
 | (.inr sa)=>[(4,.ptr 0 0 0 0 0),(6,.ptr 4 0 0 0 0),(8,.ptr 13 0 0 0 0),(46,.d (I c.2.1)),(47,.d (I sa.1))],fun
 | (.inl sa)=>[(0,.box (.d Z9)),(4,.box (.d (.agg [.lst false 1 a.2.1,B a.2.2]))),(13,.box (.d (.agg [I b,Qe a.1,.lst true 0 [],.lst true 0 [],Qe ⟨#[]⟩])))]
 | (.inr sa)=>[(0,.box (.d Z9)),(4,.box (.d (.agg [.lst false 1 sa.2.1,B sa.2.2.1]))),(13,.box (.agg [.d (I b),.d (Qe a.1),.d (.lst true 0 []),.own 82 0,.d (Qe ⟨#[]⟩)])),(82,.row 0 1 sa.2.2.2)],fun _=>(.exit 2),fun _=>[(4,.ptr 0 0 0 0 0),(6,.ptr 4 0 0 0 0),(8,.ptr 13 0 0 0 0)],fun
 | (.inl e)=>[(0,.box (.d Z9)),(4,.box (.d (.agg [.lst false 1 a.2.1,B a.2.2]))),(13,.box (.d (.agg [I b,Qe a.1,.lst true 0 [],.lst true 0 [],Qe ⟨#[]⟩])))]
 | (.inr e)=>[(0,.box (.d Z9)),(4,.box (.d (.agg [.lst false 1 e.1,B e.2.1]))),(13,.box (.agg [.d (I b),.d (Qe a.1),.d (.lst true 0 []),.own 82 0,.d (Qe ⟨#[]⟩)])),(82,.row 0 1 e.2.2)]⟩
theorem XO {n c e f}(b)(r)(h:KR n c e f b=some r):Rl (Zt cx.P 56 1) 72 0 false (kL c e f) b r:=by
 unfold KR at h;obtain b|b:=b
 ·obtain⟨a,h⟩|⟨a,h⟩:=io h
  ·have⟨ta2,ha2,h⟩:=bo h;cases h;exact rn 72 [b1,.obj (some 4) (.d (I ta2.1)) [.dat (.lst false 1 ta2.2.1),.dat (B ta2.2.2)] [],.no,.no] [] [4,6,8,46,47] [0,4,13,82] (Qb ((by unfold Qg;omega):Qg 1) (Qb (Yc ha2) (Qb (jDj a) QA)))
  cases h;exact rx 72 [b0] [] [4,6,8] [0,4,13] (Qb (jEj a) QA)
 ·obtain⟨a,h⟩|⟨a,h⟩:=io h
  ·have⟨ta2,ha2,h⟩:=bo h;have⟨ha3,h⟩:=gd h;have⟨ha4,h⟩:=gd h;cases h;exact rn 83 [b1,.obj (some 4) (.d (I ta2.1)) [.dat (.lst false 1 ta2.2.1),.dat (B ta2.2.2)] [],b1] [] [4,6,8,46,47] [0,4,13,82] (Qb ha4 (Qb (ro 3 ha3) (Qb (Yc ha2) (Qb (jDj a) QA))))
  cases h;exact rx 83 [b0] [] [4,6,8] [0,4,13,82] (Qb (jEj a) QA)
def KQ (n:Nat)(e:Int)(f:jSj×jVj×Bool)(c:jSj×Int×FnD×FnD)(d:jVj×Bool×jVj)(b:(Unit)⊕Int×jVj×Bool×jVj):Option ((Unit⊕Int×jVj×Bool×jVj)⊕Unit⊕jVj×Bool×jVj):=match b with|(.inl b)=>(if 0<c.2.1 then(Zp n d.1 d.2.1).bind fun a=>some (.inl (.inr (1,a.2.1,a.2.2,[I a.1]))) else some (.inr (.inl ())))|.inr b=>(if b.1<c.2.1 then(Zp n b.2.1 b.2.2.1).bind fun a=>if Wi 8 ((b.2.2.2).length+1) then if Qg (b.1+1) then some (.inl (.inr ((b.1+1),a.2.1,a.2.2,(b.2.2.2++([I a.1]:jVj))))) else none else none else some (.inr (.inr (b.2.1,b.2.2.1,b.2.2.2))))
noncomputable def kK (b:Int)(c:jSj×jVj×Bool)(f:jSj×Int×FnD×FnD)(a:jVj×Bool×jVj):Lp (Unit⊕Int×jVj×Bool×jVj) (Unit⊕jVj×Bool×jVj):=⟨fun
 | (.inl sa)=>[(4,.ptr 0 0 0 0 0),(6,.ptr 4 0 0 0 0),(8,.ptr 13 0 0 0 0),(46,.d (I f.2.1)),(47,.d (I 0))]
 | (.inr sa)=>[(4,.ptr 0 0 0 0 0),(6,.ptr 4 0 0 0 0),(8,.ptr 13 0 0 0 0),(46,.d (I f.2.1)),(47,.d (I sa.1))],fun
 | (.inl sa)=>[(0,.box (.d Z9)),(4,.box (.d (.agg [.lst false 1 a.1,B a.2.1]))),(13,.box (.agg [.d (I b),.d (Qe c.1),.own 43 0,.d (.lst true 0 []),.d (Qe ⟨#[]⟩)])),(43,.row 0 1 a.2.2)]
 | (.inr sa)=>[(0,.box (.d Z9)),(4,.box (.d (.agg [.lst false 1 sa.2.1,B sa.2.2.1]))),(13,.box (.agg [.d (I b),.d (Qe c.1),.own 43 0,.own 82 0,.d (Qe ⟨#[]⟩)])),(43,.row 0 1 a.2.2),(82,.row 0 1 sa.2.2.2)],fun _=>(.exit 2),fun _=>[(4,.ptr 0 0 0 0 0),(6,.ptr 4 0 0 0 0),(8,.ptr 13 0 0 0 0)],fun
 | (.inl e)=>[(0,.box (.d Z9)),(4,.box (.d (.agg [.lst false 1 a.1,B a.2.1]))),(13,.box (.agg [.d (I b),.d (Qe c.1),.own 43 0,.d (.lst true 0 []),.d (Qe ⟨#[]⟩)])),(43,.row 0 1 a.2.2)]
 | (.inr e)=>[(0,.box (.d Z9)),(4,.box (.d (.agg [.lst false 1 e.1,B e.2.1]))),(13,.box (.agg [.d (I b),.d (Qe c.1),.own 43 0,.own 82 0,.d (Qe ⟨#[]⟩)])),(43,.row 0 1 a.2.2),(82,.row 0 1 e.2.2)]⟩
theorem XN {n c e f g}(b)(r)(h:KQ n c e f g b=some r):Rl (Zt cx.P 56 1) 72 0 false (kK c e f g) b r:=by
 unfold KQ at h;obtain b|b:=b
 ·obtain⟨a,h⟩|⟨a,h⟩:=io h
  ·have⟨ta2,ha2,h⟩:=bo h;cases h;exact rn 72 [b1,.obj (some 4) (.d (I ta2.1)) [.dat (.lst false 1 ta2.2.1),.dat (B ta2.2.2)] [],.no,.no] [] [4,6,8,46,47] [0,4,13,43,82] (Qb ((by unfold Qg;omega):Qg 1) (Qb (Yc ha2) (Qb (jDj a) QA)))
  cases h;exact rx 72 [b0] [] [4,6,8] [0,4,13,43] (Qb (jEj a) QA)
 ·obtain⟨a,h⟩|⟨a,h⟩:=io h
  ·have⟨ta2,ha2,h⟩:=bo h;have⟨ha3,h⟩:=gd h;have⟨ha4,h⟩:=gd h;cases h;exact rn 83 [b1,.obj (some 4) (.d (I ta2.1)) [.dat (.lst false 1 ta2.2.1),.dat (B ta2.2.2)] [],b1] [] [4,6,8,46,47] [0,4,13,43,82] (Qb ha4 (Qb (ro 3 ha3) (Qb (Yc ha2) (Qb (jDj a) QA))))
  cases h;exact rx 83 [b0] [] [4,6,8] [0,4,13,43,82] (Qb (jEj a) QA)
def Yj (n:Nat)(c:Int)(f:jVj):Option (Int×jSj×jVj×jVj×jSj×Bool) := (Wt n f false).bind fun a=>if(W5 (.string a.1) GB).isSome=true then((W5 (.string a.1) GB).bind Kt).bind fun e=>(QU (WA n c a e) n (.inl ())).bind fun d=>match d with|.inl d=>((QU (KR n c a e) n (.inl ())).bind fun b=>match b with|.inl b=>(if a.2.2=true then some (c,a.1,[],[],⟨#[]⟩,false) else some (c,a.1,[],[],⟨#[]⟩,(((a.2.1).length:Int)==0)))|.inr b=>(if b.2.1=true then some (c,a.1,[],b.2.2,⟨#[]⟩,false) else some (c,a.1,[],b.2.2,⟨#[]⟩,(((b.1).length:Int)==0))))|.inr d=>((QU (KQ n c a e d) n (.inl ())).bind fun b=>match b with|.inl b=>(if d.2.1=true then some (c,a.1,d.2.2,[],⟨#[]⟩,false) else some (c,a.1,d.2.2,[],⟨#[]⟩,(((d.1).length:Int)==0)))|.inr b=>(if b.2.1=true then some (c,a.1,d.2.2,b.2.2,⟨#[]⟩,false) else some (c,a.1,d.2.2,b.2.2,⟨#[]⟩,(((b.1).length:Int)==0)))) else some (0,⟨#[]⟩,[],[],⟨#[]⟩,false)
theorem QaP {n c f r}(h:Yj n c f=some r):Computes cx 56 [I c,.lst false 1 f] (.tup [.agg [I r.1,Qe r.2.1,.lst false 1 r.2.2.1,.lst false 1 r.2.2.2.1,Qe r.2.2.2.2.1],B r.2.2.2.2.2]):=by
 unfold Yj at h;have⟨t1,h1,h⟩:=bo h;have q:=Qb (YE h1) QA;let o(l:jOj):=.obj (some 4) (.d (Qe t1.1)) [.dat (.lst false 1 t1.2.1),.dat (B t1.2.2)] []::b1::(no 28 l);obtain⟨g,h⟩|⟨g,h⟩:=io h
 ·have⟨t3,h3,h⟩:=bo h;have q:=Qb ((qU (by kernel_rfl) (Qch XW h3)):YX true (.string t1.1) (.agg [Qe ⟨#[]⟩,I 0,.v (.nilFunc),.v (.nilFunc)]) GB=some (.tup [.agg [Qe t3.1,I t3.2.1,.fn t3.2.2.1.1 t3.2.2.1.2.1 t3.2.2.1.2.2,.fn t3.2.2.2.1 t3.2.2.2.2.1 t3.2.2.2.2.2],B true])) q;let o l:=o (.el (.tup [.agg [Qe t3.1,I t3.2.1,.fn t3.2.2.1.1 t3.2.2.1.2.1 t3.2.2.1.2.2,.fn t3.2.2.2.1 t3.2.2.2.2.1 t3.2.2.2.2.2],B true])::.no::l);have⟨e,h4,h⟩:=bo h;obtain e|e:=e
  ·have q:=Qb (QE XP h4) q;let o l:=o (.lp [] [4,6,7,8,9,34] [0,4,13,24,31] (.exit 0) [(4,.ptr 0 0 0 0 0),(6,.ptr 4 0 0 0 0),(8,.ptr 13 0 0 0 0),(9,.ptr 24 0 0 0 0)] [(0,.box (.d Z9)),(4,.box (.d (.agg [.lst false 1 t1.2.1,B t1.2.2]))),(13,.box (.d (.agg [I c,Qe t1.1,.lst true 0 [],.lst true 0 [],Qe ⟨#[]⟩]))),(24,.box (.d (.agg [Qe t3.1,I t3.2.1,.fn t3.2.2.1.1 t3.2.2.1.2.1 t3.2.2.1.2.2,.fn t3.2.2.2.1 t3.2.2.2.2.1 t3.2.2.2.2.2])))] 69::l);have⟨a,h5,h⟩:=bo h;obtain a|a:=a
   ·have q:=Qb (QE XO h5) q;let o l:=o (.lp [] [4,6,8,46,47] [0,4,13] (.exit 2) [(4,.ptr 0 0 0 0 0),(6,.ptr 4 0 0 0 0),(8,.ptr 13 0 0 0 0)] [(0,.box (.d Z9)),(4,.box (.d (.agg [.lst false 1 t1.2.1,B t1.2.2]))),(13,.box (.d (.agg [I c,Qe t1.1,.lst true 0 [],.lst true 0 [],Qe ⟨#[]⟩])))] 109::l);obtain⟨b,h⟩|⟨b,h⟩:=io h
    ·cases h;exact(rf (r:=.tup [.agg [I c,Qe t1.1,.lst true 0 [],.lst true 0 [],Qe ⟨#[]⟩],B false]) (o [b0]) (Qb (zV b) q)).le (LEs.refl _) (.tups (.cons (.aggs (.cons (.refl _) (.cons (.refl _) (.cons (.nilF) (.cons (.nilF) (.cons (.refl _) (.nil))))))) (.cons (.refl _) (.nil))))
    cases h;exact(rf (r:=.tup [.agg [I c,Qe t1.1,.lst true 0 [],.lst true 0 [],Qe ⟨#[]⟩],B (((t1.2.1).length:Int)==0)]) (o [b1]) (Qb (wG (Zy b)) q)).le (LEs.refl _) (.tups (.cons (.aggs (.cons (.refl _) (.cons (.refl _) (.cons (.nilF) (.cons (.nilF) (.cons (.refl _) (.nil))))))) (.cons (.refl _) (.nil))))
   have q:=Qb (QE XO h5) q;let o l:=o (.lp [] [4,6,8,46,47] [0,4,13] (.exit 2) [(4,.ptr 0 0 0 0 0),(6,.ptr 4 0 0 0 0),(8,.ptr 13 0 0 0 0)] [(0,.box (.d Z9)),(4,.box (.d (.agg [.lst false 1 a.1,B a.2.1]))),(13,.box (.agg [.d (I c),.d (Qe t1.1),.d (.lst true 0 []),.own 82 0,.d (Qe ⟨#[]⟩)])),(82,.row 0 1 a.2.2)] 109::l);obtain⟨b,h⟩|⟨b,h⟩:=io h
   ·cases h;exact(rf (r:=.tup [.agg [I c,Qe t1.1,.lst true 0 [],.lst false 1 a.2.2,Qe ⟨#[]⟩],B false]) (o [b0]) (Qb (zV b) q)).le (LEs.refl _) (.tups (.cons (.aggs (.cons (.refl _) (.cons (.refl _) (.cons (.nilF) (.cons (.refl _) (.cons (.refl _) (.nil))))))) (.cons (.refl _) (.nil))))
   cases h;exact(rf (r:=.tup [.agg [I c,Qe t1.1,.lst true 0 [],.lst false 1 a.2.2,Qe ⟨#[]⟩],B (((a.1).length:Int)==0)]) (o [b1]) (Qb (wG (Zy b)) q)).le (LEs.refl _) (.tups (.cons (.aggs (.cons (.refl _) (.cons (.refl _) (.cons (.nilF) (.cons (.refl _) (.cons (.refl _) (.nil))))))) (.cons (.refl _) (.nil))))
  have q:=Qb (QE XP h4) q;let o l:=o (.lp [] [4,6,7,8,9,34] [0,4,13,24,31] (.exit 0) [(4,.ptr 0 0 0 0 0),(6,.ptr 4 0 0 0 0),(8,.ptr 13 0 0 0 0),(9,.ptr 24 0 0 0 0)] [(0,.box (.d Z9)),(4,.box (.d (.agg [.lst false 1 e.1,B e.2.1]))),(13,.box (.agg [.d (I c),.d (Qe t1.1),.own 43 0,.d (.lst true 0 []),.d (Qe ⟨#[]⟩)])),(24,.box (.d (.agg [Qe t3.1,I t3.2.1,.fn t3.2.2.1.1 t3.2.2.1.2.1 t3.2.2.1.2.2,.fn t3.2.2.2.1 t3.2.2.2.2.1 t3.2.2.2.2.2]))),(43,.row 0 1 e.2.2)] 69::l);have⟨a,h5,h⟩:=bo h;obtain a|a:=a
  ·have q:=Qb (QE XN h5) q;let o l:=o (.lp [] [4,6,8,46,47] [0,4,13,43] (.exit 2) [(4,.ptr 0 0 0 0 0),(6,.ptr 4 0 0 0 0),(8,.ptr 13 0 0 0 0)] [(0,.box (.d Z9)),(4,.box (.d (.agg [.lst false 1 e.1,B e.2.1]))),(13,.box (.agg [.d (I c),.d (Qe t1.1),.own 43 0,.d (.lst true 0 []),.d (Qe ⟨#[]⟩)])),(43,.row 0 1 e.2.2)] 109::l);obtain⟨b,h⟩|⟨b,h⟩:=io h
   ·cases h;exact(rf (r:=.tup [.agg [I c,Qe t1.1,.lst false 1 e.2.2,.lst true 0 [],Qe ⟨#[]⟩],B false]) (o [b0]) (Qb (zV b) q)).le (LEs.refl _) (.tups (.cons (.aggs (.cons (.refl _) (.cons (.refl _) (.cons (.refl _) (.cons (.nilF) (.cons (.refl _) (.nil))))))) (.cons (.refl _) (.nil))))
   cases h;exact(rf (r:=.tup [.agg [I c,Qe t1.1,.lst false 1 e.2.2,.lst true 0 [],Qe ⟨#[]⟩],B (((e.1).length:Int)==0)]) (o [b1]) (Qb (wG (Zy b)) q)).le (LEs.refl _) (.tups (.cons (.aggs (.cons (.refl _) (.cons (.refl _) (.cons (.refl _) (.cons (.nilF) (.cons (.refl _) (.nil))))))) (.cons (.refl _) (.nil))))
  have q:=Qb (QE XN h5) q;let o l:=o (.lp [] [4,6,8,46,47] [0,4,13,43] (.exit 2) [(4,.ptr 0 0 0 0 0),(6,.ptr 4 0 0 0 0),(8,.ptr 13 0 0 0 0)] [(0,.box (.d Z9)),(4,.box (.d (.agg [.lst false 1 a.1,B a.2.1]))),(13,.box (.agg [.d (I c),.d (Qe t1.1),.own 43 0,.own 82 0,.d (Qe ⟨#[]⟩)])),(43,.row 0 1 e.2.2),(82,.row 0 1 a.2.2)] 109::l);obtain⟨b,h⟩|⟨b,h⟩:=io h
  ·cases h;exact rf (o [b0]) (Qb (zV b) q)
  cases h;exact rf (o [b1]) (Qb (wG (Zy b)) q)
 cases h;exact(rf (r:=.tup [.agg [I 0,Qe ⟨#[]⟩,.lst true 0 [],.lst true 0 [],Qe ⟨#[]⟩],B false]) (o [.el (.tup [.agg [Qe ⟨#[]⟩,I 0,.v (.nilFunc),.v (.nilFunc)],B false]),.no]) (Qb ((Gb (by kernel_rfl) (mno g)):YX true (.string t1.1) (.agg [Qe ⟨#[]⟩,I 0,.v (.nilFunc),.v (.nilFunc)]) GB=some (.tup [.agg [Qe ⟨#[]⟩,I 0,.v (.nilFunc),.v (.nilFunc)],B false])) q)).le (LEs.refl _) (.tups (.cons (.aggs (.cons (.refl _) (.cons (.refl _) (.cons (.nilF) (.cons (.nilF) (.cons (.refl _) (.nil))))))) (.cons (.refl _) (.nil))))
def QkN (n:Nat)(b:jSj)(i:Int):Option (Int×jSj×jVj×jVj×jSj×Int) := if Qg ((b.size:Int) - 7) then if Qg (((b.size:Int) - 7) - 1) then if(((b.size:Int) - 7) - 1)<0 then some (0,⟨#[]⟩,[],[],⟨#[]⟩,25) else(UY b (((b.size:Int) - 7) - 1)).bind fun j=>if j=35 then if Qg ((((b.size:Int) - 7) - 1)+1) then(XY b (some ((((b.size:Int) - 7) - 1)+1)) none).bind fun h=>(QkW n h (⟨#[48,49,50,51,52,53,54,55,56,57]⟩)).bind fun k=>if(!(k.toList==(⟨#[]⟩:jSj).toList))=true then some (0,⟨#[]⟩,[],[],⟨#[]⟩,25) else(XY b none (some (((b.size:Int) - 7) - 1))).bind fun t10=>(QkO n t10).bind fun d=>if(!(d.toList==h.toList))=true then some (0,⟨#[]⟩,[],[],⟨#[]⟩,27) else(YN n t10).bind fun a=>(el Vg a 0).bind fun e=>(YP n e).bind fun c=>if(0:Int)<=1/\1<=((a).length:Int)/\((a).length:Int)<=((a).length:Int)/\(a=[]\/1=1) then(Yj n c.1 (a.drop (Int.toNat 1))).bind fun t17=>if c.2=true then if t17.2.2.2.2.2=true then(Wv n t17.1 t17.2.1 t17.2.2.1 t17.2.2.2.1 t17.2.2.2.2.1).bind fun f=>if f=0 then(Qr n (c.1 != i) 11).bind fun g=>some (t17.1,t17.2.1,t17.2.2.1,t17.2.2.2.1,t17.2.2.2.2.1,g) else some (0,⟨#[]⟩,[],[],⟨#[]⟩,25) else some (0,⟨#[]⟩,[],[],⟨#[]⟩,25) else some (0,⟨#[]⟩,[],[],⟨#[]⟩,25) else none else none else some (0,⟨#[]⟩,[],[],⟨#[]⟩,25) else none else none
theorem QlA {n a k r}(h:QkN n a k=some r):Computes cx 32 [Qe a,I k] (.tup [.agg [I r.1,Qe r.2.1,.lst false 1 r.2.2.1,.lst false 1 r.2.2.2.1,Qe r.2.2.2.2.1],I r.2.2.2.2.2]):=by
 unfold QkN at h;have⟨h1,h⟩:=gd h;have⟨h2,h⟩:=gd h;have q:=Qb h2 (Qb h1 QA);obtain⟨g,h⟩|⟨g,h⟩:=io h
 ·cases h;exact(rf (r:=.tup [.agg [I 0,Qe ⟨#[]⟩,.lst true 0 [],.lst true 0 [],Qe ⟨#[]⟩],I 25]) [b1,.no,.no] (Qb (jDj g) q)).le (LEs.refl _) (.tups (.cons (.aggs (.cons (.refl _) (.cons (.refl _) (.cons (.nilF) (.cons (.nilF) (.cons (.refl _) (.nil))))))) (.cons (.refl _) (.nil))))
 have⟨t4,p,h⟩:=bo h;have q:=Qb (Qc1 p:Zu cx.P (Instr.index 9 (.string a) (.int .i64 (((a.size:Int) - 7) - 1)))=some (.int .u8 t4)) (Qb (jEj g) q);let o(l:jOj):=b0::.el (.v (.int .u8 t4))::l;obtain⟨i,h⟩|⟨i,h⟩:=io h
 ·have⟨h6,h⟩:=gd h;have⟨t7,m,h⟩:=bo h;have⟨t8,h8,h⟩:=bo h;have q:=Qb (Qlr h8) (Qb (Qa1 m:Zu cx.P (Instr.sliceAt 9 (.string a) (some (.int .i64 ((((a.size:Int) - 7) - 1)+1))) none none)=some (.string t7)) (Qb h6 (Qb (nef i) q)));let o l:=o (b0::.el (Qe t7)::.ret (Qe t8)::l);obtain⟨j,h⟩|⟨j,h⟩:=io h
  ·cases h;exact(rf (r:=.tup [.agg [I 0,Qe ⟨#[]⟩,.lst true 0 [],.lst true 0 [],Qe ⟨#[]⟩],I 25]) (o [b1]) (Qb j q)).le (LEs.refl _) (.tups (.cons (.aggs (.cons (.refl _) (.cons (.refl _) (.cons (.nilF) (.cons (.nilF) (.cons (.refl _) (.nil))))))) (.cons (.refl _) (.nil))))
  have⟨t10,f,h⟩:=bo h;have⟨t11,h11,h⟩:=bo h;have q:=Qb (Qa1 m:Zu cx.P (Instr.sliceAt 9 (.string a) (some (.int .i64 ((((a.size:Int) - 7) - 1)+1))) none none)=some (.string t7)) (Qb h6 (Qb (Qk2 h11) (Qb (Qa1 f:Zu cx.P (Instr.sliceAt 9 (.string a) none (some (.int .i64 (((a.size:Int) - 7) - 1))) none)=some (.string t10)) (Qb (Zy j) q))));let o l:=o (b0::.el (Qe t10)::.ret (Qe t11)::.el (Qe t7)::l);obtain⟨b,h⟩|⟨b,h⟩:=io h
  ·cases h;exact(rf (r:=.tup [.agg [I 0,Qe ⟨#[]⟩,.lst true 0 [],.lst true 0 [],Qe ⟨#[]⟩],I 27]) (o [b1]) (Qb b q)).le (LEs.refl _) (.tups (.cons (.aggs (.cons (.refl _) (.cons (.refl _) (.cons (.nilF) (.cons (.nilF) (.cons (.refl _) (.nil))))))) (.cons (.refl _) (.nil))))
  have⟨t13,h13,h⟩:=bo h;have⟨t14,h14,h⟩:=bo h;have⟨t15,h15,h⟩:=bo h;have⟨h16,h⟩:=gd h;have⟨t17,h17,h⟩:=bo h;have q:=Qb (QaP h17) (Qb h16 (Qb (yB h15) (Q2 Zb h14 (Qb (yy h13) (Qb (Qa1 f:Zu cx.P (Instr.sliceAt 9 (.string a) none (some (.int .i64 (((a.size:Int) - 7) - 1))) none)=some (.string t10)) (Qb (Zy b) q))))));let o l:=o (b0::.el (Qe t10)::.ret (.lst false 1 t13)::.el (Wj t14)::.ret (.tup [I t15.1,B t15.2])::b1::.ret (.tup [.agg [I t17.1,Qe t17.2.1,.lst false 1 t17.2.2.1,.lst false 1 t17.2.2.2.1,Qe t17.2.2.2.2.1],B t17.2.2.2.2.2])::l);obtain⟨c,h⟩|⟨c,h⟩:=io h
  ·have q:=Qb (zV c) q;obtain⟨d,h⟩|⟨d,h⟩:=io h
   ·have⟨t20,h20,h⟩:=bo h;have q:=Qb (UI h20) (Qb (zV d) q);let o l:=o (b0::b0::.ret (I t20)::l);obtain⟨e,h⟩|⟨e,h⟩:=io h
    ·have⟨t22,h22,h⟩:=bo h;cases h;exact rf (o [b0,.ret (I t22)]) (Qb (Qs h22) (Qb (nef e) q))
    cases h;exact(rf (r:=.tup [.agg [I 0,Qe ⟨#[]⟩,.lst true 0 [],.lst true 0 [],Qe ⟨#[]⟩],I 25]) (o [b1]) (Qb (net e) q)).le (LEs.refl _) (.tups (.cons (.aggs (.cons (.refl _) (.cons (.refl _) (.cons (.nilF) (.cons (.nilF) (.cons (.refl _) (.nil))))))) (.cons (.refl _) (.nil))))
   cases h;exact(rf (r:=.tup [.agg [I 0,Qe ⟨#[]⟩,.lst true 0 [],.lst true 0 [],Qe ⟨#[]⟩],I 25]) (o [b0,b1,.no]) (Qb (wG (Zy d)) q)).le (LEs.refl _) (.tups (.cons (.aggs (.cons (.refl _) (.cons (.refl _) (.cons (.nilF) (.cons (.nilF) (.cons (.refl _) (.nil))))))) (.cons (.refl _) (.nil))))
  cases h;exact(rf (r:=.tup [.agg [I 0,Qe ⟨#[]⟩,.lst true 0 [],.lst true 0 [],Qe ⟨#[]⟩],I 25]) (o [b1,.no,.no]) (Qb (wG (Zy c)) q)).le (LEs.refl _) (.tups (.cons (.aggs (.cons (.refl _) (.cons (.refl _) (.cons (.nilF) (.cons (.nilF) (.cons (.refl _) (.nil))))))) (.cons (.refl _) (.nil))))
 cases h;exact(rf (r:=.tup [.agg [I 0,Qe ⟨#[]⟩,.lst true 0 [],.lst true 0 [],Qe ⟨#[]⟩],I 25]) (o [b1,.no]) (Qb (net i) q)).le (LEs.refl _) (.tups (.cons (.aggs (.cons (.refl _) (.cons (.refl _) (.cons (.nilF) (.cons (.nilF) (.cons (.refl _) (.nil))))))) (.cons (.refl _) (.nil))))
def QkJ (n:Nat)(e:jSj)(b:(Int×jVj)):Option (Int×jVj⊕Int×Int×jVj⊕Int×jVj) := if b.1<(e.size:Int) then(XY e (some b.1) none).bind fun d=>(QkR n d).bind fun c=>if c.2.2=true then if Qg (((b.2).length:Int)+1) then(QkN n c.1 (((b.2).length:Int)+1)).bind fun a=>if a.2.2.2.2.2=0 then if Wi 88 ((b.2).length+1) then if Qg ((c.1.size:Int)+1) then if Qg (b.1+((c.1.size:Int)+1)) then some (.inl ((b.1+((c.1.size:Int)+1)),(b.2++([.agg [I a.1,.v (.string a.2.1),.lst false 1 a.2.2.1,.lst false 1 a.2.2.2.1,.v (.string a.2.2.2.2.1)]]:jVj)))) else none else none else none else some (.inr (.inl (b.1,a.2.2.2.2.2,b.2))) else none else some (.inr (.inl (b.1,28,b.2))) else some (.inr (.inr (b.1,b.2)))
noncomputable def Qlg (b:jSj):Lp (Int×jVj) (Int×Int×jVj⊕Int×jVj):=⟨fun a=>[(0,.d (Qe b)),(5,.own 8 0),(6,.d (I a.1))],fun a=>[(8,.row 0 5 a.2)],fun
 | (.inl e)=>.ret
 | (.inr e)=>(.exit 0),fun
 | (.inl e)=>[(2,.own 8 0),(3,.d (I e.1)),(4,.d (I e.2.1))]
 | (.inr e)=>[(5,.own 8 0),(6,.d (I e.1))],fun
 | (.inl e)=>[(8,.row 0 5 e.2.2)]
 | (.inr e)=>[(8,.row 0 5 e.2)]⟩
theorem Qk1 {n d}(f)(r)(h:QkJ n d f=some r):Rl (Zt cx.P 8 0) 55 0 false (Qlg d) f r:=by
 unfold QkJ at h;obtain⟨a,h⟩|⟨a,h⟩:=io h
 ·have⟨ta2,e,h⟩:=bo h;have⟨ta3,ha3,h⟩:=bo h;have q:=Qb (Qlu ha3) (Qb (Qa1 e:Zu cx.P (Instr.sliceAt 9 (.string d) (some (.int .i64 f.1)) none none)=some (.string ta2)) (Qb (jDj a) QA));let o(l:jOj):=b1::.el (Qe ta2)::.ret (.tup [Qe ta3.1,Qe ta3.2.1,B ta3.2.2])::l;obtain⟨b,h⟩|⟨b,h⟩:=io h
  ·have⟨ha5,h⟩:=gd h;have⟨ta6,ha6,h⟩:=bo h;have q:=Qb (QlA ha6) (Qb ha5 (Qb (zV b) q));let o l:=o (b0::.ret (.tup [.agg [I ta6.1,Qe ta6.2.1,.lst false 1 ta6.2.2.1,.lst false 1 ta6.2.2.2.1,Qe ta6.2.2.2.2.1],I ta6.2.2.2.2.2])::l);obtain⟨c,h⟩|⟨c,h⟩:=io h
   ·have⟨ha8,h⟩:=gd h;have⟨ha9,h⟩:=gd h;have⟨ha10,h⟩:=gd h;cases h;exact rn 9 (o [b0,b1]) [] [0,5,6] [8] (Qb ha10 (Qb ha9 (Qb (ro 35 ha8) (Qb (nef c) q))))
   cases h;exact rx 9 (o [b1]) [] [2,3,4] [8] (Qb (net c) q)
  cases h;exact rx 9 (o [b1]) [] [2,3,4] [8] (Qb (wG (Zy b)) q)
 cases h;exact rx 9 [b0] [] [5,6] [8] (Qb (jEj a) QA)
def QkU (n:Nat)(b:jSj):Option (jVj×Int×Int) := if(b.size:Int)>1000000 then some ([],0,26) else(QU (QkJ n b) n (0,[])).bind fun a=>match a with|.inl a=>(some (a.2.2,a.1,a.2.1))|.inr a=>(some (a.2,a.1,0))
theorem Qlm {n c r}(h:QkU n c=some r):Computes cx 8 [Qe c] (.tup [.lst false 5 r.1,I r.2.1,I r.2.2]):=by
 unfold QkU at h;obtain⟨b,h⟩|⟨b,h⟩:=io h
 ·cases h;exact(rf (r:=.tup [.lst true 0 [],I 0,I 26]) [b1] (Qb (jDj b) QA)).le (LEs.refl _) (.tups (.cons (.nilF) (.cons (.refl _) (.cons (.refl _) (.nil)))))
 have q:=Qb (jEj b) QA;have⟨a,h2,h⟩:=bo h;obtain a|a:=a
 ·cases h;exact rf [b0,.lp [5,5] [0,5,6] [8] .ret [(2,.own 8 0),(3,.d (I a.1)),(4,.d (I a.2.1))] [(8,.row 0 5 a.2.2)] 61] (Qb (QE Qk1 h2) q)
 cases h;exact rf [b0,.lp [5,5] [0,5,6] [8] (.exit 0) [(5,.own 8 0),(6,.d (I a.1))] [(8,.row 0 5 a.2)] 61] (Qb (QE Qk1 h2) q)
def WK (n:Nat)(d:jVj)(a:(Int×jVj)):Option (Int×jVj⊕jVj) := if a.1<((d).length:Int) then(el V5 d a.1).bind fun b=>(Wr n b).bind fun c=>if Wi 16 ((a.2).length+1) then if Qg (a.1+1) then some (.inl ((a.1+1),(a.2++([.v (.string c)]:jVj)))) else none else none else some (.inr a.2)
noncomputable def ER (b:jVj):Lp (Int×jVj) (jVj):=⟨fun a=>[(1,.d (.fn (.func 59) [] [])),(5,.own 5 0),(8,.d (.lst false 1 b)),(9,.d (I ((b).length:Int))),(10,.d (I a.1))],fun a=>[(5,.row 0 1 a.2)],fun _=>(.exit 0),fun _=>[(5,.own 5 0)],fun e=>[(5,.row 0 1 e)]⟩
theorem EL {n b}(c)(r)(h:WK n b c=some r):Rl (Zt cx.P 110 0) 22 0 false (ER b) c r:=by
 unfold WK at h;obtain⟨a,h⟩|⟨a,h⟩:=io h
 ·have⟨ta2,ha2,h⟩:=bo h;have⟨ta3,ha3,h⟩:=bo h;have⟨ha4,h⟩:=gd h;have⟨ha5,h⟩:=gd h;cases h;exact rn 6 [b1,.el (Zi ta2),.ret (Qe ta3),b1] [] [1,5,8,9,10] [5] (Qb ha5 (Qb (ro 9 ha4) (Qb (Yq ha3) (Q2 QM ha2 (Qb (jDj a) QA)))))
 cases h;exact rx 6 [b0] [] [5] [5] (Qb (jEj a) QA)
def Wu (n:Nat)(a:jVj):Option (jVj) := (QU (WK n a) n (0,[])).bind fun b=>some b
theorem Gn {n a r}(h:Wu n a=some r):Computes cx 110 [.lst false 1 a,.fn (.func 59) [] []] (.lst false 1 r):=by unfold Wu at h;have⟨t1,h1,h⟩:=bo h;obtain rfl:=oi h;exact rf [.lp [5,1] [1,5,8,9,10] [5] (.exit 0) [(5,.own 5 0)] [(5,.row 0 1 t1)] 30] (Qb (QE EL h1) QA)
def QkZ (n:Nat)(g:Int)(b:jSj)(c f:jVj)(i:jSj):Option (jSj) := (Wr n g).bind fun d=>if Wi 16 (2+(c).length) then if Vk c=true then(Wu n f).bind fun a=>if Wi 16 (2+(a).length) then if Vk a=true then(ZI n ([.v (.string d),.v (.string b)]) (⟨#[32]⟩)).bind fun e=>some e else(ZI n (.v (.string d)::(.v (.string b)::a)) (⟨#[32]⟩)).bind fun e=>some e else none else(Wu n f).bind fun a=>if Wi 16 (((.v (.string d)::(.v (.string b)::c)):jVj).length+(a).length) then(ZI n (.v (.string d)::(.v (.string b)::(c++a))) (⟨#[32]⟩)).bind fun h=>some h else none else none
theorem QlB {n f a d g i r}(h:QkZ n f a d g i=some r):Computes cx 76 [.agg [I f,Qe a,.lst false 1 d,.lst false 1 g,Qe i]] (Qe r):=by
 unfold QkZ at h;have⟨c,h1,h⟩:=bo h;have⟨h2,h⟩:=gd h;have q:=Qb (ro 9 h2) (Qb (Yq h1) QA);let o(l:jOj):=.ret (Qe c)::b1::l;obtain⟨e,h⟩|⟨e,h⟩:=io h
 ·have⟨t4,h4,h⟩:=bo h;have⟨h5,h⟩:=gd h;have q:=Qb (ro 9 h5) (Qb (Gn h4) (Qb e q));let o l:=o (b1::.ret (.lst false 1 t4)::b1::l);obtain⟨b,h⟩|⟨b,h⟩:=io h
  ·have⟨t7,h7,h⟩:=bo h;obtain rfl:=oi h;exact rf (o [b1,.ret (Qe t7)]) (Qb (((VY h7).le (.cons (.full _ _ _) (.cons (.refl _) (.nil))) (.refl _)):Computes cx 121 [.lst true 1 [Qe c,Qe a],Qe ⟨#[32]⟩] (Qe t7)) (Qb b q))
  have⟨t7,h7,h⟩:=bo h;obtain rfl:=oi h;exact rf (o [b0,.ret (Qe t7)]) (Qb ((VY h7):Computes cx 121 [.lst false 1 (Qe c::(Qe a::t4)),Qe ⟨#[32]⟩] (Qe t7)) (Qb (Zy b) q))
 have⟨t4,h4,h⟩:=bo h;have⟨h5,h⟩:=gd h;have⟨t6,b,h⟩:=bo h;obtain rfl:=oi h;exact rf (o [b0,.ret (.lst false 1 t4),b1,.ret (Qe t6)]) (Qb ((VY b):Computes cx 121 [.lst false 1 (Qe c::(Qe a::(d++t4))),Qe ⟨#[32]⟩] (Qe t6)) (Qb (ro 9 h5) (Qb (Gn h4) (Qb (Zy e) q))))
def QkX (n:Nat)(c:Int)(d:jSj)(e f:jVj)(g:jSj):Option (jSj) := (QkZ n c d e f g).bind fun a=>if a.size+(⟨#[35]⟩:jSj).size<=9223372036854775807 then(QkO n a).bind fun b=>if(a++(⟨#[35]⟩:jSj)).size+b.size<=9223372036854775807 then if((a++(⟨#[35]⟩:jSj))++b).size+(⟨#[10]⟩:jSj).size<=9223372036854775807 then some (((a++(⟨#[35]⟩:jSj))++b)++(⟨#[10]⟩:jSj)) else none else none else none
theorem Qls {n a b c d e r}(h:QkX n a b c d e=some r):Computes cx 30 [.agg [I a,Qe b,.lst false 1 c,.lst false 1 d,Qe e]] (Qe r):=by unfold QkX at h;have⟨t1,h1,h⟩:=bo h;have⟨h2,h⟩:=gd h;have⟨t3,h3,h⟩:=bo h;have⟨h4,h⟩:=gd h;have⟨h5,h⟩:=gd h;cases h;exact rf [.ret (Qe t1),.ret (Qe t3)] (Qb h5 (Qb h4 (Qb (Qk2 h3) (Qb h2 (Qb (QlB h1) QA)))))
def Qob (n:Nat)(a:jSj)(b:Int)(e:jSj)(f g:jVj)(h:jSj):Option (jSj×Int) := (QkU n a).bind fun c=>(Wv n b e f g h).bind fun j=>if Qg (((c.1).length:Int)+1) then(Qr n (b != (((c.1).length:Int)+1)) 11).bind fun k=>(Qi n ([I c.2.2,I j,I k])).bind fun i=>if i=0 then(QkX n b e f g h).bind fun d=>if a.size+d.size<=9223372036854775807 then if((a++d).size:Int)>1000000 then some (⟨#[]⟩,26) else some ((a++d),0) else none else some (⟨#[]⟩,i) else none
theorem Qra {n c d e f g i r}(h:Qob n c d e f g i=some r):Computes cx 7 [Qe c,.agg [I d,Qe e,.lst false 1 f,.lst false 1 g,Qe i]] (.tup [Qe r.1,I r.2]):=by
 unfold Qob at h;have⟨t1,h1,h⟩:=bo h;have⟨t2,h2,h⟩:=bo h;have⟨h3,h⟩:=gd h;have⟨t4,h4,h⟩:=bo h;have⟨t5,h5,h⟩:=bo h;have q:=Qb (leF (Qv h5)) (Qb (Qs h4) (Qb h3 (Qb (UI h2) (Qb (Qlm h1) QA))));let o(l:jOj):=.ret (.tup [.lst false 5 t1.1,I t1.2.1,I t1.2.2])::.ret (I t2)::.ret (I t4)::.ret (I t5)::l;obtain⟨a,h⟩|⟨a,h⟩:=io h
 ·have⟨t7,h7,h⟩:=bo h;have⟨h8,h⟩:=gd h;have q:=Qb h8 (Qb (Qls h7) (Qb (nef a) q));let o l:=o (b0::.ret (Qe t7)::l);obtain⟨b,h⟩|⟨b,h⟩:=io h
  ·cases h;exact rf (o [b1]) (Qb (jDj b) q)
  cases h;exact rf (o [b0]) (Qb (jEj b) q)
 cases h;exact rf (o [b1]) (Qb (net a) q)
def Qk0 (n:Nat)(d:jSj):Option (Int×jVj×jVj×jRj) := (QkU n d).bind fun c=>if c.2.2=0 then(ZK n c.1).bind fun a=>if a.2.1=0 then some (0,a.2.2.1,a.2.2.2.1,a.2.2.2.2.1,a.2.2.2.2.2.1,a.2.2.2.2.2.2.1,a.2.2.2.2.2.2.2.1,a.2.2.2.2.2.2.2.2.1,a.2.2.2.2.2.2.2.2.2.1,a.2.2.2.2.2.2.2.2.2.2.1,a.2.2.2.2.2.2.2.2.2.2.2.1,a.2.2.2.2.2.2.2.2.2.2.2.2.1,a.2.2.2.2.2.2.2.2.2.2.2.2.2) else none else if c.2.2=28 then(ZK n c.1).bind fun b=>if b.2.1=0 then some (0,b.2.2.1,b.2.2.2.1,b.2.2.2.2.1,b.2.2.2.2.2.1,b.2.2.2.2.2.2.1,b.2.2.2.2.2.2.2.1,b.2.2.2.2.2.2.2.2.1,b.2.2.2.2.2.2.2.2.2.1,b.2.2.2.2.2.2.2.2.2.2.1,b.2.2.2.2.2.2.2.2.2.2.2.1,b.2.2.2.2.2.2.2.2.2.2.2.2.1,b.2.2.2.2.2.2.2.2.2.2.2.2.2) else none else none
theorem QlC {n e r}(h:Qk0 n e=some r):ComputesO cx 9 [.d (Qe e)] none (.tup [.ptr 0 0 0 0 0,.d (I r.1)]) (Qa' r.2) []:=by
 unfold Qk0 at h;have⟨t1,h1,h⟩:=bo h;have q:=Qb (Qlm h1) QA;let o(l:jOj):=.ret (.tup [.lst false 5 t1.1,I t1.2.1,I t1.2.2])::l;obtain⟨c,h⟩|⟨c,h⟩:=io h
 ·have⟨t3,a,h⟩:=bo h;obtain⟨b,h⟩|⟨b,h⟩:=io h
  ·cases h;exact rfO 45 (o [b0,.no,.obj none (.tup [.ptr 0 0 0 0 0,.d (I t3.1),.d (I t3.2.1)]) (Qa' t3.2.2) [],b0]) (Qb (nef b) (Qb (KO a) (Qb (nef c) q)))
  cases h
 obtain⟨a,h⟩|⟨a,h⟩:=io h
 ·have⟨t4,b,h⟩:=bo h;obtain⟨f,h⟩|⟨f,h⟩:=io h
  ·cases h;exact rfO 45 (o [b1,b0,.obj none (.tup [.ptr 0 0 0 0 0,.d (I t4.1),.d (I t4.2.1)]) (Qa' t4.2.2) [],b0]) (Qb (nef f) (Qb (KO b) (Qb (nef a) (Qb (net c) q))))
  cases h
 cases h
def Qm3 (n:Nat)(d e:jVj)(a:Int):Option (Int⊕Unit⊕Unit) := if a<((d).length:Int) then(el Vg d a).bind fun b=>(el Vg e a).bind fun c=>if(!(b.toList==c.toList))=true then some (.inr (.inl ())) else if Qg (a+1) then some (.inl (a+1)) else none else some (.inr (.inr ()))
noncomputable def QoE (a b:jVj):Lp (Int) (Unit⊕Unit):=⟨fun c=>[(0,.d (.lst false 1 a)),(1,.d (.lst false 1 b)),(5,.d (I c))],fun _=>[],fun
 | (.inl e)=>.ret
 | (.inr e)=>(.exit 0),fun
 | (.inl e)=>[(4,.d (B false))]
 | (.inr e)=>[],fun _=>[]⟩
theorem QoB {n c d}(e)(r)(h:Qm3 n c d e=some r):Rl (Zt cx.P 20 0) 26 0 false (QoE c d) e r:=by
 unfold Qm3 at h;obtain⟨a,h⟩|⟨a,h⟩:=io h
 ·have⟨ta2,ha2,h⟩:=bo h;have⟨ta3,ha3,h⟩:=bo h;have q:=Q2 Zb ha3 (Q2 Zb ha2 (Qb (jDj a) QA));let o(l:jOj):=b1::.el (Wj ta2)::.el (Wj ta3)::l;obtain⟨b,h⟩|⟨b,h⟩:=io h
  ·cases h;exact rx 7 (o [b1]) [] [4] [] (Qb b q)
  have⟨ha5,h⟩:=gd h;cases h;exact rn 7 (o [b0]) [] [0,1,5] [] (Qb ha5 (Qb (Zy b) q))
 cases h;exact rx 7 [b0] [] [] [] (Qb (jEj a) QA)
def Qnq (n:Nat)(b c:jVj):Option (Bool) := if((b).length:Int)=((c).length:Int) then(QU (Qm3 n b c) n 0).bind fun a=>match a with|.inl a=>(some false)|.inr a=>(some true) else some false
theorem QnH {n c e r}(h:Qnq n c e=some r):Computes cx 20 [.lst false 1 c,.lst false 1 e] (B r):=by
 unfold Qnq at h;obtain⟨a,h⟩|⟨a,h⟩:=io h
 ·have q:=Qb (nef a) QA;have⟨b,h2,h⟩:=bo h;obtain b|b:=b
  ·obtain rfl:=oi h;exact rf [b0,.lp [] [0,1,5] [] .ret [(4,.d (B false))] [] 34] (Qb (QE QoB h2) q)
  obtain rfl:=oi h;exact rf [b0,.lp [] [0,1,5] [] (.exit 0) [] [] 34] (Qb (QE QoB h2) q)
 obtain rfl:=oi h;exact rf [b1] (Qb (net a) QA)
def Uv (n:Nat)(d e:jVj)(a:Int):Option (Int⊕Unit⊕Unit) := if a<((d).length:Int) then(el V5 d a).bind fun b=>(el V5 e a).bind fun c=>if b=c then if Qg (a+1) then some (.inl (a+1)) else none else some (.inr (.inl ())) else some (.inr (.inr ()))
theorem Js {n c d}(e)(r)(h:Uv n c d e=some r):Rl (Zt cx.P 34 0) 26 0 false (QoE c d) e r:=by
 unfold Uv at h;obtain⟨a,h⟩|⟨a,h⟩:=io h
 ·have⟨ta2,ha2,h⟩:=bo h;have⟨ta3,ha3,h⟩:=bo h;have q:=Q2 QM ha3 (Q2 QM ha2 (Qb (jDj a) QA));let o(l:jOj):=b1::.el (Zi ta2)::.el (Zi ta3)::l;obtain⟨b,h⟩|⟨b,h⟩:=io h
  ·have⟨ha5,h⟩:=gd h;cases h;exact rn 7 (o [b0]) [] [0,1,5] [] (Qb ha5 (Qb (nef b) q))
  cases h;exact rx 7 (o [b1]) [] [4] [] (Qb (net b) q)
 cases h;exact rx 7 [b0] [] [] [] (Qb (jEj a) QA)
def KP (n:Nat)(b c:jVj):Option (Bool) := if((b).length:Int)=((c).length:Int) then(QU (Uv n b c) n 0).bind fun a=>match a with|.inl a=>(some false)|.inr a=>(some true) else some false
theorem kl {n c e r}(h:KP n c e=some r):Computes cx 34 [.lst false 1 c,.lst false 1 e] (B r):=by
 unfold KP at h;obtain⟨a,h⟩|⟨a,h⟩:=io h
 ·have q:=Qb (nef a) QA;have⟨b,h2,h⟩:=bo h;obtain b|b:=b
  ·obtain rfl:=oi h;exact rf [b0,.lp [] [0,1,5] [] .ret [(4,.d (B false))] [] 34] (Qb (QE Js h2) q)
  obtain rfl:=oi h;exact rf [b0,.lp [] [0,1,5] [] (.exit 0) [] [] 34] (Qb (QE Js h2) q)
 obtain rfl:=oi h;exact rf [b1] (Qb (net a) QA)
def QmU (n:Nat)(f g:jVj)(c:Int):Option (Int⊕Unit⊕Unit) := if c<((f).length:Int) then(el Wc f c).bind fun a=>(el Wc g c).bind fun b=>if a.1=b.1 then if(!(a.2.1.toList==b.2.1.toList))=true then some (.inr (.inl ())) else(Qnq n a.2.2.1 b.2.2.1).bind fun d=>if d=true then(KP n a.2.2.2.1 b.2.2.2.1).bind fun e=>if e=true then if(!(a.2.2.2.2.toList==b.2.2.2.2.toList))=true then some (.inr (.inl ())) else if Qg (c+1) then some (.inl (c+1)) else none else some (.inr (.inl ())) else some (.inr (.inl ())) else some (.inr (.inl ())) else some (.inr (.inr ()))
noncomputable def Qpq (a b:jVj):Lp (Int) (Unit⊕Unit):=⟨fun c=>[(0,.d (.lst false 5 a)),(1,.d (.lst false 5 b)),(5,.d (I c))],fun _=>[],fun
 | (.inl e)=>.ret
 | (.inr e)=>(.exit 0),fun
 | (.inl e)=>[(4,.d (B false))]
 | (.inr e)=>[],fun _=>[]⟩
theorem Qoq {n g i}(j)(r)(h:QmU n g i j=some r):Rl (Zt cx.P 10 0) 82 0 false (Qpq g i) j r:=by
 unfold QmU at h;obtain⟨b,h⟩|⟨b,h⟩:=io h
 ·have⟨ta2,ha2,h⟩:=bo h;have⟨ta3,ha3,h⟩:=bo h;have q:=Q2 V6 ha3 (Q2 V6 ha2 (Qb (jDj b) QA));let o(l:jOj):=b1::.el (VQ ta2)::.el (VQ ta3)::l;obtain⟨c,h⟩|⟨c,h⟩:=io h
  ·have q:=Q2 V6 ha3 (Q2 V6 ha2 (Qb (nef c) q));let o l:=o (b0::.el (VQ ta2)::.el (VQ ta3)::l);obtain⟨d,h⟩|⟨d,h⟩:=io h
   ·cases h;exact rx 7 (o [b1,.no,.no,.no]) [] [4] [] (Qb d q)
   have⟨ta6,ha6,h⟩:=bo h;have q:=Qb (QnH ha6) (Q2 V6 ha3 (Q2 V6 ha2 (Qb (Zy d) q)));let o l:=o (b0::.el (VQ ta2)::.el (VQ ta3)::.ret (B ta6)::l);obtain⟨e,h⟩|⟨e,h⟩:=io h
   ·have⟨ta8,ha8,h⟩:=bo h;have q:=Qb (kl ha8) (Q2 V6 ha3 (Q2 V6 ha2 (Qb (zV e) q)));let o l:=o (b0::.el (VQ ta2)::.el (VQ ta3)::.ret (B ta8)::l);obtain⟨f,h⟩|⟨f,h⟩:=io h
    ·have q:=Q2 V6 ha3 (Q2 V6 ha2 (Qb (zV f) q));let o l:=o (b0::.el (VQ ta2)::.el (VQ ta3)::l);obtain⟨a,h⟩|⟨a,h⟩:=io h
     ·cases h;exact rx 7 (o [b1]) [] [4] [] (Qb a q)
     have⟨ha11,h⟩:=gd h;cases h;exact rn 7 (o [b0]) [] [0,1,5] [] (Qb ha11 (Qb (Zy a) q))
    cases h;exact rx 7 (o [b1,.no]) [] [4] [] (Qb (wG (Zy f)) q)
   cases h;exact rx 7 (o [b1,.no,.no]) [] [4] [] (Qb (wG (Zy e)) q)
  cases h;exact rx 7 (o [b1,.no,.no,.no,.no]) [] [4] [] (Qb (net c) q)
 cases h;exact rx 7 [b0] [] [] [] (Qb (jEj b) QA)
def Qm2 (n:Nat)(b c:jVj):Option (Bool) := if((b).length:Int)=((c).length:Int) then(QU (QmU n b c) n 0).bind fun a=>match a with|.inl a=>(some false)|.inr a=>(some true) else some false
theorem QoK {n c e r}(h:Qm2 n c e=some r):Computes cx 10 [.lst false 5 c,.lst false 5 e] (B r):=by
 unfold Qm2 at h;obtain⟨a,h⟩|⟨a,h⟩:=io h
 ·have q:=Qb (nef a) QA;have⟨b,h2,h⟩:=bo h;obtain b|b:=b
  ·obtain rfl:=oi h;exact rf [b0,.lp [] [0,1,5] [] .ret [(4,.d (B false))] [] 90] (Qb (QE Qoq h2) q)
  obtain rfl:=oi h;exact rf [b0,.lp [] [0,1,5] [] (.exit 0) [] [] 90] (Qb (QE Qoq h2) q)
 obtain rfl:=oi h;exact rf [b1] (Qb (net a) QA)
theorem QaO {n a b c d e f r}(h:QZ n a b c d e f=some r):Computes cx 38 [.agg [Qe a,Qe b,I c,I d,B e,B f]] (Qe r):=by unfold QZ at h;obtain rfl:=oi h;exact rf [] QA
def Qm6 (n:Nat)(c:Int×Int×jVj×jVj×jRj)(b:(Int)⊕Int×jVj):Option ((Int⊕Int×jVj)⊕Unit⊕jVj):=match b with|(.inl b)=>(if b<((c.2.2.2.2.2.2.2.2.2.2.2.2.1).length:Int) then if 0<=b/\b<((c.2.2.2.2.2.2.2.2.2.2.2.2.1).length:Int) then((nth (c.2.2.2.2.2.2.2.2.2.2.2.2.1) (Int.toNat b)).bind QV).bind fun a=>if a.2.2.2.2.2=true then if Qg (b+1) then some (.inl (.inr ((b+1),[.agg [.v (.string a.1),.v (.string a.2.1),I a.2.2.1,I a.2.2.2.1,B a.2.2.2.2.1,B a.2.2.2.2.2]]))) else none else if Qg (b+1) then some (.inl (.inl (b+1))) else none else none else some (.inr (.inl ())))|.inr b=>(if b.1<((c.2.2.2.2.2.2.2.2.2.2.2.2.1).length:Int) then if 0<=b.1/\b.1<((c.2.2.2.2.2.2.2.2.2.2.2.2.1).length:Int) then((nth (c.2.2.2.2.2.2.2.2.2.2.2.2.1) (Int.toNat b.1)).bind QV).bind fun a=>if a.2.2.2.2.2=true then if Wi 56 ((b.2).length+1) then if Qg (b.1+1) then some (.inl (.inr ((b.1+1),(b.2++([.agg [.v (.string a.1),.v (.string a.2.1),I a.2.2.1,I a.2.2.2.1,B a.2.2.2.2.1,B a.2.2.2.2.2]]:jVj))))) else none else none else if Qg (b.1+1) then some (.inl (.inr ((b.1+1),b.2))) else none else none else some (.inr (.inr b.2)))
noncomputable def QqH (a:Int×Int×jVj×jVj×jRj):Lp (Int⊕Int×jVj) (Unit⊕jVj):=⟨fun
 | (.inl sa)=>[(0,.own 45 0),(8,.own 22 0),(9,.d (I ((a.2.2.2.2.2.2.2.2.2.2.2.2.1).length:Int))),(10,.d (I sa))]
 | (.inr sa)=>[(0,.own 45 0),(8,.own 22 0),(9,.d (I ((a.2.2.2.2.2.2.2.2.2.2.2.2.1).length:Int))),(10,.d (I sa.1))],fun
 | (.inl sa)=>[(11,.box (.agg [.own 12 0,.own 13 0,.d (I a.2.2.2.2.1),.d (I a.2.2.2.2.2.1),.d (B a.2.2.2.2.2.2.1),.d (B a.2.2.2.2.2.2.2.1),.d (I a.2.2.2.2.2.2.2.2.1),.d (I a.2.2.2.2.2.2.2.2.2.1),.d (I a.2.2.2.2.2.2.2.2.2.2.1),.own 21 0,.own 22 0,.own 23 0])),(12,.row 0 5 a.2.2.1),(13,.row 0 5 a.2.2.2.1),(21,.row 0 1 a.2.2.2.2.2.2.2.2.2.2.2.1),(22,.row 0 6 a.2.2.2.2.2.2.2.2.2.2.2.2.1),(23,.row 0 7 a.2.2.2.2.2.2.2.2.2.2.2.2.2),(34,.box (.ptr 11 0 0 0 2)),(42,.box (.d (.lst true 0 []))),(45,.loop true [(6,.fn (.func 82) [] [.ptr 34 0 0 0 0]),(4,.d (.lst true 0 [])),(2,.ptr 42 0 0 0 0),(1,.fn (.func 82) [] [.ptr 34 0 0 0 0]),(0,.d (.lst true 0 []))] [7] (Z3 cx.P 81 0).1 (Z3 cx.P 81 0).2 13)]
 | (.inr sa)=>[(11,.box (.agg [.own 12 0,.own 13 0,.d (I a.2.2.2.2.1),.d (I a.2.2.2.2.2.1),.d (B a.2.2.2.2.2.2.1),.d (B a.2.2.2.2.2.2.2.1),.d (I a.2.2.2.2.2.2.2.2.1),.d (I a.2.2.2.2.2.2.2.2.2.1),.d (I a.2.2.2.2.2.2.2.2.2.2.1),.own 21 0,.own 22 0,.own 23 0])),(12,.row 0 5 a.2.2.1),(13,.row 0 5 a.2.2.2.1),(21,.row 0 1 a.2.2.2.2.2.2.2.2.2.2.2.1),(22,.row 0 6 a.2.2.2.2.2.2.2.2.2.2.2.2.1),(23,.row 0 7 a.2.2.2.2.2.2.2.2.2.2.2.2.2),(34,.box (.ptr 11 0 0 0 2)),(42,.box (.own 70 0)),(45,.loop true [(6,.fn (.func 82) [] [.ptr 34 0 0 0 0]),(4,.d (.lst true 0 [])),(2,.ptr 42 0 0 0 0),(1,.fn (.func 82) [] [.ptr 34 0 0 0 0]),(0,.d (.lst true 0 []))] [7] (Z3 cx.P 81 0).1 (Z3 cx.P 81 0).2 13),(70,.row 0 6 sa.2)],fun _=>(.exit 0),fun _=>[],fun
 | (.inl e)=>[(11,.box (.agg [.own 12 0,.own 13 0,.d (I a.2.2.2.2.1),.d (I a.2.2.2.2.2.1),.d (B a.2.2.2.2.2.2.1),.d (B a.2.2.2.2.2.2.2.1),.d (I a.2.2.2.2.2.2.2.2.1),.d (I a.2.2.2.2.2.2.2.2.2.1),.d (I a.2.2.2.2.2.2.2.2.2.2.1),.own 21 0,.own 22 0,.own 23 0])),(12,.row 0 5 a.2.2.1),(13,.row 0 5 a.2.2.2.1),(21,.row 0 1 a.2.2.2.2.2.2.2.2.2.2.2.1),(22,.row 0 6 a.2.2.2.2.2.2.2.2.2.2.2.2.1),(23,.row 0 7 a.2.2.2.2.2.2.2.2.2.2.2.2.2),(34,.box (.ptr 11 0 0 0 2)),(42,.box (.d (.lst true 0 []))),(45,.loop true [(6,.fn (.func 82) [] [.ptr 34 0 0 0 0]),(4,.d (.lst true 0 [])),(2,.ptr 42 0 0 0 0),(1,.fn (.func 82) [] [.ptr 34 0 0 0 0]),(0,.d (.lst true 0 []))] [7] (Z3 cx.P 81 0).1 (Z3 cx.P 81 0).2 13)]
 | (.inr e)=>[(11,.box (.agg [.own 12 0,.own 13 0,.d (I a.2.2.2.2.1),.d (I a.2.2.2.2.2.1),.d (B a.2.2.2.2.2.2.1),.d (B a.2.2.2.2.2.2.2.1),.d (I a.2.2.2.2.2.2.2.2.1),.d (I a.2.2.2.2.2.2.2.2.2.1),.d (I a.2.2.2.2.2.2.2.2.2.2.1),.own 21 0,.own 22 0,.own 23 0])),(12,.row 0 5 a.2.2.1),(13,.row 0 5 a.2.2.2.1),(21,.row 0 1 a.2.2.2.2.2.2.2.2.2.2.2.1),(22,.row 0 6 a.2.2.2.2.2.2.2.2.2.2.2.2.1),(23,.row 0 7 a.2.2.2.2.2.2.2.2.2.2.2.2.2),(34,.box (.ptr 11 0 0 0 2)),(42,.box (.own 70 0)),(45,.loop true [(6,.fn (.func 82) [] [.ptr 34 0 0 0 0]),(4,.d (.lst true 0 [])),(2,.ptr 42 0 0 0 0),(1,.fn (.func 82) [] [.ptr 34 0 0 0 0]),(0,.d (.lst true 0 []))] [7] (Z3 cx.P 81 0).1 (Z3 cx.P 81 0).2 13),(70,.row 0 6 e)]⟩
theorem Qo5 {n d}(c)(r)(h:Qm6 n d c=some r):Rl (Zt cx.P 82 0) 23 46 false (QqH d) c r:=by
 unfold Qm6 at h;obtain c|c:=c
 ·obtain⟨a,h⟩|⟨a,h⟩:=io h
  ·have⟨ha2,h⟩:=gd h;have⟨ta3,ha3,h⟩:=bo h;have q:=Qb (Q0 QB ha3) (Qb ha2 (Qb (jDj a) QA));let o(l:jOj):=b1::b1::.el (QF ta3)::l;obtain⟨b,h⟩|⟨b,h⟩:=io h
   ·have⟨ha5,h⟩:=gd h;cases h;exact rn 52 (o [b1,.no,.no,.no]) [] [0,8,9,10] [11,12,13,21,22,23,34,42,45,70] (Qb ha5 (Qb b q))
   have⟨ha5,h⟩:=gd h;cases h;exact rn 52 (o [b0,.no]) [] [0,8,9,10] [11,12,13,21,22,23,34,42,45] (Qb ha5 (Qb (Zy b) q))
  cases h;exact rx 52 [b0] [] [] [11,12,13,21,22,23,34,42,45] (Qb (jEj a) QA)
 ·obtain⟨a,h⟩|⟨a,h⟩:=io h
  ·have⟨ha2,h⟩:=gd h;have⟨ta3,ha3,h⟩:=bo h;have q:=Qb (Q0 QB ha3) (Qb ha2 (Qb (jDj a) QA));let o(l:jOj):=b1::b1::.el (QF ta3)::l;obtain⟨b,h⟩|⟨b,h⟩:=io h
   ·have⟨ha5,h⟩:=gd h;have⟨ha6,h⟩:=gd h;cases h;exact rn 71 (o [b1,b1,.no]) [] [0,8,9,10] [11,12,13,21,22,23,34,42,45,70] (Qb ha6 (Qb (ro 109 ha5) (Qb b q)))
   have⟨ha5,h⟩:=gd h;cases h;exact rn 71 (o [b0,.no]) [] [0,8,9,10] [11,12,13,21,22,23,34,42,45,70] (Qb ha5 (Qb (Zy b) q))
  cases h;exact rx 71 [b0] [] [] [11,12,13,21,22,23,34,42,45,70] (Qb (jEj a) QA)
def Qnx (n:Nat)(e:Int×Int×jVj×jVj×jRj)(c:jVj)(b:(Int×jVj)):Option (Int×jVj⊕jVj) := if b.1<((c).length:Int) then if 0<=b.1/\b.1<((c).length:Int) then((nth (c) (Int.toNat b.1)).bind QV).bind fun a=>(QZ n a.1 a.2.1 a.2.2.1 a.2.2.2.1 a.2.2.2.2.1 a.2.2.2.2.2).bind fun d=>if Wi 16 ((b.2).length+1) then if Qg (b.1+1) then some (.inl ((b.1+1),(b.2++([.v (.string d)]:jVj)))) else none else none else none else some (.inr b.2)
noncomputable def QqG (a:Int×Int×jVj×jVj×jRj)(c:jVj):Lp (Int×jVj) (jVj):=⟨fun b=>[(1,.d (.fn (.func 38) [] [])),(5,.own 111 0),(8,.own 70 0),(9,.d (I ((c).length:Int))),(10,.d (I b.1))],fun b=>[(11,.box (.agg [.own 12 0,.own 13 0,.d (I a.2.2.2.2.1),.d (I a.2.2.2.2.2.1),.d (B a.2.2.2.2.2.2.1),.d (B a.2.2.2.2.2.2.2.1),.d (I a.2.2.2.2.2.2.2.2.1),.d (I a.2.2.2.2.2.2.2.2.2.1),.d (I a.2.2.2.2.2.2.2.2.2.2.1),.own 21 0,.own 22 0,.own 23 0])),(12,.row 0 5 a.2.2.1),(13,.row 0 5 a.2.2.2.1),(21,.row 0 1 a.2.2.2.2.2.2.2.2.2.2.2.1),(22,.row 0 6 a.2.2.2.2.2.2.2.2.2.2.2.2.1),(23,.row 0 7 a.2.2.2.2.2.2.2.2.2.2.2.2.2),(34,.box (.ptr 11 0 0 0 2)),(42,.box (.own 70 0)),(45,.dead),(70,.row 0 6 c),(111,.row 0 1 b.2)],fun _=>(.exit 0),fun _=>[(5,.own 111 0)],fun e=>[(11,.box (.agg [.own 12 0,.own 13 0,.d (I a.2.2.2.2.1),.d (I a.2.2.2.2.2.1),.d (B a.2.2.2.2.2.2.1),.d (B a.2.2.2.2.2.2.2.1),.d (I a.2.2.2.2.2.2.2.2.1),.d (I a.2.2.2.2.2.2.2.2.2.1),.d (I a.2.2.2.2.2.2.2.2.2.2.1),.own 21 0,.own 22 0,.own 23 0])),(12,.row 0 5 a.2.2.1),(13,.row 0 5 a.2.2.2.1),(21,.row 0 1 a.2.2.2.2.2.2.2.2.2.2.2.1),(22,.row 0 6 a.2.2.2.2.2.2.2.2.2.2.2.2.1),(23,.row 0 7 a.2.2.2.2.2.2.2.2.2.2.2.2.2),(34,.box (.ptr 11 0 0 0 2)),(42,.box (.own 70 0)),(45,.dead),(70,.row 0 6 c),(111,.row 0 1 e)]⟩
theorem QqB {n c d}(b)(r)(h:Qnx n c d b=some r):Rl (Zt cx.P 35 0) 22 106 false (QqG c d) b r:=by
 unfold Qnx at h;obtain⟨a,h⟩|⟨a,h⟩:=io h
 ·have⟨ha2,h⟩:=gd h;have⟨ta3,ha3,h⟩:=bo h;have⟨ta4,ha4,h⟩:=bo h;have⟨ha5,h⟩:=gd h;have⟨ha6,h⟩:=gd h;cases h;exact rn 112 [b1,b1,.el (QF ta3),.ret (Qe ta4),b1] [] [1,5,8,9,10] [11,12,13,21,22,23,34,42,45,70,111] (Qb ha6 (Qb (ro 9 ha5) (Qb (QaO ha4) (Qb (Q0 QB ha3) (Qb ha2 (Qb (jDj a) QA))))))
 cases h;exact rx 112 [b0] [] [5] [11,12,13,21,22,23,34,42,45,70,111] (Qb (jEj a) QA)
def Qnv (n:Nat)(c:jVj):Option (jVj×Int) := (ZK n c).bind fun a=>if a.2.1=0 then(QU (Qm6 n a) n (.inl 0)).bind fun b=>match b with|.inl b=>(some ([],0))|.inr b=>((QU (Qnx n a b) n (0,[])).bind fun d=>some (d,0)) else some ([],a.2.1)
theorem Qp1 {n c r}(h:Qnv n c=some r):Computes cx 11 [.lst false 5 c] (.tup [.lst false 1 r.1,I r.2]):=by
 unfold Qnv at h;have⟨t1,h1,h⟩:=bo h;have q:=Qb (KO h1) QA;let o(l:jOj):=.obj none (.tup [.ptr 0 0 0 0 0,.d (I t1.1),.d (I t1.2.1)]) (Qa' t1.2.2) []::l;obtain⟨b,h⟩|⟨b,h⟩:=io h
 ·have q:=Qb (nef b) q;let o l:=o (b0::b1::b1::b1::l);have⟨a,h3,h⟩:=bo h;obtain a|a:=a
  ·cases h;exact(rf (r:=.tup [.lst true 0 [],I 0]) (o [.lp [] [0,8,9,10] [11,12,13,21,22,23,34,42,45] (.exit 0) [] [(11,.box (.agg [.own 12 0,.own 13 0,.d (I t1.2.2.2.2.1),.d (I t1.2.2.2.2.2.1),.d (B t1.2.2.2.2.2.2.1),.d (B t1.2.2.2.2.2.2.2.1),.d (I t1.2.2.2.2.2.2.2.2.1),.d (I t1.2.2.2.2.2.2.2.2.2.1),.d (I t1.2.2.2.2.2.2.2.2.2.2.1),.own 21 0,.own 22 0,.own 23 0])),(12,.row 0 5 t1.2.2.1),(13,.row 0 5 t1.2.2.2.1),(21,.row 0 1 t1.2.2.2.2.2.2.2.2.2.2.2.1),(22,.row 0 6 t1.2.2.2.2.2.2.2.2.2.2.2.2.1),(23,.row 0 7 t1.2.2.2.2.2.2.2.2.2.2.2.2.2),(34,.box (.ptr 11 0 0 0 2)),(42,.box (.d (.lst true 0 []))),(45,.loop true [(6,.fn (.func 82) [] [.ptr 34 0 0 0 0]),(4,.d (.lst true 0 [])),(2,.ptr 42 0 0 0 0),(1,.fn (.func 82) [] [.ptr 34 0 0 0 0]),(0,.d (.lst true 0 []))] [7] (Z3 cx.P 81 0).1 (Z3 cx.P 81 0).2 13)] 104,b1,.no,.no]) (Qb (QE Qo5 h3) q)).le (LEs.refl _) (.tups (.cons (.nilF) (.cons (.refl _) (.nil))))
  have⟨t4,h4,h⟩:=bo h;cases h;exact rf (o [.lp [] [0,8,9,10] [11,12,13,21,22,23,34,42,45] (.exit 0) [] [(11,.box (.agg [.own 12 0,.own 13 0,.d (I t1.2.2.2.2.1),.d (I t1.2.2.2.2.2.1),.d (B t1.2.2.2.2.2.2.1),.d (B t1.2.2.2.2.2.2.2.1),.d (I t1.2.2.2.2.2.2.2.2.1),.d (I t1.2.2.2.2.2.2.2.2.2.1),.d (I t1.2.2.2.2.2.2.2.2.2.2.1),.own 21 0,.own 22 0,.own 23 0])),(12,.row 0 5 t1.2.2.1),(13,.row 0 5 t1.2.2.2.1),(21,.row 0 1 t1.2.2.2.2.2.2.2.2.2.2.2.1),(22,.row 0 6 t1.2.2.2.2.2.2.2.2.2.2.2.2.1),(23,.row 0 7 t1.2.2.2.2.2.2.2.2.2.2.2.2.2),(34,.box (.ptr 11 0 0 0 2)),(42,.box (.own 70 0)),(45,.loop true [(6,.fn (.func 82) [] [.ptr 34 0 0 0 0]),(4,.d (.lst true 0 [])),(2,.ptr 42 0 0 0 0),(1,.fn (.func 82) [] [.ptr 34 0 0 0 0]),(0,.d (.lst true 0 []))] [7] (Z3 cx.P 81 0).1 (Z3 cx.P 81 0).2 13),(70,.row 0 6 a)] 104,b1,.lp [5,1] [1,5,8,9,10] [11,12,13,21,22,23,34,42,45,70,111] (.exit 0) [(5,.own 111 0)] [(11,.box (.agg [.own 12 0,.own 13 0,.d (I t1.2.2.2.2.1),.d (I t1.2.2.2.2.2.1),.d (B t1.2.2.2.2.2.2.1),.d (B t1.2.2.2.2.2.2.2.1),.d (I t1.2.2.2.2.2.2.2.2.1),.d (I t1.2.2.2.2.2.2.2.2.2.1),.d (I t1.2.2.2.2.2.2.2.2.2.2.1),.own 21 0,.own 22 0,.own 23 0])),(12,.row 0 5 t1.2.2.1),(13,.row 0 5 t1.2.2.2.1),(21,.row 0 1 t1.2.2.2.2.2.2.2.2.2.2.2.1),(22,.row 0 6 t1.2.2.2.2.2.2.2.2.2.2.2.2.1),(23,.row 0 7 t1.2.2.2.2.2.2.2.2.2.2.2.2.2),(34,.box (.ptr 11 0 0 0 2)),(42,.box (.own 70 0)),(45,.dead),(70,.row 0 6 a),(111,.row 0 1 t4)] 137]) (Qb (QE QqB h4) (Qb (QE Qo5 h3) q))
 cases h;exact(rf (r:=.tup [.lst true 0 [],I t1.2.1]) (o [b1]) (Qb (net b) q)).le (LEs.refl _) (.tups (.cons (.nilF) (.cons (.refl _) (.nil))))
def QkT (n:Nat)(b:jVj):Option (Int×Int×Bool×Bool×Int×Int×Int×jVj×jVj×jVj×Int×Int) := (ZK n b).bind fun a=>if a.2.1=0 then some (a.2.2.2.2.1,a.2.2.2.2.2.1,a.2.2.2.2.2.2.1,a.2.2.2.2.2.2.2.1,a.2.2.2.2.2.2.2.2.1,a.2.2.2.2.2.2.2.2.2.1,a.2.2.2.2.2.2.2.2.2.2.1,a.2.2.2.2.2.2.2.2.2.2.2.1,a.2.2.2.2.2.2.2.2.2.2.2.2.1,a.2.2.2.2.2.2.2.2.2.2.2.2.2,0,0) else some (0,0,false,false,0,0,0,[],[],[],a.1,a.2.1)
theorem Qlt {n b r}(h:QkT n b=some r):Computes cx 12 [.lst false 5 b] (.tup [.agg [I r.1,I r.2.1,B r.2.2.1,B r.2.2.2.1,I r.2.2.2.2.1,I r.2.2.2.2.2.1,I r.2.2.2.2.2.2.1,.lst false 1 r.2.2.2.2.2.2.2.1,.lst false 6 r.2.2.2.2.2.2.2.2.1,.lst false 7 r.2.2.2.2.2.2.2.2.2.1],I r.2.2.2.2.2.2.2.2.2.2.1,I r.2.2.2.2.2.2.2.2.2.2.2]):=by
 unfold QkT at h;have⟨t1,h1,h⟩:=bo h;have q:=Qb (KO h1) QA;let o(l:jOj):=.obj none (.tup [.ptr 0 0 0 0 0,.d (I t1.1),.d (I t1.2.1)]) (Qa' t1.2.2) []::l;obtain⟨a,h⟩|⟨a,h⟩:=io h
 ·cases h;exact rf (o [b0]) (Qb (nef a) q)
 cases h;exact(rf (r:=.tup [jZj,I t1.1,I t1.2.1]) (o [b1]) (Qb (net a) q)).le (LEs.refl _) (.tups (.cons (.aggs (.cons (.refl _) (.cons (.refl _) (.cons (.refl _) (.cons (.refl _) (.cons (.refl _) (.cons (.refl _) (.cons (.refl _) (.cons (.nilF) (.cons (.nilF) (.cons (.nilF) (.nil)))))))))))) (.cons (.refl _) (.cons (.refl _) (.nil)))))
def QmT (n:Nat)(c:jVj)(b:(Int×jVj)):Option (Int×jVj⊕jVj) := if b.1<((c).length:Int) then(el Wc c b.1).bind fun a=>if(a.2.1.toList==(⟨#[117,110,100,111]⟩:jSj).toList)=true then if((b.2).length:Int)>0 then if Qg (((b.2).length:Int) - 1) then if 0<=(((b.2).length:Int) - 1)/\(((b.2).length:Int) - 1)<=((b.2).length:Int) then if Qg (b.1+1) then some (.inl ((b.1+1),(b.2.take (Int.toNat (((b.2).length:Int) - 1))))) else none else none else none else if Wi 88 ((b.2).length+1) then if Qg (b.1+1) then some (.inl ((b.1+1),(b.2++([.agg [I a.1,.v (.string a.2.1),.lst false 1 a.2.2.1,.lst false 1 a.2.2.2.1,.v (.string a.2.2.2.2)]]:jVj)))) else none else none else if Wi 88 ((b.2).length+1) then if Qg (b.1+1) then some (.inl ((b.1+1),(b.2++([.agg [I a.1,.v (.string a.2.1),.lst false 1 a.2.2.1,.lst false 1 a.2.2.2.1,.v (.string a.2.2.2.2)]]:jVj)))) else none else none else some (.inr b.2)
noncomputable def Qpo (b:jVj):Lp (Int×jVj) (jVj):=⟨fun a=>[(3,.own 5 0),(6,.d (.lst false 5 b)),(7,.d (I ((b).length:Int))),(8,.d (I a.1))],fun a=>[(5,.row 0 5 a.2)],fun _=>(.exit 0),fun _=>[(3,.own 5 0)],fun e=>[(5,.row 0 5 e)]⟩
theorem Qpn {n d}(e)(r)(h:QmT n d e=some r):Rl (Zt cx.P 14 0) 31 0 false (Qpo d) e r:=by
 unfold QmT at h;obtain⟨b,h⟩|⟨b,h⟩:=io h
 ·have⟨ta2,ha2,h⟩:=bo h;have q:=Q2 V6 ha2 (Qb (jDj b) QA);let o(l:jOj):=b1::.el (VQ ta2)::l;obtain⟨c,h⟩|⟨c,h⟩:=io h
  ·have q:=Qb c q;obtain⟨a,h⟩|⟨a,h⟩:=io h
   ·have⟨ha5,h⟩:=gd h;have⟨ha6,h⟩:=gd h;have⟨ha7,h⟩:=gd h;cases h;exact rn 6 (o [b1,b1,.ix 0,b1]) [] [3,6,7,8] [5] (Qb ha7 (Qb ha6 (Qb ha5 (Qb (jDj a) q))))
   have⟨ha5,h⟩:=gd h;have⟨ha6,h⟩:=gd h;cases h;exact rn 6 (o [b1,b0,b1]) [] [3,6,7,8] [5] (Qb ha6 (Qb (ro 35 ha5) (Qb (jEj a) q)))
  have⟨a,h⟩:=gd h;have⟨ha5,h⟩:=gd h;cases h;exact rn 6 (o [b0,.no,b1]) [] [3,6,7,8] [5] (Qb ha5 (Qb (ro 35 a) (Qb (Zy c) q)))
 cases h;exact rx 6 [b0] [] [3] [5] (Qb (jEj b) QA)
def Qna (n:Nat)(a:jVj):Option (jVj) := (QU (QmT n a) n (0,[])).bind fun b=>some b
theorem QoJ {n a r}(h:Qna n a=some r):Computes cx 14 [.lst false 5 a] (.lst false 5 r):=by unfold Qna at h;have⟨t1,h1,h⟩:=bo h;obtain rfl:=oi h;exact rf [.lp [3,5] [3,6,7,8] [5] (.exit 0) [(3,.own 5 0)] [(5,.row 0 5 t1)] 38] (Qb (QE Qpn h1) QA)
theorem Qm8 {n b c r}(h:Qr n b c=some r):Computes cx 41 [B b,I c] (I r):=by
 unfold Qr at h;obtain⟨a,h⟩|⟨a,h⟩:=io h
 ·obtain rfl:=oi h;exact rf [b1] (Qb a QA)
 obtain rfl:=oi h;exact rf [b0] (Qb (Zy a) QA)
def Qnm (n:Nat)(b c d:Int):Option (Int) := if b<c then(Qr n true 3).bind fun a=>some a else(Qr n (decide (b>d)) 3).bind fun a=>some a
theorem Qof {n b c d r}(h:Qnm n b c d=some r):Computes cx 84 [I b,I c,I d] (I r):=by
 unfold Qnm at h;obtain⟨a,h⟩|⟨a,h⟩:=io h
 ·have⟨t2,h2,h⟩:=bo h;obtain rfl:=oi h;exact rf [b1,.ret (I t2)] (Qb (Qm8 h2) (Qb (jDj a) QA))
 have⟨t2,h2,h⟩:=bo h;obtain rfl:=oi h;exact rf [b0,.ret (I t2)] (Qb (Qm8 h2) (Qb (jEj a) QA))
theorem Qpm {n c}(d)(r)(h:Q6 n c d=some r):Rl (Zt cx.P 39 0) 15 0 false (XU c) d r:=by
 unfold Q6 at h;obtain⟨a,h⟩|⟨a,h⟩:=io h
 ·have⟨ta2,ha2,h⟩:=bo h;have q:=Q2 QM ha2 (Qb (jDj a) QA);obtain⟨b,h⟩|⟨b,h⟩:=io h
  ·have⟨ha4,h⟩:=gd h;cases h;exact rn 4 [b1,.el (Zi ta2),b0] [] [5,6,7] [] (Qb ha4 (Qb (nef b) q))
  cases h;exact rx 4 [b1,.el (Zi ta2),b1] [] [2] [] (Qb (net b) q)
 cases h;exact rx 4 [b0] [] [] [] (Qb (jEj a) QA)
theorem QnW {n b r}(h:Qi n b=some r):Computes cx 39 [.lst false 1 b] (I r):=by
 unfold Qi at h;have⟨a,h1,h⟩:=bo h;obtain a|a:=a
 ·obtain rfl:=oi h;exact rf [.lp [] [5,6,7] [] .ret [(2,.d (I a))] [] 23] (Qb (QE Qpm h1) QA)
 obtain rfl:=oi h;exact rf [.lp [] [5,6,7] [] (.exit 0) [] [] 23] (Qb (QE Qpm h1) QA)
def QmM (x:jSj×jSj×Int×jVj×Int×Int):D:=.agg [Qe x.1,Qe x.2.1,I x.2.2.1,.lst false 1 x.2.2.2.1,I x.2.2.2.2.1,I x.2.2.2.2.2]
def QmX:D->Option (jSj×jSj×Int×jVj×Int×Int)
 | .agg [c0,c1,c2,c3,c4,c5]=>(JY c0).bind fun a=>(JY c1).bind fun b=>(YZ .i64 c2).bind fun c=>(jt 1 c3).bind fun d=>(YZ .i64 c4).bind fun e=>(YZ .i64 c5).bind fun f=>some (a,b,c,d,e,f)
 | _=>none
theorem QmI {d:D}{x:jSj×jSj×Int×jVj×Int×Int}(h:QmX d=some x):d=QmM x:=by
 unfold QmX at h;split at h;case h_2=>cases h
 obtain⟨o,i,h⟩:=Wh h;obtain⟨p,j,h⟩:=Wh h;obtain⟨q,k,h⟩:=Wh h;obtain⟨r,l,h⟩:=Wh h;obtain⟨s,m,h⟩:=Wh h;obtain⟨t,n,h⟩:=Wh h;cases h;have a:=UM i;have b:=UM j;have c:=Vj k;have e:=qK l;have f:=Vj m;have g:=Vj n;rw[a,b,c,e,f,g];rfl
theorem Qov {n a r}(h:V4 n a=some r):Computes cx 85 [Qe a] (I r):=by unfold V4 at h;have⟨t1,h1,h⟩:=bo h;have⟨t2,h2,h⟩:=bo h;obtain rfl:=oi h;exact rf [.ret (B t1),.ret (I t2)] (Qb (Qm8 h2) (Qb (Qal h1) QA))
def QtM (x:Bool):D:=B x
def un_b (d:D):Option (Bool):=wv d
theorem Qtd {d:D}{x:Bool}(h:un_b d=some x):d=QtM x:=zH h
def Qn0 (n:Nat)(a:Int):Option (Bool) := if a>=0 then some (decide (a<2)) else some false
theorem Qpl {n b r}(h:Qn0 n b=some r):Computes cx 42 [gLD,I b] (B r):=by
 unfold Qn0 at h;obtain⟨a,h⟩|⟨a,h⟩:=io h
 ·cases h;exact rf [b1] (Qb (jDj a) QA)
 obtain rfl:=oi h;exact rf [b0] (Qb (jEj a) QA)
def QnV (n:Nat)(f g:jSj)(h:Int)(e:jVj)(i j:Int)(b:(Int×Int)):Option (Int×Int⊕Int⊕Unit) := if b.2<((e).length:Int) then(el V5 e b.2).bind fun a=>(Qn0 n a).bind fun c=>if c=true then(Qnn n b.1 a).bind fun d=>if d=0 then some (.inr (.inl 21)) else if Qg (b.2+1) then some (.inl (a,(b.2+1))) else none else some (.inr (.inl 10)) else some (.inr (.inr ()))
noncomputable def Qo7 (b c:jSj)(f:Int)(a:jVj)(g h:Int):Lp (Int×Int) (Int⊕Unit):=⟨fun i=>[(2,.ptr 0 0 0 0 0),(3,.ptr 1 0 0 0 0),(6,.d (I i.1)),(26,.d (.lst false 1 a)),(27,.d (I ((a).length:Int))),(28,.d (I i.2))],fun _=>[(0,.box (.d gLD)),(1,.box (.d (.agg [Qe b,Qe c,I f,.lst false 1 a,I g,I h])))],fun
 | (.inl e)=>.ret
 | (.inr e)=>(.exit 0),fun
 | (.inl e)=>[(4,.d (I e))]
 | (.inr e)=>[(2,.ptr 0 0 0 0 0),(3,.ptr 1 0 0 0 0)],fun
 | (.inl e)=>[]
 | (.inr e)=>[(0,.box (.d gLD)),(1,.box (.d (.agg [Qe b,Qe c,I f,.lst false 1 a,I g,I h])))]⟩
theorem Qoj {n d e f g i j}(k)(r)(h:QnV n d e f g i j k=some r):Rl (Zt cx.P 86 0) 62 0 false (Qo7 d e f g i j) k r:=by
 unfold QnV at h;obtain⟨a,h⟩|⟨a,h⟩:=io h
 ·have⟨ta2,ha2,h⟩:=bo h;have⟨ta3,ha3,h⟩:=bo h;have q:=Qb (Qpl ha3) (Q2 QM ha2 (Qb (jDj a) QA));let o(l:jOj):=b1::.el (Zi ta2)::.ret (B ta3)::l;obtain⟨b,h⟩|⟨b,h⟩:=io h
  ·have⟨ta5,ha5,h⟩:=bo h;have q:=Qb (Qn1 ha5) (Qb (zV b) q);obtain⟨c,h⟩|⟨c,h⟩:=io h
   ·cases h;exact rx 24 (o [b0,.ret (I ta5),b1]) [] [4] [] (Qb (eqt c) q)
   have⟨ha7,h⟩:=gd h;cases h;exact rn 24 (o [b0,.ret (I ta5),b0]) [] [2,3,6,26,27,28] [0,1] (Qb ha7 (Qb (eqf c) q))
  cases h;exact rx 24 (o [b1]) [] [4] [] (Qb (wG (Zy b)) q)
 cases h;exact rx 24 [b0] [] [2,3] [0,1] (Qb (jEj a) QA)
def Qno (n:Nat)(g h:jSj)(a:Int)(b:jVj)(d i:Int):Option (Int) := (QoH n a).bind fun j=>(Qr n (decide (((b).length:Int)>40)) 5).bind fun k=>(Qi n ([I j,I k])).bind fun f=>if f=0 then(QU (QnV n g h a b d i) n (a,0)).bind fun c=>match c with|.inl c=>(some c)|.inr c=>(if((b).length:Int)=0 then(Qr n (d != 0) 3).bind fun e=>some e else(el V5 b 0).bind fun e=>(Qnn n a e).bind fun l=>(Qnm n d 1 l).bind fun t9=>some t9) else some f
theorem QoA {n b c e f g i r}(h:Qno n b c e f g i=some r):Computes cx 86 [gLD,.agg [Qe b,Qe c,I e,.lst false 1 f,I g,I i]] (I r):=by
 unfold Qno at h;have⟨t1,h1,h⟩:=bo h;have⟨t2,h2,h⟩:=bo h;have⟨t3,h3,h⟩:=bo h;have q:=Qb (leF (QnW h3)) (Qb (Qm8 h2) (Qb (QpW h1) QA));let o(l:jOj):=.ret (I t1)::.ret (I t2)::.ret (I t3)::l;obtain⟨j,h⟩|⟨j,h⟩:=io h
 ·have q:=Qb (nef j) q;have⟨a,h5,h⟩:=bo h;obtain a|a:=a
  ·obtain rfl:=oi h;exact rf (o [b0,.lp [] [2,3,6,26,27,28] [0,1] .ret [(4,.d (I a))] [] 52]) (Qb (QE Qoj h5) q)
  have q:=Qb (QE Qoj h5) q;let o l:=o (b0::.lp [] [2,3,6,26,27,28] [0,1] (.exit 0) [(2,.ptr 0 0 0 0 0),(3,.ptr 1 0 0 0 0)] [(0,.box (.d gLD)),(1,.box (.d (.agg [Qe b,Qe c,I e,.lst false 1 f,I g,I i])))] 52::l);obtain⟨k,h⟩|⟨k,h⟩:=io h
  ·have⟨t7,h7,h⟩:=bo h;obtain rfl:=oi h;exact rf (o [b1,.ret (I t7)]) (Qb (Qm8 h7) (Qb (eqt k) q))
  have⟨t7,h7,h⟩:=bo h;have⟨t8,h8,h⟩:=bo h;have⟨t9,h9,h⟩:=bo h;obtain rfl:=oi h;exact rf (o [b0,.el (Zi t7),.ret (I t8),.ret (I t9)]) (Qb (Qof h9) (Qb (Qn1 h8) (Q2 QM h7 (Qb (eqf k) q))))
 obtain rfl:=oi h;exact rf (o [b1]) (Qb (net j) q)
def Qnc (n:Nat)(d e:jSj)(b:Int)(a:jVj)(f g:Int):Option (Int) := if((a).length:Int)>0 then(el V5 a 0).bind fun c=>some c else some b
theorem QnX {n b c d e f g r}(h:Qnc n b c d e f g=some r):Computes cx 88 [.agg [Qe b,Qe c,I d,.lst false 1 e,I f,I g]] (I r):=by
 unfold Qnc at h;obtain⟨a,h⟩|⟨a,h⟩:=io h
 ·have⟨t2,h2,h⟩:=bo h;obtain rfl:=oi h;exact rf [b1,.el (Zi t2)] (Q2 QM h2 (Qb (jDj a) QA))
 obtain rfl:=oi h;exact rf [b0] (Qb (jEj a) QA)
def Qm5 (n:Nat)(m p:Int)(o:jVj)(c:(Int×jVj)):Option (Int×jVj⊕Int⊕Unit) := if c.1<((o).length:Int) then(el QmX o c.1).bind fun a=>(V4 n a.1).bind fun l=>if mok (.string a.1) (c.2:jVj)=true then if(W5 (.string a.1) (c.2:jVj)).isSome=true then((W5 (.string a.1) (c.2:jVj)).bind un_b).bind fun f=>(Qr n f 9).bind fun g=>(V4 n a.2.1).bind fun h=>(Qno n a.1 a.2.1 a.2.2.1 a.2.2.2.1 a.2.2.2.2.1 a.2.2.2.2.2).bind fun i=>(Qnm n a.2.2.2.2.2 0 m).bind fun b=>(Qi n ([I l,I g,I h,I i,I b])).bind fun e=>if e=0 then(Qnc n a.1 a.2.1 a.2.2.1 a.2.2.2.1 a.2.2.2.2.1 a.2.2.2.2.2).bind fun d=>(QoF n d).bind fun k=>if k<0 then some (.inr (.inl 7)) else if Qg (c.1+1) then some (.inl ((c.1+1),(E7 (.string a.1) (B true) (c.2:jVj)))) else none else some (.inr (.inl e)) else(Qr n false 9).bind fun f=>(V4 n a.2.1).bind fun g=>(Qno n a.1 a.2.1 a.2.2.1 a.2.2.2.1 a.2.2.2.2.1 a.2.2.2.2.2).bind fun h=>(Qnm n a.2.2.2.2.2 0 m).bind fun i=>(Qi n ([I l,I f,I g,I h,I i])).bind fun b=>if b=0 then(Qnc n a.1 a.2.1 a.2.2.1 a.2.2.2.1 a.2.2.2.2.1 a.2.2.2.2.2).bind fun j=>(QoF n j).bind fun d=>if d<0 then some (.inr (.inl 7)) else if Qg (c.1+1) then some (.inl ((c.1+1),(E7 (.string a.1) (B true) (c.2:jVj)))) else none else some (.inr (.inl b)) else none else some (.inr (.inr ()))
noncomputable def QpP (c f:Int)(a:jVj):Lp (Int×jVj) (Int⊕Unit):=⟨fun b=>[(2,.ptr 0 0 0 0 0),(3,.ptr 1 0 0 0 0),(6,.own 21 0),(30,.d (.lst false 6 a)),(31,.d (I ((a).length:Int))),(32,.d (I b.1))],fun b=>[(0,.box (.d gLD)),(1,.box (.d (.agg [I c,I f,.lst false 6 a]))),(21,.mp b.2)],fun
 | (.inl e)=>.ret
 | (.inr e)=>(.exit 0),fun
 | (.inl e)=>[(4,.d (I e))]
 | (.inr e)=>[],fun _=>[]⟩
theorem QoD {n i j k}(g)(r)(h:Qm5 n i j k g=some r):Rl (Zt cx.P 40 0) 69 0 false (QpP i j k) g r:=by
 unfold Qm5 at h;obtain⟨e,h⟩|⟨e,h⟩:=io h
 ·have⟨ta2,ha2,h⟩:=bo h;have⟨ta3,ha3,h⟩:=bo h;have⟨ha4,h⟩:=gd h;have q:=Qb (Qov ha3) (Q2 QmI ha2 (Qb (jDj e) QA));let o(l:jOj):=b1::.el (QmM ta2)::.ret (I ta3)::l;obtain⟨f,h⟩|⟨f,h⟩:=io h
  ·have⟨ta6,ha6,h⟩:=bo h;have⟨ta7,ha7,h⟩:=bo h;have⟨ta8,ha8,h⟩:=bo h;have⟨ta9,ha9,h⟩:=bo h;have⟨ta10,ha10,h⟩:=bo h;have⟨ta11,a,h⟩:=bo h;have q:=Qb (leF (QnW a)) (Qb (Qof ha10) (Qb (QoA ha9) (Qb (Qov ha8) (Qb (Qm8 ha7) (Qb ((Qsb ha4 (Qch Qtd ha6)):YX false (.string ta2.1) (B false) (g.2:jVj)=some (B ta6)) q)))));let o l:=o (.el (B ta6)::.ret (I ta7)::.ret (I ta8)::.ret (I ta9)::.ret (I ta10)::.ret (I ta11)::l);obtain⟨b,h⟩|⟨b,h⟩:=io h
   ·have⟨ta13,ha13,h⟩:=bo h;have⟨ta14,c,h⟩:=bo h;have q:=Qb (Qpy c) (Qb (QnX ha13) (Qb (nef b) q));let o l:=o (b0::.ret (I ta13)::.ret (I ta14)::l);obtain⟨d,h⟩|⟨d,h⟩:=io h
    ·cases h;exact rx 27 (o [b1]) [] [4] [] (Qb (jDj d) q)
    have⟨ha16,h⟩:=gd h;cases h;exact rn 27 (o [b0,b1]) [] [2,3,6,30,31,32] [0,1,21] (Qb ha16 (Qb ha4 (Qb (jEj d) q)))
   cases h;exact rx 27 (o [b1]) [] [4] [] (Qb (net b) q)
  have⟨ta6,ha6,h⟩:=bo h;have⟨ta7,ha7,h⟩:=bo h;have⟨ta8,ha8,h⟩:=bo h;have⟨ta9,ha9,h⟩:=bo h;have⟨ta10,ha10,h⟩:=bo h;have q:=Qb (leF (QnW ha10)) (Qb (Qof ha9) (Qb (QoA ha8) (Qb (Qov ha7) (Qb (Qm8 ha6) (Qb ((QrW ha4 (mno f)):YX false (.string ta2.1) (B false) (g.2:jVj)=some (B false)) q)))));let o l:=o (.el (B false)::.ret (I ta6)::.ret (I ta7)::.ret (I ta8)::.ret (I ta9)::.ret (I ta10)::l);obtain⟨a,h⟩|⟨a,h⟩:=io h
  ·have⟨ta12,b,h⟩:=bo h;have⟨ta13,ha13,h⟩:=bo h;have q:=Qb (Qpy ha13) (Qb (QnX b) (Qb (nef a) q));let o l:=o (b0::.ret (I ta12)::.ret (I ta13)::l);obtain⟨c,h⟩|⟨c,h⟩:=io h
   ·cases h;exact rx 27 (o [b1]) [] [4] [] (Qb (jDj c) q)
   have⟨d,h⟩:=gd h;cases h;exact rn 27 (o [b0,b1]) [] [2,3,6,30,31,32] [0,1,21] (Qb d (Qb ha4 (Qb (jEj c) q)))
  cases h;exact rx 27 (o [b1]) [] [4] [] (Qb (net a) q)
 cases h;exact rx 27 [b0] [] [] [] (Qb (jEj e) QA)
def QmO (n:Nat)(b c:Int)(d:jVj):Option (Int) := (Qow n).bind fun f=>(Qnm n b 0 10000000).bind fun g=>(Qnm n c 1 100).bind fun h=>(Qr n (decide (((d).length:Int)>16)) 5).bind fun i=>(Qi n ([I f,I g,I h,I i])).bind fun e=>if e=0 then(QU (Qm5 n b c d) n (0,[])).bind fun a=>match a with|.inl a=>(some a)|.inr a=>(some 0) else some e
theorem Qnp {n c e f r}(h:QmO n c e f=some r):Computes cx 40 [gLD,.agg [I c,I e,.lst false 6 f]] (I r):=by
 unfold QmO at h;have⟨t1,h1,h⟩:=bo h;have⟨t2,h2,h⟩:=bo h;have⟨t3,h3,h⟩:=bo h;have⟨t4,h4,h⟩:=bo h;have⟨t5,h5,h⟩:=bo h;have q:=Qb (leF (QnW h5)) (Qb (Qm8 h4) (Qb (Qof h3) (Qb (Qof h2) (Qb (Qqx h1) QA))));let o(l:jOj):=.ret (I t1)::.ret (I t2)::.ret (I t3)::.ret (I t4)::.ret (I t5)::l;obtain⟨b,h⟩|⟨b,h⟩:=io h
 ·have q:=Qb (nef b) q;have⟨a,h7,h⟩:=bo h;obtain a|a:=a
  ·obtain rfl:=oi h;exact rf (o [b0,.lp [] [2,3,6,30,31,32] [0,1,21] .ret [(4,.d (I a))] [] 78]) (Qb (QE QoD h7) q)
  obtain rfl:=oi h;exact rf (o [b0,.lp [] [2,3,6,30,31,32] [0,1,21] (.exit 0) [] [] 78]) (Qb (QE QoD h7) q)
 obtain rfl:=oi h;exact rf (o [b1]) (Qb (net b) q)
def Qpb (x:jSj×jSj×Int×Int):D:=.agg [Qe x.1,Qe x.2.1,I x.2.2.1,I x.2.2.2]
def Qou:D->Option (jSj×jSj×Int×Int)
 | .agg [c0,c1,c2,c3]=>(JY c0).bind fun a=>(JY c1).bind fun b=>(YZ .i64 c2).bind fun c=>(YZ .i64 c3).bind fun d=>some (a,b,c,d)
 | _=>none
theorem Qo8 {d:D}{x:jSj×jSj×Int×Int}(h:Qou d=some x):d=Qpb x:=by
 unfold Qou at h;split at h;case h_2=>cases h
 obtain⟨k,f,h⟩:=Wh h;obtain⟨l,g,h⟩:=Wh h;obtain⟨m,i,h⟩:=Wh h;obtain⟨n,j,h⟩:=Wh h;cases h;have a:=UM f;have b:=UM g;have c:=Vj i;have e:=Vj j;rw[a,b,c,e];rfl
def Qnl (n:Nat)(d e:jSj)(a:Int)(b:jVj)(f g:Int):Option (Bool) := if((b).length:Int)=0 then(el Qou [.agg [.v (.string ⟨#[102]⟩),.v (.string ⟨#[102,111,99,117,115]⟩),I 500,I 500],.agg [.v (.string ⟨#[97]⟩),.v (.string ⟨#[115,116,97,110,100,98,121]⟩),I 400,I 500]] a).bind fun c=>some (!(c.2.1.toList==(⟨#[102,111,99,117,115]⟩:jSj).toList)) else some false
theorem QoN {n b c d e f g r}(h:Qnl n b c d e f g=some r):Computes cx 43 [gLD,.agg [Qe b,Qe c,I d,.lst false 1 e,I f,I g]] (B r):=by
 unfold Qnl at h;obtain⟨a,h⟩|⟨a,h⟩:=io h
 ·have⟨t2,h2,h⟩:=bo h;cases h;exact rf [b1,.el (Qpb t2)] (Q2 Qo8 h2 (Qb (eqt a) QA))
 obtain rfl:=oi h;exact rf [b0] (Qb (eqf a) QA)
def Qnf (n:Nat)(b c:jSj)(d:Int)(a:jVj)(e f:Int):Option (jSj×jSj×Int×jVj×Int×Int) := if 0<=((a).length:Int)/\((a).length:Int)<=((a).length:Int)/\8*((a).length:Int)<=281474976710656/\((a).length:Int)<=9223372036854775807 then some (b,c,d,(a.take ((List.replicate (Int.toNat ((a).length:Int)) (I 0:D)):jVj).length++(List.replicate (Int.toNat ((a).length:Int)) (I 0:D)).drop (a).length),e,f) else none
theorem Qnt {n a b c d e f r}(h:Qnf n a b c d e f=some r):Computes cx 90 [.agg [Qe a,Qe b,I c,.lst false 1 d,I e,I f]] (.agg [Qe r.1,Qe r.2.1,I r.2.2.1,.lst false 1 r.2.2.2.1,I r.2.2.2.2.1,I r.2.2.2.2.2]):=by unfold Qnf at h;have⟨h1,h⟩:=gd h;cases h;exact rf [b1] (Qb h1 QA)
def qs (n:Nat)(e f:Int)(d:jVj)(c:(Int×jVj)):Option (Int×jVj⊕jVj) := if c.1<((d).length:Int) then(el QmX d c.1).bind fun a=>(Qnf n a.1 a.2.1 a.2.2.1 a.2.2.2.1 a.2.2.2.2.1 a.2.2.2.2.2).bind fun b=>if Wi 80 ((c.2).length+1) then if Qg (c.1+1) then some (.inl ((c.1+1),(c.2++([.agg [.v (.string b.1),.v (.string b.2.1),I b.2.2.1,.lst false 1 b.2.2.2.1,I b.2.2.2.2.1,I b.2.2.2.2.2]]:jVj)))) else none else none else some (.inr c.2)
noncomputable def QpZ (c f:Int)(a:jVj):Lp (Int×jVj) (jVj):=⟨fun b=>[(1,.d (.fn (.func 90) [] [])),(5,.own 12 0),(8,.d (.lst false 6 a)),(9,.d (I ((a).length:Int))),(10,.d (I b.1))],fun b=>[(0,.box (.d (.agg [I c,I f,.lst false 6 a]))),(1,.box (.d (.agg [I 0,I 0,.lst true 0 []]))),(12,.row 0 6 b.2)],fun _=>(.exit 0),fun _=>[(5,.own 12 0)],fun e=>[(0,.box (.d (.agg [I c,I f,.lst false 6 a]))),(1,.box (.d (.agg [I 0,I 0,.lst true 0 []]))),(12,.row 0 6 e)]⟩
theorem QpY {n b c d}(e)(r)(h:qs n b c d e=some r):Rl (Zt cx.P 89 0) 22 7 false (QpZ b c d) e r:=by
 unfold qs at h;obtain⟨a,h⟩|⟨a,h⟩:=io h
 ·have⟨ta2,ha2,h⟩:=bo h;have⟨ta3,ha3,h⟩:=bo h;have⟨ha4,h⟩:=gd h;have⟨ha5,h⟩:=gd h;cases h;exact rn 13 [b1,.el (QmM ta2),.ret (.agg [Qe ta3.1,Qe ta3.2.1,I ta3.2.2.1,.lst false 1 ta3.2.2.2.1,I ta3.2.2.2.2.1,I ta3.2.2.2.2.2]),b1] [] [1,5,8,9,10] [0,1,12] (Qb ha5 (Qb (ro 67 ha4) (Qb (Qnt ha3) (Q2 QmI ha2 (Qb (jDj a) QA)))))
 cases h;exact rx 13 [b0] [] [5] [0,1,12] (Qb (jEj a) QA)
def Qnz (n:Nat)(a b:Int)(c:jVj):Option (Int×Int×jVj) := (QU (qs n a b c) n (0,[])).bind fun d=>some (a,b,d)
theorem Qo2 {n a b c r}(h:Qnz n a b c=some r):Computes cx 44 [.agg [I a,I b,.lst false 6 c]] (.agg [I r.1,I r.2.1,.lst false 6 r.2.2]):=by unfold Qnz at h;have⟨t1,h1,h⟩:=bo h;cases h;exact rf [b1,.lp [5,6] [1,5,8,9,10] [0,1,12] (.exit 0) [(5,.own 12 0)] [(0,.box (.d (.agg [I a,I b,.lst false 6 c]))),(1,.box (.d (.agg [I 0,I 0,.lst true 0 []]))),(12,.row 0 6 t1)] 38] (Qb (QE QpY h1) QA)
def Qny (n:Nat)(e f:Int)(d:jVj)(g h:jSj)(i:Int)(j:jVj)(k l:Int)(c:(Int×jVj)):Option (Int×jVj⊕jVj) := if c.1<((d).length:Int) then(el QmX d c.1).bind fun a=>(Qnf n a.1 a.2.1 a.2.2.1 a.2.2.2.1 a.2.2.2.2.1 a.2.2.2.2.2).bind fun b=>if Wi 80 ((c.2).length+1) then if Qg (c.1+1) then some (.inl ((c.1+1),(c.2++([.agg [.v (.string b.1),.v (.string b.2.1),I b.2.2.1,.lst false 1 b.2.2.2.1,I b.2.2.2.2.1,I b.2.2.2.2.2]]:jVj)))) else none else none else some (.inr c.2)
noncomputable def QqI (b c:Int)(a:jVj)(g h:jSj)(i:Int)(j:jVj)(k l:Int):Lp (Int×jVj) (jVj):=⟨fun f=>[(1,.d (.fn (.func 90) [] [])),(5,.own 44 0),(8,.d (.lst false 6 a)),(9,.d (I ((a).length:Int))),(10,.d (I f.1))],fun f=>[(0,.box (.d gLD)),(1,.box (.d (.agg [I b,I c,.lst false 6 a]))),(2,.box (.d (.agg [Qe g,Qe h,I i,.lst false 1 j,I k,I l]))),(3,.box (.d (.agg [I 0,I 0,.lst true 0 []]))),(32,.box (.d (.agg [I b,I c,.lst false 6 a]))),(33,.box (.d (.agg [I 0,I 0,.lst true 0 []]))),(44,.row 0 6 f.2)],fun _=>(.exit 0),fun _=>[(5,.own 44 0)],fun e=>[(0,.box (.d gLD)),(1,.box (.d (.agg [I b,I c,.lst false 6 a]))),(2,.box (.d (.agg [Qe g,Qe h,I i,.lst false 1 j,I k,I l]))),(3,.box (.d (.agg [I 0,I 0,.lst true 0 []]))),(32,.box (.d (.agg [I b,I c,.lst false 6 a]))),(33,.box (.d (.agg [I 0,I 0,.lst true 0 []]))),(44,.row 0 6 e)]⟩
theorem QqC {n b c d e f g i j k}(l)(r)(h:Qny n b c d e f g i j k l=some r):Rl (Zt cx.P 89 0) 22 39 false (QqI b c d e f g i j k) l r:=by
 unfold Qny at h;obtain⟨a,h⟩|⟨a,h⟩:=io h
 ·have⟨ta2,ha2,h⟩:=bo h;have⟨ta3,ha3,h⟩:=bo h;have⟨ha4,h⟩:=gd h;have⟨ha5,h⟩:=gd h;cases h;exact rn 45 [b1,.el (QmM ta2),.ret (.agg [Qe ta3.1,Qe ta3.2.1,I ta3.2.2.1,.lst false 1 ta3.2.2.2.1,I ta3.2.2.2.2.1,I ta3.2.2.2.2.2]),b1] [] [1,5,8,9,10] [0,1,2,3,32,33,44] (Qb ha5 (Qb (ro 67 ha4) (Qb (Qnt ha3) (Q2 QmI ha2 (Qb (jDj a) QA)))))
 cases h;exact rx 45 [b0] [] [5] [0,1,2,3,32,33,44] (Qb (jEj a) QA)
def QnR (n:Nat)(d e:Int)(k:jVj)(f g:jSj)(b:Int)(h:jVj)(i j:Int):Option (Int×Int×jVj×Int) := (QmO n d e k).bind fun m=>(Qr n (((k).length:Int)==16) 5).bind fun o=>(Qn0 n b).bind fun p=>(Qr n (!p) 10).bind fun q=>(Qi n ([I m,I o,I q])).bind fun l=>if l=0 then(Qnl n f g b h i j).bind fun r=>if r=true then(QU (Qny n d e k f g b h i j) n (0,[])).bind fun t9=>if Wi 80 ((t9).length+1) then(QmO n d e (t9++([.agg [.v (.string f),.v (.string g),I b,.lst false 1 h,I i,I j]]:jVj))).bind fun c=>if c=0 then(Qnz n d e (t9++([.agg [.v (.string f),.v (.string g),I b,.lst false 1 h,I i,I j]]:jVj))).bind fun a=>some (a.1,a.2.1,a.2.2,0) else some (0,0,[],c) else none else some (0,0,[],22) else some (0,0,[],l)
theorem Qp2 {n b c e f g i j k m r}(h:QnR n b c e f g i j k m=some r):Computes cx 15 [gLD,.agg [I b,I c,.lst false 6 e],.agg [Qe f,Qe g,I i,.lst false 1 j,I k,I m]] (.tup [.agg [I r.1,I r.2.1,.lst false 6 r.2.2.1],I r.2.2.2]):=by
 unfold QnR at h;have⟨t1,h1,h⟩:=bo h;have⟨t2,h2,h⟩:=bo h;have⟨t3,h3,h⟩:=bo h;have⟨t4,h4,h⟩:=bo h;have⟨t5,h5,h⟩:=bo h;have q:=Qb (leF (QnW h5)) (Qb (Qm8 h4) (Qb (Qpl h3) (Qb (Qm8 h2) (Qb (Qnp h1) QA))));let o(l:jOj):=.ret (I t1)::.ret (I t2)::.ret (B t3)::.ret (I t4)::.ret (I t5)::l;obtain⟨p,h⟩|⟨p,h⟩:=io h
 ·have⟨t7,h7,h⟩:=bo h;have q:=Qb (QoN h7) (Qb (nef p) q);let o l:=o (b0::.ret (B t7)::l);obtain⟨s,h⟩|⟨s,h⟩:=io h
  ·have⟨t9,h9,h⟩:=bo h;have⟨h10,h⟩:=gd h;have⟨t11,h11,h⟩:=bo h;have q:=Qb (Qnp h11) (Qb (ro 67 h10) (Qb (QE QqC h9) (Qb (zV s) q)));let o l:=o (b0::b1::b1::.lp [5,6] [1,5,8,9,10] [0,1,2,3,32,33,44] (.exit 0) [(5,.own 44 0)] [(0,.box (.d gLD)),(1,.box (.d (.agg [I b,I c,.lst false 6 e]))),(2,.box (.d (.agg [Qe f,Qe g,I i,.lst false 1 j,I k,I m]))),(3,.box (.d (.agg [I 0,I 0,.lst true 0 []]))),(32,.box (.d (.agg [I b,I c,.lst false 6 e]))),(33,.box (.d (.agg [I 0,I 0,.lst true 0 []]))),(44,.row 0 6 t9)] 70::b1::.ret (I t11)::l);obtain⟨a,h⟩|⟨a,h⟩:=io h
   ·have⟨t13,h13,h⟩:=bo h;cases h;exact rf (o [b0,.ret (.agg [I t13.1,I t13.2.1,.lst false 6 t13.2.2])]) (Qb (Qo2 h13) (Qb (nef a) q))
   cases h;exact(rf (r:=.tup [.agg [I 0,I 0,.lst true 0 []],I t11]) (o [b1]) (Qb (net a) q)).le (LEs.refl _) (.tups (.cons (.aggs (.cons (.refl _) (.cons (.refl _) (.cons (.nilF) (.nil))))) (.cons (.refl _) (.nil))))
  cases h;exact(rf (r:=.tup [.agg [I 0,I 0,.lst true 0 []],I 22]) (o [b1]) (Qb (wG (Zy s)) q)).le (LEs.refl _) (.tups (.cons (.aggs (.cons (.refl _) (.cons (.refl _) (.cons (.nilF) (.nil))))) (.cons (.refl _) (.nil))))
 cases h;exact(rf (r:=.tup [.agg [I 0,I 0,.lst true 0 []],I t5]) (o [b1]) (Qb (net p) q)).le (LEs.refl _) (.tups (.cons (.aggs (.cons (.refl _) (.cons (.refl _) (.cons (.nilF) (.nil))))) (.cons (.refl _) (.nil))))
def Qne (n:Nat)(e f:Int)(c:jVj)(d:jSj)(a:Int):Option (Int⊕Int⊕Unit) := if a<((c).length:Int) then(el QmX c a).bind fun b=>if(b.1.toList==d.toList)=true then some (.inr (.inl a)) else if Qg (a+1) then some (.inl (a+1)) else none else some (.inr (.inr ()))
noncomputable def QpO (b c:Int)(a:jVj)(f:jSj):Lp (Int) (Int⊕Unit):=⟨fun g=>[(0,.d (.lst false 6 a)),(1,.fn (.func 197) [] [.ptr 1 0 0 0 0]),(7,.d (I ((a).length:Int))),(8,.d (I g))],fun _=>[(0,.box (.d (.agg [I b,I c,.lst false 6 a]))),(1,.box (.d (Qe f)))],fun
 | (.inl e)=>.ret
 | (.inr e)=>(.exit 0),fun
 | (.inl e)=>[(4,.d (I e))]
 | (.inr e)=>[],fun _=>[(0,.box (.d (.agg [I b,I c,.lst false 6 a]))),(1,.box (.d (Qe f)))]⟩
theorem QoC {n c d e f}(g)(r)(h:Qne n c d e f g=some r):Rl (Zt cx.P 196 0) 19 8 false (QpO c d e f) g r:=by
 unfold Qne at h;obtain⟨a,h⟩|⟨a,h⟩:=io h
 ·have⟨ta2,ha2,h⟩:=bo h;have q:=Q2 QmI ha2 (Qb (jDj a) QA);let o(l:jOj):=b1::.el (QmM ta2)::b1::l;obtain⟨b,h⟩|⟨b,h⟩:=io h
  ·cases h;exact rx 12 (o [b1]) [] [4] [0,1] (Qb b q)
  have⟨ha4,h⟩:=gd h;cases h;exact rn 12 (o [b0]) [] [0,1,7,8] [0,1] (Qb ha4 (Qb (Zy b) q))
 cases h;exact rx 12 [b0] [] [] [0,1] (Qb (jEj a) QA)
def QnN (n:Nat)(b c:Int)(d:jVj)(e:jSj):Option (Int) := (QU (Qne n b c d e) n 0).bind fun a=>match a with|.inl a=>(some a)|.inr a=>(some (-1))
theorem Qqn {n a b c e r}(h:QnN n a b c e=some r):Computes cx 91 [.agg [I a,I b,.lst false 6 c],Qe e] (I r):=by
 unfold QnN at h;have⟨f,h1,h⟩:=bo h;obtain f|f:=f
 ·obtain rfl:=oi h;exact rf [b1,.lp [] [0,1,7,8] [0,1] .ret [(4,.d (I f))] [(0,.box (.d (.agg [I a,I b,.lst false 6 c]))),(1,.box (.d (Qe e)))] 41] (Qb (QE QoC h1) QA)
 cases h;exact rf [b1,.lp [] [0,1,7,8] [0,1] (.exit 0) [] [(0,.box (.d (.agg [I a,I b,.lst false 6 c]))),(1,.box (.d (Qe e)))] 41] (Qb (QE QoC h1) QA)
def QsH (x:jVj×Int):D:=.agg [.lst false 1 x.1,I x.2]
def QqT:D->Option (jVj×Int)
 | .agg [c0,c1]=>(jt 1 c0).bind fun a=>(YZ .i64 c1).bind fun b=>some (a,b)
 | _=>none
theorem QrM {d:D}{x:jVj×Int}(h:QqT d=some x):d=QsH x:=by
 unfold QqT at h;split at h;case h_2=>cases h
 obtain⟨f,c,h⟩:=Wh h;obtain⟨g,e,h⟩:=Wh h;cases h;have a:=qK c;have b:=Vj e;rw[a,b];rfl
def Qns (n:Nat)(c d:jSj)(a:Int)(g:jVj)(h e i:Int):Option (jSj×jSj×Int×jVj×Int×Int×Bool) := (Qnc n c d a g h e).bind fun l=>(Qp6 n l).bind fun k=>if mok (.int .i64 i) (k:jVj)=true then if(W5 (.int .i64 i) (k:jVj)).isSome=true then((W5 (.int .i64 i) (k:jVj)).bind QqT).bind fun b=>if((g).length:Int)>0 then(QmR n b.1).bind fun m=>some (c,d,a,m,h,e,true) else if(0:Int)<=1/\1<=((b.1).length:Int)/\((b.1).length:Int)<=((b.1).length:Int)/\(b.1=[]\/1=1) then(QmR n (b.1.drop (Int.toNat 1))).bind fun f=>if((f).length:Int)>0 then(el V5 f 0).bind fun t10=>(Qnn n a t10).bind fun j=>some (c,d,a,f,j,e,true) else some (c,d,a,f,0,e,true) else none else some (c,d,a,g,h,e,false) else none
theorem Qpk {n e f g i j k a r}(h:Qns n e f g i j k a=some r):Computes cx 94 [gLD,.agg [Qe e,Qe f,I g,.lst false 1 i,I j,I k],I a] (.tup [.agg [Qe r.1,Qe r.2.1,I r.2.2.1,.lst false 1 r.2.2.2.1,I r.2.2.2.2.1,I r.2.2.2.2.2.1],B r.2.2.2.2.2.2]):=by
 unfold Qns at h;have⟨t1,h1,h⟩:=bo h;have⟨d,h2,h⟩:=bo h;have⟨h3,h⟩:=gd h;have q:=Qb (Qrh h2) (Qb (QnX h1) QA);let o(l:jOj):=.ret (I t1)::.ret (.mp d)::l;obtain⟨m,h⟩|⟨m,h⟩:=io h
 ·have⟨t5,h5,h⟩:=bo h;have q:=Qb ((qU h3 (Qch QrM h5)):YX true (.int .i64 a) (.agg [.lst true 0 [],I 0]) (d:jVj)=some (.tup [.agg [.lst false 1 t5.1,I t5.2],B true])) q;let o l:=o (.el (.tup [.agg [.lst false 1 t5.1,I t5.2],B true])::.no::l);obtain⟨b,h⟩|⟨b,h⟩:=io h
  ·have⟨t7,h7,h⟩:=bo h;cases h;exact rf (o [b1,.ret (.lst false 1 t7)]) (Qb (QnS h7) (Qb (jDj b) q))
  have⟨h7,h⟩:=gd h;have⟨t8,h8,h⟩:=bo h;have q:=Qb (QnS h8) (Qb h7 (Qb (jEj b) q));let o l:=o (b0::b1::.ret (.lst false 1 t8)::l);obtain⟨c,h⟩|⟨c,h⟩:=io h
  ·have⟨t10,h10,h⟩:=bo h;have⟨t11,h11,h⟩:=bo h;cases h;exact rf (o [b1,.el (Zi t10),.ret (I t11)]) (Qb (Qn1 h11) (Q2 QM h10 (Qb (jDj c) q)))
  cases h;exact rf (o [b0]) (Qb (jEj c) q)
 cases h;exact rf (o [.el (.tup [.agg [.lst true 0 [],I 0],B false]),.no]) (Qb ((Gb h3 (mno m)):YX true (.int .i64 a) (.agg [.lst true 0 [],I 0]) (d:jVj)=some (.tup [.agg [.lst true 0 [],I 0],B false])) q)
def Qm4 (n:Nat)(e f:Int)(d:jVj)(g h:jSj)(i:Bool)(t10:jSj×jSj×Int×jVj×Int×Int×Bool)(c:(Int×jVj)):Option (Int×jVj⊕jVj) := if c.1<((d).length:Int) then(el QmX d c.1).bind fun a=>(Qnf n a.1 a.2.1 a.2.2.1 a.2.2.2.1 a.2.2.2.2.1 a.2.2.2.2.2).bind fun b=>if Wi 80 ((c.2).length+1) then if Qg (c.1+1) then some (.inl ((c.1+1),(c.2++([.agg [.v (.string b.1),.v (.string b.2.1),I b.2.2.1,.lst false 1 b.2.2.2.1,I b.2.2.2.2.1,I b.2.2.2.2.2]]:jVj)))) else none else none else some (.inr c.2)
noncomputable def QpN (b c:Int)(a:jVj)(g h:jSj)(i:Bool)(t10:jSj×jSj×Int×jVj×Int×Int×Bool):Lp (Int×jVj) (jVj):=⟨fun f=>[(1,.d (.fn (.func 90) [] [])),(5,.own 69 0),(8,.d (.lst false 6 a)),(9,.d (I ((a).length:Int))),(10,.d (I f.1))],fun f=>[(0,.box (.d gLD)),(1,.box (.d (.agg [I b,I c,.lst false 6 a]))),(2,.box (.d (.agg [Qe g,Qe h,B i]))),(3,.box (.d (.agg [I 0,I 0,.lst true 0 []]))),(41,.box (.d (.agg [Qe t10.1,Qe t10.2.1,I t10.2.2.1,.lst false 1 t10.2.2.2.1,I t10.2.2.2.2.1,I t10.2.2.2.2.2.1]))),(57,.box (.d (.agg [I b,I c,.lst false 6 a]))),(58,.box (.d (.agg [I 0,I 0,.lst true 0 []]))),(69,.row 0 6 f.2)],fun _=>(.exit 0),fun _=>[(5,.own 69 0)],fun e=>[(0,.box (.d gLD)),(1,.box (.d (.agg [I b,I c,.lst false 6 a]))),(2,.box (.d (.agg [Qe g,Qe h,B i]))),(3,.box (.d (.agg [I 0,I 0,.lst true 0 []]))),(41,.box (.d (.agg [Qe t10.1,Qe t10.2.1,I t10.2.2.1,.lst false 1 t10.2.2.2.1,I t10.2.2.2.2.1,I t10.2.2.2.2.2.1]))),(57,.box (.d (.agg [I b,I c,.lst false 6 a]))),(58,.box (.d (.agg [I 0,I 0,.lst true 0 []]))),(69,.row 0 6 e)]⟩
theorem QpE {n b c d e f g t10}(i)(r)(h:Qm4 n b c d e f g t10 i=some r):Rl (Zt cx.P 89 0) 22 64 false (QpN b c d e f g t10) i r:=by
 unfold Qm4 at h;obtain⟨a,h⟩|⟨a,h⟩:=io h
 ·have⟨ta2,ha2,h⟩:=bo h;have⟨ta3,ha3,h⟩:=bo h;have⟨ha4,h⟩:=gd h;have⟨ha5,h⟩:=gd h;cases h;exact rn 70 [b1,.el (QmM ta2),.ret (.agg [Qe ta3.1,Qe ta3.2.1,I ta3.2.2.1,.lst false 1 ta3.2.2.2.1,I ta3.2.2.2.2.1,I ta3.2.2.2.2.2]),b1] [] [1,5,8,9,10] [0,1,2,3,41,57,58,69] (Qb ha5 (Qb (ro 67 ha4) (Qb (Qnt ha3) (Q2 QmI ha2 (Qb (jDj a) QA)))))
 cases h;exact rx 70 [b0] [] [5] [0,1,2,3,41,57,58,69] (Qb (jEj a) QA)
def QnM (n:Nat)(a b:Int)(c:jVj)(f g:jSj)(i:Bool):Option (Int×Int×jVj×Int) := (QnN n a b c f).bind fun e=>(Qon n g).bind fun h=>(Qr n (decide (e<0)) 10).bind fun k=>(Qr n (decide (h<0)) 10).bind fun l=>(Qi n ([I k,I l])).bind fun j=>if j=0 then(QoX n h).bind fun m=>if m=true then(el QmX c e).bind fun t9=>(Qns n t9.1 t9.2.1 t9.2.2.1 t9.2.2.2.1 t9.2.2.2.2.1 t9.2.2.2.2.2 h).bind fun t10=>if t10.2.2.2.2.2.2=true then if((f==f)&&((g==g)&&((i==true)&&true)))=true then some (a,b,c,0) else(QU (Qm4 n a b c f g i t10) n (0,[])).bind fun d=>if 0<=e/\e<((d).length:Int) then if(Int.toNat e)<(d).length then some (a,b,(List.set d (Int.toNat e) (.agg [.v (.string t10.1),.v (.string t10.2.1),I t10.2.2.1,.lst false 1 t10.2.2.2.1,I t10.2.2.2.2.1,I a]:D)),0) else none else none else some (a,b,c,7) else some (a,b,c,31) else some (a,b,c,j)
theorem Qqm {n c e f g i j r}(h:QnM n c e f g i j=some r):Computes cx 45 [gLD,.agg [I c,I e,.lst false 6 f],.agg [Qe g,Qe i,B j]] (.tup [.agg [I r.1,I r.2.1,.lst false 6 r.2.2.1],I r.2.2.2]):=by
 unfold QnM at h;have⟨t1,h1,h⟩:=bo h;have⟨t2,h2,h⟩:=bo h;have⟨t3,h3,h⟩:=bo h;have⟨t4,h4,h⟩:=bo h;have⟨t5,h5,h⟩:=bo h;have q:=Qb (leF (QnW h5)) (Qb (Qm8 h4) (Qb (Qm8 h3) (Qb (Qrc h2) (Qb (Qqn h1) QA))));let o(l:jOj):=.ret (I t1)::.ret (I t2)::.ret (I t3)::.ret (I t4)::.ret (I t5)::l;obtain⟨k,h⟩|⟨k,h⟩:=io h
 ·have⟨t7,h7,h⟩:=bo h;have q:=Qb (Qri h7) (Qb (nef k) q);let o l:=o (b0::.ret (B t7)::l);obtain⟨m,h⟩|⟨m,h⟩:=io h
  ·have⟨t9,h9,h⟩:=bo h;have⟨t10,h10,h⟩:=bo h;have q:=Qb (Qpk h10) (Q2 QmI h9 (Qb (zV m) q));let o l:=o (b0::.el (QmM t9)::.ret (.tup [.agg [Qe t10.1,Qe t10.2.1,I t10.2.2.1,.lst false 1 t10.2.2.2.1,I t10.2.2.2.2.1,I t10.2.2.2.2.2.1],B t10.2.2.2.2.2.2])::l);obtain⟨a,h⟩|⟨a,h⟩:=io h
   ·have q:=Qb (zV a) q;obtain⟨b,h⟩|⟨b,h⟩:=io h
    ·cases h;exact rf (o [b0,b1]) (Qb b q)
    have⟨t13,h13,h⟩:=bo h;have⟨h14,h⟩:=gd h;have⟨h15,h⟩:=gd h;cases h;exact rf (o [b0,b0,b1,b1,.lp [5,6] [1,5,8,9,10] [0,1,2,3,41,57,58,69] (.exit 0) [(5,.own 69 0)] [(0,.box (.d gLD)),(1,.box (.d (.agg [I c,I e,.lst false 6 f]))),(2,.box (.d (.agg [Qe g,Qe i,B j]))),(3,.box (.d (.agg [I 0,I 0,.lst true 0 []]))),(41,.box (.d (.agg [Qe t10.1,Qe t10.2.1,I t10.2.2.1,.lst false 1 t10.2.2.2.1,I t10.2.2.2.2.1,I t10.2.2.2.2.2.1]))),(57,.box (.d (.agg [I c,I e,.lst false 6 f]))),(58,.box (.d (.agg [I 0,I 0,.lst true 0 []]))),(69,.row 0 6 t13)] 95,b1,b1]) (Qb h15 (Qb h14 (Qb (QE QpE h13) (Qb (Zy b) q))))
   cases h;exact rf (o [b1]) (Qb (wG (Zy a)) q)
  cases h;exact rf (o [b1]) (Qb (wG (Zy m)) q)
 cases h;exact rf (o [b1]) (Qb (net k) q)
def Qm7 (n:Nat)(c d:Int)(e:jVj)(g h:jSj)(i:Bool):Option (Int×Int×jVj×Int) := (QmO n c d e).bind fun f=>if f=0 then(Qnz n c d e).bind fun b=>(QnM n b.1 b.2.1 b.2.2 g h i).bind fun a=>if a.2.2.2=0 then some (a.1,a.2.1,a.2.2.1,0) else some (0,0,[],a.2.2.2) else some (0,0,[],f)
theorem Qoc {n c d e f g i r}(h:Qm7 n c d e f g i=some r):Computes cx 16 [gLD,.agg [I c,I d,.lst false 6 e],.agg [Qe f,Qe g,B i]] (.tup [.agg [I r.1,I r.2.1,.lst false 6 r.2.2.1],I r.2.2.2]):=by
 unfold Qm7 at h;have⟨t1,h1,h⟩:=bo h;have q:=Qb (Qnp h1) QA;obtain⟨a,h⟩|⟨a,h⟩:=io h
 ·have⟨t3,h3,h⟩:=bo h;have⟨t4,h4,h⟩:=bo h;have q:=Qb (Qqm h4) (Qb (Qo2 h3) (Qb (nef a) q));let o(l:jOj):=.ret (I t1)::b0::.ret (.agg [I t3.1,I t3.2.1,.lst false 6 t3.2.2])::.ret (.tup [.agg [I t4.1,I t4.2.1,.lst false 6 t4.2.2.1],I t4.2.2.2])::l;obtain⟨b,h⟩|⟨b,h⟩:=io h
  ·cases h;exact rf (o [b0]) (Qb (nef b) q)
  cases h;exact(rf (r:=.tup [.agg [I 0,I 0,.lst true 0 []],I t4.2.2.2]) (o [b1]) (Qb (net b) q)).le (LEs.refl _) (.tups (.cons (.aggs (.cons (.refl _) (.cons (.refl _) (.cons (.nilF) (.nil))))) (.cons (.refl _) (.nil))))
 cases h;exact(rf (r:=.tup [.agg [I 0,I 0,.lst true 0 []],I t1]) [.ret (I t1),b1] (Qb (net a) q)).le (LEs.refl _) (.tups (.cons (.aggs (.cons (.refl _) (.cons (.refl _) (.cons (.nilF) (.nil))))) (.cons (.refl _) (.nil))))
def Qod (n:Nat)(d e:jSj)(b:Int)(a:jVj)(f g:Int):Option (Int) := if((a).length:Int)>0 then if Qg (((a).length:Int) - 1) then(el V5 a (((a).length:Int) - 1)).bind fun c=>some c else none else some b
theorem QpX {n b c d e f g r}(h:Qod n b c d e f g=some r):Computes cx 97 [.agg [Qe b,Qe c,I d,.lst false 1 e,I f,I g]] (I r):=by
 unfold Qod at h;obtain⟨a,h⟩|⟨a,h⟩:=io h
 ·have⟨h2,h⟩:=gd h;have⟨t3,h3,h⟩:=bo h;obtain rfl:=oi h;exact rf [b1,.el (Zi t3)] (Q2 QM h3 (Qb h2 (Qb (jDj a) QA)))
 obtain rfl:=oi h;exact rf [b0] (Qb (jEj a) QA)
noncomputable def Qpj (b c:Int)(a:jVj):Lp (Int×jVj) (jVj):=⟨fun f=>[(1,.d (.fn (.func 90) [] [])),(5,.own 19 0),(8,.d (.lst false 6 a)),(9,.d (I ((a).length:Int))),(10,.d (I f.1))],fun f=>[(0,.box (.d gLD)),(1,.box (.d (.agg [I b,I c,.lst false 6 a]))),(2,.box (.d (.agg [I 0,I 0,.lst true 0 []]))),(7,.box (.d (.agg [I b,I c,.lst false 6 a]))),(8,.box (.d (.agg [I 0,I 0,.lst true 0 []]))),(19,.row 0 6 f.2)],fun _=>(.exit 0),fun _=>[(5,.own 19 0)],fun e=>[(0,.box (.d gLD)),(1,.box (.d (.agg [I b,I c,.lst false 6 a]))),(2,.box (.d (.agg [I 0,I 0,.lst true 0 []]))),(7,.box (.d (.agg [I b,I c,.lst false 6 a]))),(8,.box (.d (.agg [I 0,I 0,.lst true 0 []]))),(19,.row 0 6 e)]⟩
theorem Qpf {n b c d}(e)(r)(h:qs n b c d e=some r):Rl (Zt cx.P 89 0) 22 14 false (Qpj b c d) e r:=by
 unfold qs at h;obtain⟨a,h⟩|⟨a,h⟩:=io h
 ·have⟨ta2,ha2,h⟩:=bo h;have⟨ta3,ha3,h⟩:=bo h;have⟨ha4,h⟩:=gd h;have⟨ha5,h⟩:=gd h;cases h;exact rn 20 [b1,.el (QmM ta2),.ret (.agg [Qe ta3.1,Qe ta3.2.1,I ta3.2.2.1,.lst false 1 ta3.2.2.2.1,I ta3.2.2.2.2.1,I ta3.2.2.2.2.2]),b1] [] [1,5,8,9,10] [0,1,2,7,8,19] (Qb ha5 (Qb (ro 67 ha4) (Qb (Qnt ha3) (Q2 QmI ha2 (Qb (jDj a) QA)))))
 cases h;exact rx 20 [b0] [] [5] [0,1,2,7,8,19] (Qb (jEj a) QA)
def QmQ (n:Nat)(r s:Int)(t o:jVj)(c:(Int×jVj)):Option (Int×jVj⊕jVj) := if c.1<((o).length:Int) then if 0<=c.1/\c.1<((o).length:Int) then((nth (o) (Int.toNat c.1)).bind QmX).bind fun a=>if Qg ((r+1) - a.2.2.2.2.2) then if((r+1) - a.2.2.2.2.2)>s then(Qod n a.1 a.2.1 a.2.2.1 a.2.2.2.1 a.2.2.2.2.1 a.2.2.2.2.2).bind fun p=>(el Qou [.agg [.v (.string ⟨#[102]⟩),.v (.string ⟨#[102,111,99,117,115]⟩),I 500,I 500],.agg [.v (.string ⟨#[97]⟩),.v (.string ⟨#[115,116,97,110,100,98,121]⟩),I 400,I 500]] p).bind fun q=>if(q.2.1.toList==(⟨#[102,111,99,117,115]⟩:jSj).toList)=true then(Qnc n a.1 a.2.1 a.2.2.1 a.2.2.2.1 a.2.2.2.2.1 a.2.2.2.2.2).bind fun h=>(QoF n h).bind fun i=>(Qns n a.1 a.2.1 a.2.2.1 a.2.2.2.1 a.2.2.2.2.1 a.2.2.2.2.2 i).bind fun b=>if((b.2.2.2.1).length:Int)=0 then if Wi 80 ((c.2).length+1) then if Qg (c.1+1) then some (.inl ((c.1+1),(c.2++([.agg [.v (.string b.1),.v (.string b.2.1),I b.2.2.1,.lst false 1 b.2.2.2.1,I b.2.2.2.2.1,I b.2.2.2.2.2.1]]:jVj)))) else none else none else if Qg (b.2.2.2.2.1 - 1) then if(b.2.2.2.2.1 - 1)>0 then if Wi 80 ((c.2).length+1) then if Qg (c.1+1) then some (.inl ((c.1+1),(c.2++([.agg [.v (.string b.1),.v (.string b.2.1),I b.2.2.1,.lst false 1 b.2.2.2.1,I (b.2.2.2.2.1 - 1),I b.2.2.2.2.2.1]]:jVj)))) else none else none else(el V5 b.2.2.2.1 0).bind fun g=>if(0:Int)<=1/\1<=((b.2.2.2.1).length:Int)/\((b.2.2.2.1).length:Int)<=((b.2.2.2.1).length:Int)/\(b.2.2.2.1=[]\/1=1) then(QmR n (b.2.2.2.1.drop (Int.toNat 1))).bind fun e=>if((e).length:Int)>0 then(el V5 e 0).bind fun l=>(Qnn n g l).bind fun m=>if Wi 80 ((c.2).length+1) then if Qg (c.1+1) then some (.inl ((c.1+1),(c.2++([.agg [.v (.string b.1),.v (.string b.2.1),I g,.lst false 1 e,I m,I b.2.2.2.2.2.1]]:jVj)))) else none else none else if Wi 80 ((c.2).length+1) then if Qg (c.1+1) then some (.inl ((c.1+1),(c.2++([.agg [.v (.string b.1),.v (.string b.2.1),I g,.lst false 1 e,I (b.2.2.2.2.1 - 1),I b.2.2.2.2.2.1]]:jVj)))) else none else none else none else none else if((a.2.2.2.1).length:Int)=0 then if Wi 80 ((c.2).length+1) then if Qg (c.1+1) then some (.inl ((c.1+1),(c.2++([.agg [.v (.string a.1),.v (.string a.2.1),I a.2.2.1,.lst false 1 a.2.2.2.1,I a.2.2.2.2.1,I a.2.2.2.2.2]]:jVj)))) else none else none else if Qg (a.2.2.2.2.1 - 1) then if(a.2.2.2.2.1 - 1)>0 then if Wi 80 ((c.2).length+1) then if Qg (c.1+1) then some (.inl ((c.1+1),(c.2++([.agg [.v (.string a.1),.v (.string a.2.1),I a.2.2.1,.lst false 1 a.2.2.2.1,I (a.2.2.2.2.1 - 1),I a.2.2.2.2.2]]:jVj)))) else none else none else(el V5 a.2.2.2.1 0).bind fun f=>if(0:Int)<=1/\1<=((a.2.2.2.1).length:Int)/\((a.2.2.2.1).length:Int)<=((a.2.2.2.1).length:Int)/\(a.2.2.2.1=[]\/1=1) then(QmR n (a.2.2.2.1.drop (Int.toNat 1))).bind fun d=>if((d).length:Int)>0 then(el V5 d 0).bind fun k=>(Qnn n f k).bind fun e=>if Wi 80 ((c.2).length+1) then if Qg (c.1+1) then some (.inl ((c.1+1),(c.2++([.agg [.v (.string a.1),.v (.string a.2.1),I f,.lst false 1 d,I e,I a.2.2.2.2.2]]:jVj)))) else none else none else if Wi 80 ((c.2).length+1) then if Qg (c.1+1) then some (.inl ((c.1+1),(c.2++([.agg [.v (.string a.1),.v (.string a.2.1),I f,.lst false 1 d,I (a.2.2.2.2.1 - 1),I a.2.2.2.2.2]]:jVj)))) else none else none else none else none else if((a.2.2.2.1).length:Int)=0 then if Wi 80 ((c.2).length+1) then if Qg (c.1+1) then some (.inl ((c.1+1),(c.2++([.agg [.v (.string a.1),.v (.string a.2.1),I a.2.2.1,.lst false 1 a.2.2.2.1,I a.2.2.2.2.1,I a.2.2.2.2.2]]:jVj)))) else none else none else if Qg (a.2.2.2.2.1 - 1) then if(a.2.2.2.2.1 - 1)>0 then if Wi 80 ((c.2).length+1) then if Qg (c.1+1) then some (.inl ((c.1+1),(c.2++([.agg [.v (.string a.1),.v (.string a.2.1),I a.2.2.1,.lst false 1 a.2.2.2.1,I (a.2.2.2.2.1 - 1),I a.2.2.2.2.2]]:jVj)))) else none else none else(el V5 a.2.2.2.1 0).bind fun h=>if(0:Int)<=1/\1<=((a.2.2.2.1).length:Int)/\((a.2.2.2.1).length:Int)<=((a.2.2.2.1).length:Int)/\(a.2.2.2.1=[]\/1=1) then(QmR n (a.2.2.2.1.drop (Int.toNat 1))).bind fun b=>if((b).length:Int)>0 then(el V5 b 0).bind fun j=>(Qnn n h j).bind fun d=>if Wi 80 ((c.2).length+1) then if Qg (c.1+1) then some (.inl ((c.1+1),(c.2++([.agg [.v (.string a.1),.v (.string a.2.1),I h,.lst false 1 b,I d,I a.2.2.2.2.2]]:jVj)))) else none else none else if Wi 80 ((c.2).length+1) then if Qg (c.1+1) then some (.inl ((c.1+1),(c.2++([.agg [.v (.string a.1),.v (.string a.2.1),I h,.lst false 1 b,I (a.2.2.2.2.1 - 1),I a.2.2.2.2.2]]:jVj)))) else none else none else none else none else none else none else some (.inr c.2)
noncomputable def Qpi (a b:Int)(g f:jVj):Lp (Int×jVj) (jVj):=⟨fun c=>[(1,.fn (.func 96) [] [.ptr 5 0 0 0 0,.ptr 0 0 0 0 0,.ptr 54 0 0 0 0]),(5,.own 67 0),(8,.own 19 0),(9,.d (I ((f).length:Int))),(10,.d (I c.1))],fun c=>[(0,.box (.d gLD)),(1,.box (.d (.agg [I a,I b,.lst false 6 g]))),(2,.box (.d (.agg [I 0,I 0,.lst true 0 []]))),(5,.box (.agg [.d (I (a+1)),.d (I b),.own 19 0])),(7,.box (.agg [.d (I a),.d (I b),.own 19 0])),(8,.box (.agg [.d (I a),.d (I b),.own 19 0])),(19,.row 0 6 f),(54,.box (.d (.fn (.func 95) [] []))),(67,.row 0 6 c.2)],fun _=>(.exit 0),fun _=>[(5,.own 67 0)],fun e=>[(0,.box (.d gLD)),(1,.box (.d (.agg [I a,I b,.lst false 6 g]))),(2,.box (.d (.agg [I 0,I 0,.lst true 0 []]))),(5,.box (.agg [.d (I (a+1)),.d (I b),.own 19 0])),(7,.box (.agg [.d (I a),.d (I b),.own 19 0])),(8,.box (.agg [.d (I a),.d (I b),.own 19 0])),(19,.row 0 6 f),(54,.box (.d (.fn (.func 95) [] []))),(67,.row 0 6 e)]⟩
theorem Qpe {n m p s u}(t)(r)(h:QmQ n m p s u t=some r):Rl (Zt cx.P 89 0) 22 62 false (Qpi m p s u) t r:=by
 unfold QmQ at h;obtain⟨j,h⟩|⟨j,h⟩:=io h
 ·have⟨ha2,h⟩:=gd h;have⟨ta3,ha3,h⟩:=bo h;have⟨ha4,h⟩:=gd h;have q:=Qb ha4 (Qb (Q0 QmI ha3) (Qb ha2 (Qb (jDj j) QA)));let o(l:jOj):=b1::b1::.el (QmM ta3)::b1::l;obtain⟨k,h⟩|⟨k,h⟩:=io h
  ·have⟨ta6,i,h⟩:=bo h;have⟨ta7,ha7,h⟩:=bo h;have q:=Q2 Qo8 ha7 (Qb (QpX i) (Qb (jDj k) q));let o l:=o (b1::.ret (I ta6)::.el (Qpb ta7)::l);obtain⟨e,h⟩|⟨e,h⟩:=io h
   ·have⟨ta9,f,h⟩:=bo h;have⟨ta10,ha10,h⟩:=bo h;have⟨ta11,c,h⟩:=bo h;have q:=Qb (Qpk c) (Qb (Qpy ha10) (Qb (QnX f) (Qb e q)));let o l:=o (b1::b1::.ret (I ta9)::.ret (I ta10)::.ret (.tup [.agg [Qe ta11.1,Qe ta11.2.1,I ta11.2.2.1,.lst false 1 ta11.2.2.2.1,I ta11.2.2.2.2.1,I ta11.2.2.2.2.2.1],B ta11.2.2.2.2.2.2])::b1::l);obtain⟨a,h⟩|⟨a,h⟩:=io h
    ·have⟨ha13,h⟩:=gd h;have⟨b,h⟩:=gd h;cases h;exact rn 68 (o [b1,b1]) [] [1,5,8,9,10] [0,1,2,5,7,8,19,54,67] (Qb b (Qb (ro 67 ha13) (Qb (eqt a) q)))
    have⟨ha13,h⟩:=gd h;have q:=Qb ha13 (Qb (eqf a) q);obtain⟨b,h⟩|⟨b,h⟩:=io h
    ·have⟨d,h⟩:=gd h;have⟨ha16,h⟩:=gd h;cases h;exact rn 68 (o [b0,b1,b1]) [] [1,5,8,9,10] [0,1,2,5,7,8,19,54,67] (Qb ha16 (Qb (ro 67 d) (Qb (jDj b) q)))
    have⟨ta15,d,h⟩:=bo h;have⟨ha16,h⟩:=gd h;have⟨ta17,ha17,h⟩:=bo h;have q:=Qb (QnS ha17) (Qb ha16 (Q2 QM d (Qb (jEj b) q)));let o l:=o (b0::b0::.el (Zi ta15)::b1::.ret (.lst false 1 ta17)::l);obtain⟨g,h⟩|⟨g,h⟩:=io h
    ·have⟨ta19,ha19,h⟩:=bo h;have⟨ta20,ha20,h⟩:=bo h;have⟨ha21,h⟩:=gd h;have⟨ha22,h⟩:=gd h;cases h;exact rn 68 (o [b1,.el (Zi ta19),.ret (I ta20),b1]) [] [1,5,8,9,10] [0,1,2,5,7,8,19,54,67] (Qb ha22 (Qb (ro 67 ha21) (Qb (Qn1 ha20) (Q2 QM ha19 (Qb (jDj g) q)))))
    have⟨ha19,h⟩:=gd h;have⟨ha20,h⟩:=gd h;cases h;exact rn 68 (o [b0,b1]) [] [1,5,8,9,10] [0,1,2,5,7,8,19,54,67] (Qb ha20 (Qb (ro 67 ha19) (Qb (jEj g) q)))
   have q:=Qb (Zy e) q;let o l:=o (b0::b1::l);obtain⟨f,h⟩|⟨f,h⟩:=io h
   ·have⟨ha10,h⟩:=gd h;have⟨c,h⟩:=gd h;cases h;exact rn 68 (o [b1,b1]) [] [1,5,8,9,10] [0,1,2,5,7,8,19,54,67] (Qb c (Qb (ro 67 ha10) (Qb (eqt f) q)))
   have⟨ha10,h⟩:=gd h;have q:=Qb ha10 (Qb (eqf f) q);obtain⟨c,h⟩|⟨c,h⟩:=io h
   ·have⟨a,h⟩:=gd h;have⟨ha13,h⟩:=gd h;cases h;exact rn 68 (o [b0,b1,b1]) [] [1,5,8,9,10] [0,1,2,5,7,8,19,54,67] (Qb ha13 (Qb (ro 67 a) (Qb (jDj c) q)))
   have⟨ta12,a,h⟩:=bo h;have⟨ha13,h⟩:=gd h;have⟨ta14,b,h⟩:=bo h;have q:=Qb (QnS b) (Qb ha13 (Q2 QM a (Qb (jEj c) q)));let o l:=o (b0::b0::.el (Zi ta12)::b1::.ret (.lst false 1 ta14)::l);obtain⟨d,h⟩|⟨d,h⟩:=io h
   ·have⟨ta16,ha16,h⟩:=bo h;have⟨ta17,ha17,h⟩:=bo h;have⟨g,h⟩:=gd h;have⟨ha19,h⟩:=gd h;cases h;exact rn 68 (o [b1,.el (Zi ta16),.ret (I ta17),b1]) [] [1,5,8,9,10] [0,1,2,5,7,8,19,54,67] (Qb ha19 (Qb (ro 67 g) (Qb (Qn1 ha17) (Q2 QM ha16 (Qb (jDj d) q)))))
   have⟨ha16,h⟩:=gd h;have⟨ha17,h⟩:=gd h;cases h;exact rn 68 (o [b0,b1]) [] [1,5,8,9,10] [0,1,2,5,7,8,19,54,67] (Qb ha17 (Qb (ro 67 ha16) (Qb (jEj d) q)))
  have q:=Qb (jEj k) q;let o l:=o (b0::.no::b1::l);obtain⟨i,h⟩|⟨i,h⟩:=io h
  ·have⟨ha7,h⟩:=gd h;have⟨e,h⟩:=gd h;cases h;exact rn 68 (o [b1,b1]) [] [1,5,8,9,10] [0,1,2,5,7,8,19,54,67] (Qb e (Qb (ro 67 ha7) (Qb (eqt i) q)))
  have⟨ha7,h⟩:=gd h;have q:=Qb ha7 (Qb (eqf i) q);obtain⟨e,h⟩|⟨e,h⟩:=io h
  ·have⟨f,h⟩:=gd h;have⟨ha10,h⟩:=gd h;cases h;exact rn 68 (o [b0,b1,b1]) [] [1,5,8,9,10] [0,1,2,5,7,8,19,54,67] (Qb ha10 (Qb (ro 67 f) (Qb (jDj e) q)))
  have⟨ta9,f,h⟩:=bo h;have⟨ha10,h⟩:=gd h;have⟨ta11,c,h⟩:=bo h;have q:=Qb (QnS c) (Qb ha10 (Q2 QM f (Qb (jEj e) q)));let o l:=o (b0::b0::.el (Zi ta9)::b1::.ret (.lst false 1 ta11)::l);obtain⟨a,h⟩|⟨a,h⟩:=io h
  ·have⟨ta13,ha13,h⟩:=bo h;have⟨ta14,b,h⟩:=bo h;have⟨d,h⟩:=gd h;have⟨ha16,h⟩:=gd h;cases h;exact rn 68 (o [b1,.el (Zi ta13),.ret (I ta14),b1]) [] [1,5,8,9,10] [0,1,2,5,7,8,19,54,67] (Qb ha16 (Qb (ro 67 d) (Qb (Qn1 b) (Q2 QM ha13 (Qb (jDj a) q)))))
  have⟨ha13,h⟩:=gd h;have⟨b,h⟩:=gd h;cases h;exact rn 68 (o [b0,b1]) [] [1,5,8,9,10] [0,1,2,5,7,8,19,54,67] (Qb b (Qb (ro 67 ha13) (Qb (jEj a) q)))
 cases h;exact rx 68 [b0] [] [5] [0,1,2,5,7,8,19,54,67] (Qb (jEj j) QA)
def QmE (n:Nat)(a b:Int)(c:jVj):Option (Int×Int×jVj) := (QU (qs n a b c) n (0,[])).bind fun d=>if Qg (a+1) then(QU (QmQ n a b c d) n (0,[])).bind fun e=>some ((a+1),b,e) else none
theorem QmS {n a b c r}(h:QmE n a b c=some r):Computes cx 46 [gLD,.agg [I a,I b,.lst false 6 c]] (.agg [I r.1,I r.2.1,.lst false 6 r.2.2]):=by unfold QmE at h;have⟨t1,h1,h⟩:=bo h;have⟨h2,h⟩:=gd h;have⟨t3,h3,h⟩:=bo h;cases h;exact rf [b1,b1,.lp [5,6] [1,5,8,9,10] [0,1,2,7,8,19] (.exit 0) [(5,.own 19 0)] [(0,.box (.d gLD)),(1,.box (.d (.agg [I a,I b,.lst false 6 c]))),(2,.box (.d (.agg [I 0,I 0,.lst true 0 []]))),(7,.box (.d (.agg [I a,I b,.lst false 6 c]))),(8,.box (.d (.agg [I 0,I 0,.lst true 0 []]))),(19,.row 0 6 t1)] 45,b1,.lp [5,6] [1,5,8,9,10] [0,1,2,5,7,8,19,54,67] (.exit 0) [(5,.own 67 0)] [(0,.box (.d gLD)),(1,.box (.d (.agg [I a,I b,.lst false 6 c]))),(2,.box (.d (.agg [I 0,I 0,.lst true 0 []]))),(5,.box (.agg [.d (I (a+1)),.d (I b),.own 19 0])),(7,.box (.agg [.d (I a),.d (I b),.own 19 0])),(8,.box (.agg [.d (I a),.d (I b),.own 19 0])),(19,.row 0 6 t1),(54,.box (.d (.fn (.func 95) [] []))),(67,.row 0 6 t3)] 192] (Qb (QE Qpe h3) (Qb h2 (Qb (QE Qpf h1) QA)))
noncomputable def Qro (b c:Int)(a:jVj):Lp (Int×jVj) (jVj):=⟨fun f=>[(1,.d (.fn (.func 90) [] [])),(5,.own 39 0),(8,.d (.lst false 6 a)),(9,.d (I ((a).length:Int))),(10,.d (I f.1))],fun f=>[(0,.box (.d gLD)),(1,.box (.d (.agg [I b,I c,.lst false 6 a]))),(2,.box (.d (.agg [I 0,I 0,.lst true 0 []]))),(27,.box (.d (.agg [I b,I c,.lst false 6 a]))),(28,.box (.d (.agg [I 0,I 0,.lst true 0 []]))),(39,.row 0 6 f.2)],fun _=>(.exit 0),fun _=>[(5,.own 39 0)],fun e=>[(0,.box (.d gLD)),(1,.box (.d (.agg [I b,I c,.lst false 6 a]))),(2,.box (.d (.agg [I 0,I 0,.lst true 0 []]))),(27,.box (.d (.agg [I b,I c,.lst false 6 a]))),(28,.box (.d (.agg [I 0,I 0,.lst true 0 []]))),(39,.row 0 6 e)]⟩
theorem Qrj {n b c d}(e)(r)(h:qs n b c d e=some r):Rl (Zt cx.P 89 0) 22 34 false (Qro b c d) e r:=by
 unfold qs at h;obtain⟨a,h⟩|⟨a,h⟩:=io h
 ·have⟨ta2,ha2,h⟩:=bo h;have⟨ta3,ha3,h⟩:=bo h;have⟨ha4,h⟩:=gd h;have⟨ha5,h⟩:=gd h;cases h;exact rn 40 [b1,.el (QmM ta2),.ret (.agg [Qe ta3.1,Qe ta3.2.1,I ta3.2.2.1,.lst false 1 ta3.2.2.2.1,I ta3.2.2.2.2.1,I ta3.2.2.2.2.2]),b1] [] [1,5,8,9,10] [0,1,2,27,28,39] (Qb ha5 (Qb (ro 67 ha4) (Qb (Qnt ha3) (Q2 QmI ha2 (Qb (jDj a) QA)))))
 cases h;exact rx 40 [b0] [] [5] [0,1,2,27,28,39] (Qb (jEj a) QA)
def QoO (n:Nat)(e f:Int)(i:jVj):Option (Int×Int×jVj×Int) := (QmO n e f i).bind fun k=>(Qr n false 5).bind fun l=>(Qr n (decide (e>9999992)) 3).bind fun m=>(Qi n ([I k,I l,I m])).bind fun j=>if j=0 then(QU (qs n e f i) n (0,[])).bind fun o=>(QmE n e f o).bind fun g=>(QmE n g.1 g.2.1 g.2.2).bind fun h=>(QmE n h.1 h.2.1 h.2.2).bind fun t9=>(QmE n t9.1 t9.2.1 t9.2.2).bind fun t10=>(QmE n t10.1 t10.2.1 t10.2.2).bind fun a=>(QmE n a.1 a.2.1 a.2.2).bind fun b=>(QmE n b.1 b.2.1 b.2.2).bind fun c=>(QmE n c.1 c.2.1 c.2.2).bind fun d=>some (d.1,d.2.1,d.2.2,0) else some (0,0,[],j)
theorem Qpc {n a b c r}(h:QoO n a b c=some r):Computes cx 17 [gLD,.agg [I a,I b,.lst false 6 c],.lst false 1 [.lst true 0 [],.lst true 0 [],.lst true 0 [],.lst true 0 [],.lst true 0 [],.lst true 0 [],.lst true 0 [],.lst true 0 []]] (.tup [.agg [I r.1,I r.2.1,.lst false 6 r.2.2.1],I r.2.2.2]):=by
 unfold QoO at h;have⟨t1,h1,h⟩:=bo h;have⟨t2,h2,h⟩:=bo h;have⟨t3,h3,h⟩:=bo h;have⟨t4,h4,h⟩:=bo h;have q:=Qb (leF (QnW h4)) (Qb (Qm8 h3) (Qb ((by unfold Qg;omega):Qg 9999992) (Qb (Qm8 h2) (Qb (Qnp h1) QA))));let o(l:jOj):=.ret (I t1)::.ret (I t2)::.ret (I t3)::.ret (I t4)::l;obtain⟨e,h⟩|⟨e,h⟩:=io h
 ·have⟨t6,h6,h⟩:=bo h;have⟨t7,h7,h⟩:=bo h;have⟨t8,h8,h⟩:=bo h;have⟨t9,h9,h⟩:=bo h;have⟨t10,h10,h⟩:=bo h;have⟨t11,h11,h⟩:=bo h;have⟨t12,h12,h⟩:=bo h;have⟨t13,h13,h⟩:=bo h;have⟨t14,h14,h⟩:=bo h;cases h;exact rf (o (b0::b1::b1::.lp [5,6] [1,5,8,9,10] [0,1,2,27,28,39] (.exit 0) [(5,.own 39 0)] [(0,.box (.d gLD)),(1,.box (.d (.agg [I a,I b,.lst false 6 c]))),(2,.box (.d (.agg [I 0,I 0,.lst true 0 []]))),(27,.box (.d (.agg [I a,I b,.lst false 6 c]))),(28,.box (.d (.agg [I 0,I 0,.lst true 0 []]))),(39,.row 0 6 t6)] 65::(no 5 (.ret (.agg [I t7.1,I t7.2.1,.lst false 6 t7.2.2])::(no 5 (.ret (.agg [I t8.1,I t8.2.1,.lst false 6 t8.2.2])::(no 5 (.ret (.agg [I t9.1,I t9.2.1,.lst false 6 t9.2.2])::(no 5 (.ret (.agg [I t10.1,I t10.2.1,.lst false 6 t10.2.2])::(no 5 (.ret (.agg [I t11.1,I t11.2.1,.lst false 6 t11.2.2])::(no 5 (.ret (.agg [I t12.1,I t12.2.1,.lst false 6 t12.2.2])::(no 5 (.ret (.agg [I t13.1,I t13.2.1,.lst false 6 t13.2.2])::(no 5 [.ret (.agg [I t14.1,I t14.2.1,.lst false 6 t14.2.2]),.no,.no]))))))))))))))))) (Qb ((by unfold Qg;omega):Qg 8) (Qb (QmS h14) (Qb ((by unfold Qg;omega):Qg 7) (Qb (QmS h13) (Qb ((by unfold Qg;omega):Qg 6) (Qb (QmS h12) (Qb ((by unfold Qg;omega):Qg 5) (Qb (QmS h11) (Qb ((by unfold Qg;omega):Qg 4) (Qb (QmS h10) (Qb ((by unfold Qg;omega):Qg 3) (Qb (QmS h9) (Qb ((by unfold Qg;omega):Qg 2) (Qb (QmS h8) (Qb ((by unfold Qg;omega):Qg 1) (Qb (QmS h7) (Qb (QE Qrj h6) (Qb (nef e) q))))))))))))))))))
 cases h;exact(rf (r:=.tup [.agg [I 0,I 0,.lst true 0 []],I t4]) (o [b1]) (Qb (net e) q)).le (LEs.refl _) (.tups (.cons (.aggs (.cons (.refl _) (.cons (.refl _) (.cons (.nilF) (.nil))))) (.cons (.refl _) (.nil))))
def Qn2 (n:Nat)(e f:Int)(d:jVj)(a:(Int×jVj)):Option (Int×jVj⊕jVj) := if a.1<((d).length:Int) then(el QmX d a.1).bind fun b=>if((b.2.2.2.1).length:Int)=0 then(el Qou [.agg [.v (.string ⟨#[102]⟩),.v (.string ⟨#[102,111,99,117,115]⟩),I 500,I 500],.agg [.v (.string ⟨#[97]⟩),.v (.string ⟨#[115,116,97,110,100,98,121]⟩),I 400,I 500]] b.2.2.1).bind fun c=>if(c.2.1.toList==(⟨#[102,111,99,117,115]⟩:jSj).toList)=true then if Wi 16 ((a.2).length+1) then if Qg (a.1+1) then some (.inl ((a.1+1),(a.2++([.v (.string b.1)]:jVj)))) else none else none else if Qg (a.1+1) then some (.inl ((a.1+1),a.2)) else none else if Qg (a.1+1) then some (.inl ((a.1+1),a.2)) else none else some (.inr a.2)
noncomputable def Qrp (c f:Int)(a:jVj):Lp (Int×jVj) (jVj):=⟨fun b=>[(1,.fn (.func 48) [] [.ptr 0 0 0 0 0]),(5,.own 22 0),(9,.d (.lst false 6 a)),(10,.d (I ((a).length:Int))),(11,.d (I b.1))],fun b=>[(0,.box (.d gLD)),(1,.box (.d (.agg [I c,I f,.lst false 6 a]))),(22,.row 0 1 b.2)],fun _=>(.exit 0),fun _=>[(5,.own 22 0)],fun e=>[(0,.box (.d gLD)),(1,.box (.d (.agg [I c,I f,.lst false 6 a]))),(22,.row 0 1 e)]⟩
theorem Qrk {n d e f}(g)(r)(h:Qn2 n d e f g=some r):Rl (Zt cx.P 47 0) 25 15 false (Qrp d e f) g r:=by
 unfold Qn2 at h;obtain⟨a,h⟩|⟨a,h⟩:=io h
 ·have⟨ta2,ha2,h⟩:=bo h;have q:=Q2 QmI ha2 (Qb (jDj a) QA);let o(l:jOj):=b1::.el (QmM ta2)::b1::l;obtain⟨b,h⟩|⟨b,h⟩:=io h
  ·have⟨ta4,ha4,h⟩:=bo h;have q:=Q2 Qo8 ha4 (Qb (eqt b) q);let o l:=o (b1::.el (Qpb ta4)::l);obtain⟨c,h⟩|⟨c,h⟩:=io h
   ·have⟨ha6,h⟩:=gd h;have⟨ha7,h⟩:=gd h;cases h;exact rn 23 (o [b1,b1]) [] [1,5,9,10,11] [0,1,22] (Qb ha7 (Qb (ro 9 ha6) (Qb c q)))
   have⟨ha6,h⟩:=gd h;cases h;exact rn 23 (o [b0]) [] [1,5,9,10,11] [0,1,22] (Qb ha6 (Qb (Zy c) q))
  have⟨ha4,h⟩:=gd h;cases h;exact rn 23 (o [b0,.no]) [] [1,5,9,10,11] [0,1,22] (Qb ha4 (Qb (eqf b) q))
 cases h;exact rx 23 [b0] [] [5] [0,1,22] (Qb (jEj a) QA)
def QoP (n:Nat)(a b:Int)(c:jVj):Option (jVj×Int) := (QmO n a b c).bind fun d=>if d=0 then(QU (Qn2 n a b c) n (0,[])).bind fun e=>some (e,0) else some ([],d)
theorem Qpd {n a b c r}(h:QoP n a b c=some r):Computes cx 18 [gLD,.agg [I a,I b,.lst false 6 c]] (.tup [.lst false 1 r.1,I r.2]):=by
 unfold QoP at h;have⟨t1,h1,h⟩:=bo h;have q:=Qb (Qnp h1) QA;obtain⟨e,h⟩|⟨e,h⟩:=io h
 ·have⟨t3,h3,h⟩:=bo h;cases h;exact rf [.ret (I t1),b0,b1,.lp [5,1] [1,5,9,10,11] [0,1,22] (.exit 0) [(5,.own 22 0)] [(0,.box (.d gLD)),(1,.box (.d (.agg [I a,I b,.lst false 6 c]))),(22,.row 0 1 t3)] 67] (Qb (QE Qrk h3) (Qb (nef e) q))
 cases h;exact(rf (r:=.tup [.lst true 0 [],I t1]) [.ret (I t1),b1] (Qb (net e) q)).le (LEs.refl _) (.tups (.cons (.nilF) (.cons (.refl _) (.nil))))
def QmN (n:Nat)(e f:Int)(d:jVj)(b:Int):Option (Int⊕Int⊕Unit) := if b<((d).length:Int) then(el QmX d b).bind fun a=>(Qnl n a.1 a.2.1 a.2.2.1 a.2.2.2.1 a.2.2.2.2.1 a.2.2.2.2.2).bind fun c=>if c=true then if Qg (b+1) then some (.inl (b+1)) else none else some (.inr (.inl b)) else some (.inr (.inr ()))
noncomputable def Qpt (b c:Int)(a:jVj):Lp (Int) (Int⊕Unit):=⟨fun f=>[(0,.d (.lst false 6 a)),(1,.fn (.func 100) [] [.ptr 0 0 0 0 0]),(7,.d (I ((a).length:Int))),(8,.d (I f))],fun _=>[(0,.box (.d gLD)),(1,.box (.d (.agg [I b,I c,.lst false 6 a])))],fun
 | (.inl e)=>.ret
 | (.inr e)=>(.exit 0),fun
 | (.inl e)=>[(4,.d (I e))]
 | (.inr e)=>[],fun _=>[(0,.box (.d gLD)),(1,.box (.d (.agg [I b,I c,.lst false 6 a])))]⟩
theorem Qot {n c d e}(f)(r)(h:QmN n c d e f=some r):Rl (Zt cx.P 196 0) 19 15 false (Qpt c d e) f r:=by
 unfold QmN at h;obtain⟨a,h⟩|⟨a,h⟩:=io h
 ·have⟨ta2,ha2,h⟩:=bo h;have⟨ta3,ha3,h⟩:=bo h;have q:=Qb (QoN ha3) (Q2 QmI ha2 (Qb (jDj a) QA));let o(l:jOj):=b1::.el (QmM ta2)::b1::.ret (B ta3)::l;obtain⟨b,h⟩|⟨b,h⟩:=io h
  ·have⟨ha5,h⟩:=gd h;cases h;exact rn 19 (o [b0]) [] [0,1,7,8] [0,1] (Qb ha5 (Qb (zV b) q))
  cases h;exact rx 19 (o [b1]) [] [4] [0,1] (Qb (wG (Zy b)) q)
 cases h;exact rx 19 [b0] [] [] [0,1] (Qb (jEj a) QA)
def QnY (n:Nat)(b c:Int)(d:jVj):Option (Bool) := (QU (QmN n b c d) n 0).bind fun a=>match a with|.inl a=>(some (!(decide (a>=0))))|.inr a=>(some true)
theorem Qp9 {n a b c r}(h:QnY n a b c=some r):Computes cx 49 [gLD,.agg [I a,I b,.lst false 6 c]] (B r):=by
 unfold QnY at h;have⟨e,h1,h⟩:=bo h;obtain e|e:=e
 ·cases h;exact rf [b1,b1,.lp [] [0,1,7,8] [0,1] .ret [(4,.d (I e))] [(0,.box (.d gLD)),(1,.box (.d (.agg [I a,I b,.lst false 6 c])))] 48] (Qb (QE Qot h1) QA)
 obtain rfl:=oi h;exact rf [b1,b1,.lp [] [0,1,7,8] [0,1] (.exit 0) [] [(0,.box (.d gLD)),(1,.box (.d (.agg [I a,I b,.lst false 6 c])))] 48] (Qb (QE Qot h1) QA)
def QoG (n:Nat)(a b:Int)(c:jVj):Option (Bool×Int) := (QmO n a b c).bind fun d=>if d=0 then(QnY n a b c).bind fun e=>some (e,0) else some (false,d)
theorem QoT {n b c d r}(h:QoG n b c d=some r):Computes cx 19 [gLD,.agg [I b,I c,.lst false 6 d]] (.tup [B r.1,I r.2]):=by
 unfold QoG at h;have⟨t1,h1,h⟩:=bo h;have q:=Qb (Qnp h1) QA;obtain⟨a,h⟩|⟨a,h⟩:=io h
 ·have⟨t3,h3,h⟩:=bo h;cases h;exact rf [.ret (I t1),b0,.ret (B t3)] (Qb (Qp9 h3) (Qb (nef a) q))
 cases h;exact rf [.ret (I t1),b1] (Qb (net a) q)
def ZW (n:Nat)(d:jSj)(g h:jVj)(i j:Int)(k l:Bool)(m o p:Int)(e b f:jVj)(a:(Int×Int×Int)):Option (Int×Int×Int⊕Int×Int) := if a.1<((b).length:Int) then if 0<=a.1/\a.1<((b).length:Int) then((nth (b) (Int.toNat a.1)).bind QV).bind fun c=>if(!(c.2.1.toList==d.toList))=true then if Qg (a.1+1) then some (.inl ((a.1+1),a.2.1,a.2.2)) else none else if Qg (a.2.1+1) then if c.2.2.2.2.2=true then if Qg (a.2.2+1) then if Qg (a.1+1) then some (.inl ((a.1+1),(a.2.1+1),(a.2.2+1))) else none else none else if Qg (a.1+1) then some (.inl ((a.1+1),(a.2.1+1),a.2.2)) else none else none else none else some (.inr (a.2.1,a.2.2))
noncomputable def GL (p:jSj)(g h:jVj)(i j:Int)(k l:Bool)(m n o:Int)(b a c:jVj):Lp (Int×Int×Int) (Int×Int):=⟨fun f=>[(1,.d (Qe p)),(4,.ptr 13 0 0 0 0),(5,.ptr 14 0 0 0 0),(11,.own 11 0),(12,.d (I ((a).length:Int))),(13,.d (I f.1))],fun f=>[(0,.box (.agg [.own 1 0,.own 2 0,.d (I i),.d (I j),.d (B k),.d (B l),.d (I m),.d (I n),.d (I o),.own 10 0,.own 11 0,.own 12 0])),(1,.row 0 5 g),(2,.row 0 5 h),(10,.row 0 1 b),(11,.row 0 6 a),(12,.row 0 7 c),(13,.box (.d (.agg [I 0,I 0]))),(14,.box (.d (.agg [I f.2.1,I f.2.2])))],fun _=>(.exit 0),fun _=>[(4,.ptr 13 0 0 0 0),(5,.ptr 14 0 0 0 0)],fun e=>[(0,.box (.agg [.own 1 0,.own 2 0,.d (I i),.d (I j),.d (B k),.d (B l),.d (I m),.d (I n),.d (I o),.own 10 0,.own 11 0,.own 12 0])),(1,.row 0 5 g),(2,.row 0 5 h),(10,.row 0 1 b),(11,.row 0 6 a),(12,.row 0 7 c),(13,.box (.d (.agg [I 0,I 0]))),(14,.box (.d (.agg [I e.1,I e.2])))]⟩
theorem GG {n g i j k m p s t u v d e f}(w)(r)(h:ZW n g i j k m p s t u v d e f w=some r):Rl (Zt cx.P 51 0) 33 13 false (GL g i j k m p s t u v d e f) w r:=by
 unfold ZW at h;obtain⟨a,h⟩|⟨a,h⟩:=io h
 ·have⟨ha2,h⟩:=gd h;have⟨ta3,ha3,h⟩:=bo h;have q:=Qb (Q0 QB ha3) (Qb ha2 (Qb (jDj a) QA));let o(l:jOj):=b1::b1::.el (QF ta3)::l;obtain⟨b,h⟩|⟨b,h⟩:=io h
  ·have⟨ha5,h⟩:=gd h;cases h;exact rn 21 (o [b1]) [] [1,4,5,11,12,13] [0,1,2,10,11,12,13,14] (Qb ha5 (Qb b q))
  have⟨ha5,h⟩:=gd h;have q:=Qb ha5 (Qb (Zy b) q);obtain⟨c,h⟩|⟨c,h⟩:=io h
  ·have⟨ha7,h⟩:=gd h;have⟨ha8,h⟩:=gd h;cases h;exact rn 21 (o [b0,b1]) [] [1,4,5,11,12,13] [0,1,2,10,11,12,13,14] (Qb ha8 (Qb ha7 (Qb c q)))
  have⟨ha7,h⟩:=gd h;cases h;exact rn 21 (o [b0,b0]) [] [1,4,5,11,12,13] [0,1,2,10,11,12,13,14] (Qb ha7 (Qb (Zy c) q))
 cases h;exact rx 21 [b0] [] [4,5] [0,1,2,10,11,12,13,14] (Qb (jEj a) QA)
def Vc (n:Nat)(e:jSj)(f g:jVj)(h i:Int)(j k:Bool)(l m o:Int)(a b c:jVj):Option (Int×Int) := (QU (ZW n e f g h i j k l m o a b c) n (0,0,0)).bind fun d=>some (d.1,d.2)
theorem Ep {n p e f g i j k l m o a b c r}(h:Vc n p e f g i j k l m o a b c=some r):ComputesO cx 51 [.ptr 0 0 0 0 2,.d (Qe p)] (some (Qa e f g i j k l m o a b c)) (.d (.agg [I r.1,I r.2])) (Qa e f g i j k l m o a b c) Zj:=by unfold Vc at h;have⟨t1,h1,h⟩:=bo h;cases h;exact rfO 0 [.lp [] [1,4,5,11,12,13] [0,1,2,10,11,12,13,14] (.exit 0) [(4,.ptr 13 0 0 0 0),(5,.ptr 14 0 0 0 0)] [(0,.box (.agg [.own 1 0,.own 2 0,.d (I g),.d (I i),.d (B j),.d (B k),.d (I l),.d (I m),.d (I o),.own 10 0,.own 11 0,.own 12 0])),(1,.row 0 5 e),(2,.row 0 5 f),(10,.row 0 1 a),(11,.row 0 6 b),(12,.row 0 7 c),(13,.box (.d (.agg [I 0,I 0]))),(14,.box (.d (.agg [I t1.1,I t1.2])))] 55] (Qb (QE GG h1) QA)
def QnU (n:Nat)(e:jVj)(b:jSj):Option (Int×Int×Int) := (ZK n e).bind fun a=>if a.2.1=0 then(Zf n a.2.2.2.2.2.2.2.2.2.2.2.1 b).bind fun f=>(Qr n (!f) 10).bind fun c=>if c=0 then(Vc n b a.2.2.1 a.2.2.2.1 a.2.2.2.2.1 a.2.2.2.2.2.1 a.2.2.2.2.2.2.1 a.2.2.2.2.2.2.2.1 a.2.2.2.2.2.2.2.2.1 a.2.2.2.2.2.2.2.2.2.1 a.2.2.2.2.2.2.2.2.2.2.1 a.2.2.2.2.2.2.2.2.2.2.2.1 a.2.2.2.2.2.2.2.2.2.2.2.2.1 a.2.2.2.2.2.2.2.2.2.2.2.2.2).bind fun d=>some (d.1,d.2,0) else some (0,0,c) else some (0,0,a.2.1)
theorem Qq9 {n c e r}(h:QnU n c e=some r):Computes cx 21 [.lst false 5 c,Qe e] (.tup [.agg [I r.1,I r.2.1],I r.2.2]):=by
 unfold QnU at h;have⟨t1,h1,h⟩:=bo h;have q:=Qb (KO h1) QA;let o(l:jOj):=b1::.obj none (.tup [.ptr 0 0 0 0 0,.d (I t1.1),.d (I t1.2.1)]) (Qa' t1.2.2) []::l;obtain⟨a,h⟩|⟨a,h⟩:=io h
 ·have⟨t3,h3,h⟩:=bo h;have⟨t4,h4,h⟩:=bo h;have q:=Qb (Qs h4) (Qb (Z7 h3) (Qb (nef a) q));let o l:=o (b0::.ix (-9)::b1::.no::.ix 0::.ret (B t3)::.ret (I t4)::l);obtain⟨b,h⟩|⟨b,h⟩:=io h
  ·have⟨t6,h6,h⟩:=bo h;cases h;exact rf (o [b0,.obj (some 21) (.d (.agg [I t6.1,I t6.2])) (Qa' t1.2.2) Zj]) (Qb (Ep h6) (Qb (nef b) q))
  cases h;exact rf (o [b1]) (Qb (net b) q)
 cases h;exact rf (o [b1,b1]) (Qb (net a) (Qb (net a) q))
theorem Qq8 {n:Nat}  {r:Int}(h:Kq n =some r):Computes cx 29 [B false,I 26] (I r):=by unfold Kq at h;obtain rfl:=oi h;exact rf [.no] QA
theorem Qq7 {n:Nat}  {r:Int}(h:Kq n =some r):Computes cx 29 [B false,I 25] (I r):=by unfold Kq at h;obtain rfl:=oi h;exact rf [.no] QA
def QnT (n:Nat)(e:Int)(a:(jSj×Int×jVj)):Option (jSj×Int×jVj⊕jSj×Int×jVj) := if a.2.1<((Zv (e+1) 6) - 1) then(YO n a.1).bind fun b=>if b<0 then some (.inr (a.1,a.2.1,a.2.2)) else if Qg (b+0) then(XY a.1 none (some (b+0))).bind fun c=>if 0<=a.2.1/\a.2.1<((a.2.2).length:Int) then if(Int.toNat a.2.1)<(a.2.2).length then if Qg (b+1) then(XY a.1 (some (b+1)) none).bind fun d=>if Qg (a.2.1+1) then some (.inl (d,(a.2.1+1),(List.set a.2.2 (Int.toNat a.2.1) (.v (.string c):D)))) else none else none else none else none else none else some (.inr (a.1,a.2.1,a.2.2))
noncomputable def Qo6 (b:Int):Lp (jSj×Int×jVj) (jSj×Int×jVj):=⟨fun a=>[(0,.d (Qe a.1)),(1,.d (Qe ⟨#[32]⟩)),(2,.d (I 0)),(3,.d (I ((Zv (b+1) 6) - 1))),(9,.own 19 0),(10,.d (I a.2.1))],fun a=>[(19,.row 0 1 a.2.2)],fun _=>(.exit 0),fun e=>[(0,.d (Qe e.1)),(9,.own 19 0),(10,.d (I e.2.1))],fun e=>[(19,.row 0 1 e.2.2)]⟩
theorem Qo4 {n f}(c)(r)(h:QnT n f c=some r):Rl (Zt cx.P 103 0) 66 0 false (Qo6 f) c r:=by
 unfold QnT at h;obtain⟨a,h⟩|⟨a,h⟩:=io h
 ·have⟨ta2,ha2,h⟩:=bo h;have q:=Qb (yz ha2) (Qb (jDj a) QA);obtain⟨b,h⟩|⟨b,h⟩:=io h
  ·cases h;exact rx 25 [b1,.ret (I ta2),b1] [] [0,9,10] [19] (Qb (jDj b) q)
  have⟨ha4,h⟩:=gd h;have⟨ta5,d,h⟩:=bo h;have⟨ha6,h⟩:=gd h;have⟨ha7,h⟩:=gd h;have⟨ha8,h⟩:=gd h;have⟨ta9,e,h⟩:=bo h;have⟨ha10,h⟩:=gd h;cases h;exact rn 25 [b1,.ret (I ta2),b0,.el (Qe ta5),b1,b1,.el (Qe ta9)] [] [0,1,2,3,9,10] [19] (Qb ha10 (Qb (Qa1 e:Zu cx.P (Instr.sliceAt 9 (.string c.1) (some (.int .i64 (ta2+1))) none none)=some (.string ta9)) (Qb ha8 (Qb ha7 (Qb ha6 (Qb (Qa1 d:Zu cx.P (Instr.sliceAt 9 (.string c.1) none (some (.int .i64 (ta2+0))) none)=some (.string ta5)) (Qb ha4 (Qb (jEj b) q))))))))
 cases h;exact rx 25 [b0] [] [0,9,10] [19] (Qb (jEj a) QA)
def Qn7 (n:Nat)  : Option (jVj) :=
 (UC n (⟨#[97,105,109,101,100]⟩) (⟨#[32]⟩)).bind fun b =>
 if Qg (b+1) then
 if 0<=(Zv (b+1) 6)/\(Zv (b+1) 6)<=(Zv (b+1) 6)/\16*(Zv (b+1) 6)<=281474976710656/\(Zv (b+1) 6)<=9223372036854775807 then
 if Qg ((Zv (b+1) 6) - 1) then
 (QU (QnT n b) n (⟨#[97,105,109,101,100]⟩,0,(List.replicate (Int.toNat (Zv (b+1) 6)) (.v (.string ⟨#[]⟩):D)))).bind fun a =>
 if 0<=a.2.1/\a.2.1<((a.2.2).length:Int) then
 if(Int.toNat a.2.1)<(a.2.2).length then
 if Qg (a.2.1+1) then
 if(0:Int)<=0/\0<=(a.2.1+1)/\(a.2.1+1)<=(((List.set a.2.2 (Int.toNat a.2.1) (.v (.string a.1):D)):jVj).length:Int)/\((List.set a.2.2 (Int.toNat a.2.1) (.v (.string a.1):D))=[]\/1=1) then
 some (((List.set a.2.2 (Int.toNat a.2.1) (.v (.string a.1):D)).take (Int.toNat (a.2.1+1))).drop (Int.toNat 0))
 else none
 else none
 else none
 else none
 else none
 else none
 else none
theorem Qpx {n:Nat}  {r:jVj}(h:Qn7 n =some r):Computes cx 103 [Qe ⟨#[97,105,109,101,100]⟩,Qe ⟨#[32]⟩,I 0,I (-1)] (.lst false 1 r):=by unfold Qn7 at h;have⟨t1,h1,h⟩:=bo h;have⟨h2,h⟩:=gd h;have⟨h3,h⟩:=gd h;have⟨h4,h⟩:=gd h;have⟨t5,h5,h⟩:=bo h;have⟨h6,h⟩:=gd h;have⟨h7,h⟩:=gd h;have⟨h8,h⟩:=gd h;have⟨h9,h⟩:=gd h;cases h;exact rf [.no,.no,.no,.ret (I t1),b1,.lp [] [0,1,2,3,9,10] [19] (.exit 0) [(0,.d (Qe t5.1)),(9,.own 19 0),(10,.d (I t5.2.1))] [(19,.row 0 1 t5.2.2)] 64,b1,b1,b1] (Qb h9 (Qb h8 (Qb h7 (Qb h6 (Qb (QE Qo4 h5) (Qb h4 (Qb h3 (Qb ((by unfold Qg;omega):Qg 6) (Qb h2 (Qb (yA h1) QA))))))))))
def Qn4 (n:Nat)  : Option (jVj) :=
 (Qn7 n).bind fun a =>
 some a
theorem Qqj {n:Nat}  {r:jVj}(h:Qn4 n =some r):Computes cx 52 [Qe ⟨#[97,105,109,101,100]⟩,Qe ⟨#[32]⟩] (.lst false 1 r):=by unfold Qn4 at h;have⟨t1,h1,h⟩:=bo h;obtain rfl:=oi h;exact rf [.ret (.lst false 1 t1)] (Qb (Qpx h1) QA)
def tab3:jVj:=[.tup [Qe ⟨#[115,116,97,116,101]⟩,.agg [.v (.int .u8 0),.fn (.func 104) [] []]],.tup [Qe ⟨#[114,97,116,101]⟩,.agg [.v (.int .u8 0),.fn (.func 106) [] []]],.tup [Qe ⟨#[97,105,109,101,100]⟩,.agg [.v (.int .u8 0),.fn (.func 108) [] []]],.tup [Qe ⟨#[98,111,111,107,115]⟩,.agg [.v (.int .u8 0),.fn (.func 109) [] []]],.tup [Qe ⟨#[111,102,102,101,114,115]⟩,.agg [.v (.int .u8 0),.fn (.func 111) [] []]],.tup [Qe ⟨#[100,105,114,116]⟩,.agg [.v (.int .u8 109),.fn (.func 118) [] []]],.tup [Qe ⟨#[99,111,117,110,116]⟩,.agg [.v (.int .u8 115),.fn (.func 120) [] []]]]
theorem mk2 (c:jSj)(r:D){k:jSj}{l:List UInt8}(h:k.data.toList=l)(hc:c.data.toList=l:=by rfl)(a:YX true (.string c) (.agg [.v (.int .u8 0),.v (.nilFunc)]) tab3=some r:=by kernel_rfl):YX true (.string k) (.agg [.v (.int .u8 0),.v (.nilFunc)]) tab3=some r:=QdG h hc a
def Zk (n:Nat)(f g:jVj)(h i:Int)(j k:Bool)(l m o:Int)(d c e:jVj)(b:(Int)⊕Int×jVj):Option ((Int⊕Int×jVj)⊕Unit⊕jVj):=match b with|(.inl b)=>(if b<((c).length:Int) then if 0<=b/\b<((c).length:Int) then((nth (c) (Int.toNat b)).bind QV).bind fun a=>if a.2.2.2.2.2=true then if Qg (b+1) then some (.inl (.inr ((b+1),[.agg [.v (.string a.1),.v (.string a.2.1),I a.2.2.1,I a.2.2.2.1,B a.2.2.2.2.1,B a.2.2.2.2.2]]))) else none else if Qg (b+1) then some (.inl (.inl (b+1))) else none else none else some (.inr (.inl ())))|.inr b=>(if b.1<((c).length:Int) then if 0<=b.1/\b.1<((c).length:Int) then((nth (c) (Int.toNat b.1)).bind QV).bind fun a=>if a.2.2.2.2.2=true then if Wi 56 ((b.2).length+1) then if Qg (b.1+1) then some (.inl (.inr ((b.1+1),(b.2++([.agg [.v (.string a.1),.v (.string a.2.1),I a.2.2.1,I a.2.2.2.1,B a.2.2.2.2.1,B a.2.2.2.2.2]]:jVj))))) else none else none else if Qg (b.1+1) then some (.inl (.inr ((b.1+1),b.2))) else none else none else some (.inr (.inr b.2)))
noncomputable def XS (f g:jVj)(h i:Int)(j k:Bool)(l m n:Int)(b a c:jVj):Lp (Int⊕Int×jVj) (Unit⊕jVj):=⟨fun
 | (.inl sa)=>[(0,.own 30 0),(8,.own 11 0),(9,.d (I ((a).length:Int))),(10,.d (I sa))]
 | (.inr sa)=>[(0,.own 30 0),(8,.own 11 0),(9,.d (I ((a).length:Int))),(10,.d (I sa.1))],fun
 | (.inl sa)=>[(0,.box (.agg [.own 1 0,.own 2 0,.d (I h),.d (I i),.d (B j),.d (B k),.d (I l),.d (I m),.d (I n),.own 10 0,.own 11 0,.own 12 0])),(1,.row 0 5 f),(2,.row 0 5 g),(10,.row 0 1 b),(11,.row 0 6 a),(12,.row 0 7 c),(19,.box (.ptr 0 0 0 0 2)),(27,.box (.d (.lst true 0 []))),(30,.loop true [(6,.fn (.func 82) [] [.ptr 19 0 0 0 0]),(4,.d (.lst true 0 [])),(2,.ptr 27 0 0 0 0),(1,.fn (.func 82) [] [.ptr 19 0 0 0 0]),(0,.d (.lst true 0 []))] [7] (Z3 cx.P 81 0).1 (Z3 cx.P 81 0).2 13)]
 | (.inr sa)=>[(0,.box (.agg [.own 1 0,.own 2 0,.d (I h),.d (I i),.d (B j),.d (B k),.d (I l),.d (I m),.d (I n),.own 10 0,.own 11 0,.own 12 0])),(1,.row 0 5 f),(2,.row 0 5 g),(10,.row 0 1 b),(11,.row 0 6 a),(12,.row 0 7 c),(19,.box (.ptr 0 0 0 0 2)),(27,.box (.own 55 0)),(30,.loop true [(6,.fn (.func 82) [] [.ptr 19 0 0 0 0]),(4,.d (.lst true 0 [])),(2,.ptr 27 0 0 0 0),(1,.fn (.func 82) [] [.ptr 19 0 0 0 0]),(0,.d (.lst true 0 []))] [7] (Z3 cx.P 81 0).1 (Z3 cx.P 81 0).2 13),(55,.row 0 6 sa.2)],fun _=>(.exit 0),fun _=>[],fun
 | (.inl e)=>[(0,.box (.agg [.own 1 0,.own 2 0,.d (I h),.d (I i),.d (B j),.d (B k),.d (I l),.d (I m),.d (I n),.own 10 0,.own 11 0,.own 12 0])),(1,.row 0 5 f),(2,.row 0 5 g),(10,.row 0 1 b),(11,.row 0 6 a),(12,.row 0 7 c),(19,.box (.ptr 0 0 0 0 2)),(27,.box (.d (.lst true 0 []))),(30,.loop true [(6,.fn (.func 82) [] [.ptr 19 0 0 0 0]),(4,.d (.lst true 0 [])),(2,.ptr 27 0 0 0 0),(1,.fn (.func 82) [] [.ptr 19 0 0 0 0]),(0,.d (.lst true 0 []))] [7] (Z3 cx.P 81 0).1 (Z3 cx.P 81 0).2 13)]
 | (.inr e)=>[(0,.box (.agg [.own 1 0,.own 2 0,.d (I h),.d (I i),.d (B j),.d (B k),.d (I l),.d (I m),.d (I n),.own 10 0,.own 11 0,.own 12 0])),(1,.row 0 5 f),(2,.row 0 5 g),(10,.row 0 1 b),(11,.row 0 6 a),(12,.row 0 7 c),(19,.box (.ptr 0 0 0 0 2)),(27,.box (.own 55 0)),(30,.loop true [(6,.fn (.func 82) [] [.ptr 19 0 0 0 0]),(4,.d (.lst true 0 [])),(2,.ptr 27 0 0 0 0),(1,.fn (.func 82) [] [.ptr 19 0 0 0 0]),(0,.d (.lst true 0 []))] [7] (Z3 cx.P 81 0).1 (Z3 cx.P 81 0).2 13),(55,.row 0 6 e)]⟩
theorem UT {n g i j k m p s t u c d e}(f)(r)(h:Zk n g i j k m p s t u c d e f=some r):Rl (Zt cx.P 82 0) 23 31 false (XS g i j k m p s t u c d e) f r:=by
 unfold Zk at h;obtain f|f:=f
 ·obtain⟨a,h⟩|⟨a,h⟩:=io h
  ·have⟨ha2,h⟩:=gd h;have⟨ta3,ha3,h⟩:=bo h;have q:=Qb (Q0 QB ha3) (Qb ha2 (Qb (jDj a) QA));let o(l:jOj):=b1::b1::.el (QF ta3)::l;obtain⟨b,h⟩|⟨b,h⟩:=io h
   ·have⟨ha5,h⟩:=gd h;cases h;exact rn 37 (o [b1,.no,.no,.no]) [] [0,8,9,10] [0,1,2,10,11,12,19,27,30,55] (Qb ha5 (Qb b q))
   have⟨ha5,h⟩:=gd h;cases h;exact rn 37 (o [b0,.no]) [] [0,8,9,10] [0,1,2,10,11,12,19,27,30] (Qb ha5 (Qb (Zy b) q))
  cases h;exact rx 37 [b0] [] [] [0,1,2,10,11,12,19,27,30] (Qb (jEj a) QA)
 ·obtain⟨a,h⟩|⟨a,h⟩:=io h
  ·have⟨ha2,h⟩:=gd h;have⟨ta3,ha3,h⟩:=bo h;have q:=Qb (Q0 QB ha3) (Qb ha2 (Qb (jDj a) QA));let o(l:jOj):=b1::b1::.el (QF ta3)::l;obtain⟨b,h⟩|⟨b,h⟩:=io h
   ·have⟨ha5,h⟩:=gd h;have⟨ha6,h⟩:=gd h;cases h;exact rn 56 (o [b1,b1,.no]) [] [0,8,9,10] [0,1,2,10,11,12,19,27,30,55] (Qb ha6 (Qb (ro 109 ha5) (Qb b q)))
   have⟨ha5,h⟩:=gd h;cases h;exact rn 56 (o [b0,.no]) [] [0,8,9,10] [0,1,2,10,11,12,19,27,30,55] (Qb ha5 (Qb (Zy b) q))
  cases h;exact rx 56 [b0] [] [] [0,1,2,10,11,12,19,27,30,55] (Qb (jEj a) QA)
def Wm (n:Nat)(h i:jVj)(j k:Int)(l m:Bool)(o p q:Int)(e f g c:jVj)(b:(Int×jVj)):Option (Int×jVj⊕jVj) := if b.1<((c).length:Int) then if 0<=b.1/\b.1<((c).length:Int) then((nth (c) (Int.toNat b.1)).bind QV).bind fun a=>(QZ n a.1 a.2.1 a.2.2.1 a.2.2.2.1 a.2.2.2.2.1 a.2.2.2.2.2).bind fun d=>if Wi 16 ((b.2).length+1) then if Qg (b.1+1) then some (.inl ((b.1+1),(b.2++([.v (.string d)]:jVj)))) else none else none else none else some (.inr b.2)
noncomputable def XR (h i:jVj)(j k:Int)(l m:Bool)(n o p:Int)(a b c g:jVj):Lp (Int×jVj) (jVj):=⟨fun f=>[(1,.d (.fn (.func 38) [] [])),(5,.own 96 0),(8,.own 55 0),(9,.d (I ((g).length:Int))),(10,.d (I f.1))],fun f=>[(0,.box (.agg [.own 1 0,.own 2 0,.d (I j),.d (I k),.d (B l),.d (B m),.d (I n),.d (I o),.d (I p),.own 10 0,.own 11 0,.own 12 0])),(1,.row 0 5 h),(2,.row 0 5 i),(10,.row 0 1 a),(11,.row 0 6 b),(12,.row 0 7 c),(19,.box (.ptr 0 0 0 0 2)),(27,.box (.own 55 0)),(30,.dead),(55,.row 0 6 g),(96,.row 0 1 f.2)],fun _=>(.exit 0),fun _=>[(5,.own 96 0)],fun e=>[(0,.box (.agg [.own 1 0,.own 2 0,.d (I j),.d (I k),.d (B l),.d (B m),.d (I n),.d (I o),.d (I p),.own 10 0,.own 11 0,.own 12 0])),(1,.row 0 5 h),(2,.row 0 5 i),(10,.row 0 1 a),(11,.row 0 6 b),(12,.row 0 7 c),(19,.box (.ptr 0 0 0 0 2)),(27,.box (.own 55 0)),(30,.dead),(55,.row 0 6 g),(96,.row 0 1 e)]⟩
theorem XL {n e f g i j k l m o b c d q}(p)(r)(h:Wm n e f g i j k l m o b c d q p=some r):Rl (Zt cx.P 35 0) 22 91 false (XR e f g i j k l m o b c d q) p r:=by
 unfold Wm at h;obtain⟨a,h⟩|⟨a,h⟩:=io h
 ·have⟨ha2,h⟩:=gd h;have⟨ta3,ha3,h⟩:=bo h;have⟨ta4,ha4,h⟩:=bo h;have⟨ha5,h⟩:=gd h;have⟨ha6,h⟩:=gd h;cases h;exact rn 97 [b1,b1,.el (QF ta3),.ret (Qe ta4),b1] [] [1,5,8,9,10] [0,1,2,10,11,12,19,27,30,55,96] (Qb ha6 (Qb (ro 9 ha5) (Qb (QaO ha4) (Qb (Q0 QB ha3) (Qb ha2 (Qb (jDj a) QA))))))
 cases h;exact rx 97 [b0] [] [5] [0,1,2,10,11,12,19,27,30,55,96] (Qb (jEj a) QA)
def VB (n:Nat)(p:jSj)(e f:jVj)(g h:Int)(i j:Bool)(k l m:Int)(a b c:jVj):Option (jVj) := (QU (Zk n e f g h i j k l m a b c) n (.inl 0)).bind fun d=>match d with|.inl d=>(some [])|.inr d=>((QU (Wm n e f g h i j k l m a b c d) n (0,[])).bind fun o=>some o)
theorem qr {n q e f g i j k l m o a b c r}(h:VB n q e f g i j k l m o a b c=some r):ComputesO cx 108 [.ptr 0 0 0 0 2,.d (Qe q)] (some (Qa e f g i j k l m o a b c)) (.d (.lst false 1 r)) (Qa e f g i j k l m o a b c) Zj:=by
 unfold VB at h;have⟨p,h1,h⟩:=bo h;obtain p|p:=p
 ·cases h;exact(rfO 0 (r:=.d (.lst true 0 [])) (cs:=(Qa e f g i j k l m o a b c)) [b1,b1,b1,.lp [] [0,8,9,10] [0,1,2,10,11,12,19,27,30] (.exit 0) [] [(0,.box (.agg [.own 1 0,.own 2 0,.d (I g),.d (I i),.d (B j),.d (B k),.d (I l),.d (I m),.d (I o),.own 10 0,.own 11 0,.own 12 0])),(1,.row 0 5 e),(2,.row 0 5 f),(10,.row 0 1 a),(11,.row 0 6 b),(12,.row 0 7 c),(19,.box (.ptr 0 0 0 0 2)),(27,.box (.d (.lst true 0 []))),(30,.loop true [(6,.fn (.func 82) [] [.ptr 19 0 0 0 0]),(4,.d (.lst true 0 [])),(2,.ptr 27 0 0 0 0),(1,.fn (.func 82) [] [.ptr 19 0 0 0 0]),(0,.d (.lst true 0 []))] [7] (Z3 cx.P 81 0).1 (Z3 cx.P 81 0).2 13)] 89,b1,.no,.no] (Qb (QE UT h1) QA)).le (.refl _) (.refl _) (.d (.nilF)) (.same _ (.same _ (.same _ (.same _ (.same _ (.same _ (.same _ (.same _ (.same _ (.same _ (.same _ (.same _ (.nil)))))))))))))
 have⟨t2,h2,h⟩:=bo h;obtain rfl:=oi h;exact rfO 0 [b1,b1,b1,.lp [] [0,8,9,10] [0,1,2,10,11,12,19,27,30] (.exit 0) [] [(0,.box (.agg [.own 1 0,.own 2 0,.d (I g),.d (I i),.d (B j),.d (B k),.d (I l),.d (I m),.d (I o),.own 10 0,.own 11 0,.own 12 0])),(1,.row 0 5 e),(2,.row 0 5 f),(10,.row 0 1 a),(11,.row 0 6 b),(12,.row 0 7 c),(19,.box (.ptr 0 0 0 0 2)),(27,.box (.own 55 0)),(30,.loop true [(6,.fn (.func 82) [] [.ptr 19 0 0 0 0]),(4,.d (.lst true 0 [])),(2,.ptr 27 0 0 0 0),(1,.fn (.func 82) [] [.ptr 19 0 0 0 0]),(0,.d (.lst true 0 []))] [7] (Z3 cx.P 81 0).1 (Z3 cx.P 81 0).2 13),(55,.row 0 6 p)] 89,b1,.lp [5,1] [1,5,8,9,10] [0,1,2,10,11,12,19,27,30,55,96] (.exit 0) [(5,.own 96 0)] [(0,.box (.agg [.own 1 0,.own 2 0,.d (I g),.d (I i),.d (B j),.d (B k),.d (I l),.d (I m),.d (I o),.own 10 0,.own 11 0,.own 12 0])),(1,.row 0 5 e),(2,.row 0 5 f),(10,.row 0 1 a),(11,.row 0 6 b),(12,.row 0 7 c),(19,.box (.ptr 0 0 0 0 2)),(27,.box (.own 55 0)),(30,.dead),(55,.row 0 6 p),(96,.row 0 1 t2)] 122] (Qb (QE XL h2) (Qb (QE UT h1) QA))
def Qj (n:Nat)(h i:jVj)(j k:Int)(l m:Bool)(o p q:Int)(r d e:jVj):Option (jSj×Int) := (Kq n).bind fun s=>(Kq n).bind fun t=>(Qi n ([I s,I t])).bind fun g=>if g=0 then(Qn4 n).bind fun b=>(el Vg b 0).bind fun a=>if a.data.toList=[115,116,97,116,101] then none else if a.data.toList=[114,97,116,101] then none else if a.data.toList=[97,105,109,101,100] then if(0:Int)<=1/\1<=((b).length:Int)/\((b).length:Int)<=((b).length:Int)/\(b=[]\/1=1) then if(((b.drop (Int.toNat 1)):jVj).length:Int)>0 then some (⟨#[]⟩,25) else(VB n (⟨#[]⟩) h i j k l m o p q r d e).bind fun c=>if((c).length:Int)=0 then some (⟨#[110,111,110,101]⟩,0) else(ZI n c (⟨#[32]⟩)).bind fun f=>some (f,0) else none else if a.data.toList=[98,111,111,107,115] then none else if a.data.toList=[111,102,102,101,114,115] then none else if a.data.toList=[100,105,114,116] then none else if a.data.toList=[99,111,117,110,116] then none else none else some (⟨#[]⟩,g)
theorem Qo {n i j k m p s t u w x c e r}(h:Qj n i j k m p s t u w x c e=some r):ComputesO cx 22 [.ptr 0 0 0 0 0,.d (Qe ⟨#[97,105,109,101,100]⟩)] (some (Qa i j k m p s t u w x c e)) (.d (.tup [Qe r.1,I r.2])) (Qa i j k m p s t u w x c e) Zj:=by
 unfold Qj at h;have⟨t1,h1,h⟩:=bo h;have⟨t2,h2,h⟩:=bo h;have⟨t3,h3,h⟩:=bo h;have q:=Qb (leF (Qv h3)) (Qb (Qq7 h2) (Qb (Qq8 h1) QA));let o(l:jOj):=.no::.ret (I t1)::.ret (I t2)::.ret (I t3)::l;obtain⟨y,h⟩|⟨y,h⟩:=io h
 ·have⟨t5,h5,h⟩:=bo h;have⟨t6,h6,h⟩:=bo h;have q:=Q2 Zb h6 (Qb (Qqj h5) (Qb (nef y) q));let o l:=o (b0::.ret (.lst false 1 t5)::b1::(no 7 (.el (Wj t6)::.el (.tup [.agg [.v (.int .u8 0),.fn (.func 108) [] []],B true])::.no::b1::.no::.no::l)));obtain⟨A,h⟩|⟨A,h⟩:=io h
  ·cases h
  obtain⟨C,h⟩|⟨C,h⟩:=io h
  ·cases h
  obtain⟨z,h⟩|⟨z,h⟩:=io h
  ·have⟨f,h⟩:=gd h;have q:=Qb f (Qb (mk2 ⟨#[97,105,109,101,100]⟩ (.tup [.agg [.v (.int .u8 0),.fn (.func 108) [] []],B true]) z) q);obtain⟨a,h⟩|⟨a,h⟩:=io h
   ·cases h;exact rfO 0 (o [b1]) (Qb (jDj a) q)
   have⟨t12,g,h⟩:=bo h;have q:=Qb (qr g) (Qb (jEj a) q);let o l:=o (b0::.obj (some 0) (.d (.lst false 1 t12)) (Qa i j k m p s t u w x c e) Zj::l);obtain⟨b,h⟩|⟨b,h⟩:=io h
   ·cases h;exact rfO 0 (o [b1]) (Qb (eqt b) q)
   have⟨t14,h14,h⟩:=bo h;cases h;exact rfO 0 (o [b0,.ret (Qe t14)]) (Qb ((VY h14):Computes cx 121 [.lst false 1 t12,Qe ⟨#[32]⟩] (Qe t14)) (Qb (eqf b) q))
  by_cases f:t6.data.toList=[98,111,111,107,115]
  ·replace h:=U7 h f;cases h
  ·replace h:=U8 h f;by_cases a:t6.data.toList=[111,102,102,101,114,115]
   ·replace h:=U7 h a;cases h
   ·replace h:=U8 h a;by_cases g:t6.data.toList=[100,105,114,116]
    ·replace h:=U7 h g;cases h
    ·replace h:=U8 h g;by_cases b:t6.data.toList=[99,111,117,110,116]
     ·replace h:=U7 h b;cases h
     ·replace h:=U8 h b;cases h
 cases h;exact rfO 0 (o [b1]) (Qb (net y) q)
def Qnd (n:Nat)(d:jVj)(e:Int)(b:(jSj×Int)):Option (jSj×Int⊕jSj) := if b.2<((d).length:Int) then(el Wc d b.2).bind fun a=>(Qob n b.1 a.1 a.2.1 a.2.2.1 a.2.2.2.1 a.2.2.2.2).bind fun c=>if c.2=0 then if(c.1.size:Int)<=(b.1.size:Int) then none else if Qg (b.2+1) then some (.inl (c.1,(b.2+1))) else none else none else some (.inr b.1)
noncomputable def QpM (a:jVj)(b:Int):Lp (jSj×Int) (jSj):=⟨fun c=>[(0,.d (.lst false 5 a)),(1,.d (.v (.int .u16 b))),(8,.d (Qe c.1)),(68,.d (.lst false 5 a)),(69,.d (I ((a).length:Int))),(70,.d (I c.2))],fun _=>[],fun _=>(.exit 0),fun e=>[(0,.d (.lst false 5 a)),(1,.d (.v (.int .u16 b))),(8,.d (Qe e))],fun _=>[]⟩
theorem QpD {n d e}(f)(r)(h:Qnd n d e f=some r):Rl (Zt cx.P 3 0) 363 0 false (QpM d e) f r:=by
 unfold Qnd at h;obtain⟨a,h⟩|⟨a,h⟩:=io h
 ·have⟨ta2,ha2,h⟩:=bo h;have⟨ta3,ha3,h⟩:=bo h;obtain⟨b,h⟩|⟨b,h⟩:=io h
  ·obtain⟨c,h⟩|⟨c,h⟩:=io h
   ·cases h
   have⟨ha6,h⟩:=gd h;cases h;exact rn 20 [b1,.el (VQ ta2),.ret (.tup [Qe ta3.1,I ta3.2]),b0,b0] [] [0,1,8,68,69,70] [] (Qb ha6 (Qb (jEj c) (Qb (nef b) (Qb (Qra ha3) (Q2 V6 ha2 (Qb (jDj a) QA))))))
  cases h
 cases h;exact rx 20 [b0] [] [0,1,8] [] (Qb (jEj a) QA)
def QmF (n:Nat)(t9:jVj×Int×Int)(t10:Int×jVj×jVj×jRj)(t17:jVj×Int)(t18:Int×Int×Bool×Bool×Int×Int×Int×jVj×jVj×jVj×Int×Int)(f:jVj)(e:Int×Int×Int×jVj)(c:Int×jSj×jVj×jVj×jSj)(a:(Int×jVj)):Option (Int×jVj⊕jVj) := if a.1<((e.2.2.2).length:Int) then(el QmX e.2.2.2 a.1).bind fun b=>if(c.2.1.toList==(⟨#[116,114,105,112]⟩:jSj).toList)=true then if Wi 16 ((a.2).length+1) then if Qg (a.1+1) then some (.inl ((a.1+1),(a.2++([.v (.string b.1)]:jVj)))) else none else none else(el Vg c.2.2.1 0).bind fun d=>if(b.2.1.toList==d.toList)=true then if Wi 16 ((a.2).length+1) then if Qg (a.1+1) then some (.inl ((a.1+1),(a.2++([.v (.string b.1)]:jVj)))) else none else none else if Qg (a.1+1) then some (.inl ((a.1+1),a.2)) else none else some (.inr a.2)
noncomputable def QpL (t9:jVj×Int×Int)(t10:Int×jVj×jVj×jRj)(t17:jVj×Int)(t18:Int×Int×Bool×Bool×Int×Int×Int×jVj×jVj×jVj×Int×Int)(c:jVj)(b:Int×Int×Int×jVj)(a:Int×jSj×jVj×jVj×jSj):Lp (Int×jVj) (jVj):=⟨fun f=>[(14,.d (.lst false 5 t9.1)),(17,.ptr 82 0 0 0 0),(19,.d (.lst false 1 t17.1)),(21,.ptr 138 0 0 0 0),(24,.ptr 158 0 0 0 0),(25,.ptr 159 0 0 0 0),(27,.ptr 191 0 0 0 0),(28,.own 208 0),(169,.d (.lst false 5 c)),(170,.d (I ((c).length:Int))),(171,.d (I b.1)),(224,.d (.lst false 6 b.2.2.2)),(225,.d (I ((b.2.2.2).length:Int))),(226,.d (I f.1))],fun f=>[(82,.box (.agg [.own 83 0,.own 84 0,.d (I t10.2.2.2.1),.d (I t10.2.2.2.2.1),.d (B t10.2.2.2.2.2.1),.d (B t10.2.2.2.2.2.2.1),.d (I t10.2.2.2.2.2.2.2.1),.d (I t10.2.2.2.2.2.2.2.2.1),.d (I t10.2.2.2.2.2.2.2.2.2.1),.own 92 0,.own 93 0,.own 94 0])),(83,.row 0 5 t10.2.1),(84,.row 0 5 t10.2.2.1),(92,.row 0 1 t10.2.2.2.2.2.2.2.2.2.2.1),(93,.row 0 6 t10.2.2.2.2.2.2.2.2.2.2.2.1),(94,.row 0 7 t10.2.2.2.2.2.2.2.2.2.2.2.2),(138,.box (.d (.agg [I t18.1,I t18.2.1,B t18.2.2.1,B t18.2.2.2.1,I t18.2.2.2.2.1,I t18.2.2.2.2.2.1,I t18.2.2.2.2.2.2.1,.lst false 1 t18.2.2.2.2.2.2.2.1,.lst false 6 t18.2.2.2.2.2.2.2.2.1,.lst false 7 t18.2.2.2.2.2.2.2.2.2.1]))),(158,.box (.d gLD)),(159,.box (.d (.agg [I b.2.1,I b.2.2.1,.lst false 6 b.2.2.2]))),(191,.box (.d (.agg [I a.1,Qe a.2.1,.lst false 1 a.2.2.1,.lst false 1 a.2.2.2.1,Qe a.2.2.2.2]))),(208,.row 0 1 f.2)],fun _=>(.exit 5),fun _=>[(14,.d (.lst false 5 t9.1)),(17,.ptr 82 0 0 0 0),(19,.d (.lst false 1 t17.1)),(21,.ptr 138 0 0 0 0),(24,.ptr 158 0 0 0 0),(25,.ptr 159 0 0 0 0),(28,.own 208 0),(169,.d (.lst false 5 c)),(170,.d (I ((c).length:Int))),(171,.d (I b.1))],fun e=>[(82,.box (.agg [.own 83 0,.own 84 0,.d (I t10.2.2.2.1),.d (I t10.2.2.2.2.1),.d (B t10.2.2.2.2.2.1),.d (B t10.2.2.2.2.2.2.1),.d (I t10.2.2.2.2.2.2.2.1),.d (I t10.2.2.2.2.2.2.2.2.1),.d (I t10.2.2.2.2.2.2.2.2.2.1),.own 92 0,.own 93 0,.own 94 0])),(83,.row 0 5 t10.2.1),(84,.row 0 5 t10.2.2.1),(92,.row 0 1 t10.2.2.2.2.2.2.2.2.2.2.1),(93,.row 0 6 t10.2.2.2.2.2.2.2.2.2.2.2.1),(94,.row 0 7 t10.2.2.2.2.2.2.2.2.2.2.2.2),(138,.box (.d (.agg [I t18.1,I t18.2.1,B t18.2.2.1,B t18.2.2.2.1,I t18.2.2.2.2.1,I t18.2.2.2.2.2.1,I t18.2.2.2.2.2.2.1,.lst false 1 t18.2.2.2.2.2.2.2.1,.lst false 6 t18.2.2.2.2.2.2.2.2.1,.lst false 7 t18.2.2.2.2.2.2.2.2.2.1]))),(158,.box (.d gLD)),(159,.box (.d (.agg [I b.2.1,I b.2.2.1,.lst false 6 b.2.2.2]))),(208,.row 0 1 e)]⟩
theorem QpC {n t9 t10 t17 t18 d f e}(g)(r)(h:QmF n t9 t10 t17 t18 d f e g=some r):Rl (Zt cx.P 3 2) 363 0 false (QpL t9 t10 t17 t18 d f e) g r:=by
 unfold QmF at h;obtain⟨b,h⟩|⟨b,h⟩:=io h
 ·have⟨tb2,hb2,h⟩:=bo h;have q:=Q2 QmI hb2 (Qb (jDj b) QA);let o(l:jOj):=b1::.el (QmM tb2)::l;obtain⟨c,h⟩|⟨c,h⟩:=io h
  ·have⟨hb4,h⟩:=gd h;have⟨a,h⟩:=gd h;cases h;exact rn 209 (o [b1,.no,b1]) [] [14,17,19,21,24,25,27,28,169,170,171,224,225,226] [82,83,84,92,93,94,138,158,159,191,208] (Qb a (Qb (ro 9 hb4) (Qb c q)))
  have⟨tb4,hb4,h⟩:=bo h;have q:=Q2 Zb hb4 (Qb (Zy c) q);let o l:=o (b0::.el (Wj tb4)::l);obtain⟨a,h⟩|⟨a,h⟩:=io h
  ·have⟨hb6,h⟩:=gd h;have⟨hb7,h⟩:=gd h;cases h;exact rn 209 (o [b1,b1]) [] [14,17,19,21,24,25,27,28,169,170,171,224,225,226] [82,83,84,92,93,94,138,158,159,191,208] (Qb hb7 (Qb (ro 9 hb6) (Qb a q)))
  have⟨hb6,h⟩:=gd h;cases h;exact rn 209 (o [b0]) [] [14,17,19,21,24,25,27,28,169,170,171,224,225,226] [82,83,84,92,93,94,138,158,159,191,208] (Qb hb6 (Qb (Zy a) q))
 cases h;exact rx 209 [b0] [] [14,17,19,21,24,25,28,169,170,171] [82,83,84,92,93,94,138,158,159,208] (Qb (jEj b) QA)
def Qm1 (n:Nat)(t9:jVj×Int×Int)(t10:Int×jVj×jVj×jRj)(t17:jVj×Int)(t18:Int×Int×Bool×Bool×Int×Int×Int×jVj×jVj×jVj×Int×Int)(e:jVj)(f:Int×Int×Int×jVj)(c:jVj)(a:(Int×Int×Int×jVj)):Option (Int×Int×Int×jVj⊕Int×Int×jVj) := if a.1<((c).length:Int) then if 0<=a.1/\a.1<((c).length:Int) then((nth (c) (Int.toNat a.1)).bind Vg).bind fun d=>(Qm7 n a.2.1 a.2.2.1 a.2.2.2 d (⟨#[97]⟩) false).bind fun b=>if b.2.2.2=0 then if Qg (a.1+1) then some (.inl ((a.1+1),b.1,b.2.1,b.2.2.1)) else none else none else none else some (.inr (a.2.1,a.2.2.1,a.2.2.2))
noncomputable def QpK (t9:jVj×Int×Int)(t10:Int×jVj×jVj×jRj)(t17:jVj×Int)(t18:Int×Int×Bool×Bool×Int×Int×Int×jVj×jVj×jVj×Int×Int)(a:jVj)(f:Int×Int×Int×jVj)(c:jVj):Lp (Int×Int×Int×jVj) (Int×Int×jVj):=⟨fun b=>[(14,.d (.lst false 5 t9.1)),(17,.ptr 82 0 0 0 0),(19,.d (.lst false 1 t17.1)),(21,.ptr 138 0 0 0 0),(24,.ptr 158 0 0 0 0),(25,.ptr 159 0 0 0 0),(169,.d (.lst false 5 a)),(170,.d (I ((a).length:Int))),(171,.d (I f.1)),(248,.own 208 0),(249,.d (I ((c).length:Int))),(250,.d (I b.1))],fun b=>[(82,.box (.agg [.own 83 0,.own 84 0,.d (I t10.2.2.2.1),.d (I t10.2.2.2.2.1),.d (B t10.2.2.2.2.2.1),.d (B t10.2.2.2.2.2.2.1),.d (I t10.2.2.2.2.2.2.2.1),.d (I t10.2.2.2.2.2.2.2.2.1),.d (I t10.2.2.2.2.2.2.2.2.2.1),.own 92 0,.own 93 0,.own 94 0])),(83,.row 0 5 t10.2.1),(84,.row 0 5 t10.2.2.1),(92,.row 0 1 t10.2.2.2.2.2.2.2.2.2.2.1),(93,.row 0 6 t10.2.2.2.2.2.2.2.2.2.2.2.1),(94,.row 0 7 t10.2.2.2.2.2.2.2.2.2.2.2.2),(138,.box (.d (.agg [I t18.1,I t18.2.1,B t18.2.2.1,B t18.2.2.2.1,I t18.2.2.2.2.1,I t18.2.2.2.2.2.1,I t18.2.2.2.2.2.2.1,.lst false 1 t18.2.2.2.2.2.2.2.1,.lst false 6 t18.2.2.2.2.2.2.2.2.1,.lst false 7 t18.2.2.2.2.2.2.2.2.2.1]))),(158,.box (.d gLD)),(159,.box (.d (.agg [I b.2.1,I b.2.2.1,.lst false 6 b.2.2.2]))),(208,.row 0 1 c)],fun _=>(.exit 7),fun _=>[(14,.d (.lst false 5 t9.1)),(17,.ptr 82 0 0 0 0),(19,.d (.lst false 1 t17.1)),(21,.ptr 138 0 0 0 0),(24,.ptr 158 0 0 0 0),(25,.ptr 159 0 0 0 0),(169,.d (.lst false 5 a)),(170,.d (I ((a).length:Int))),(171,.d (I f.1))],fun e=>[(82,.box (.agg [.own 83 0,.own 84 0,.d (I t10.2.2.2.1),.d (I t10.2.2.2.2.1),.d (B t10.2.2.2.2.2.1),.d (B t10.2.2.2.2.2.2.1),.d (I t10.2.2.2.2.2.2.2.1),.d (I t10.2.2.2.2.2.2.2.2.1),.d (I t10.2.2.2.2.2.2.2.2.2.1),.own 92 0,.own 93 0,.own 94 0])),(83,.row 0 5 t10.2.1),(84,.row 0 5 t10.2.2.1),(92,.row 0 1 t10.2.2.2.2.2.2.2.2.2.2.1),(93,.row 0 6 t10.2.2.2.2.2.2.2.2.2.2.2.1),(94,.row 0 7 t10.2.2.2.2.2.2.2.2.2.2.2.2),(138,.box (.d (.agg [I t18.1,I t18.2.1,B t18.2.2.1,B t18.2.2.2.1,I t18.2.2.2.2.1,I t18.2.2.2.2.2.1,I t18.2.2.2.2.2.2.1,.lst false 1 t18.2.2.2.2.2.2.2.1,.lst false 6 t18.2.2.2.2.2.2.2.2.1,.lst false 7 t18.2.2.2.2.2.2.2.2.2.1]))),(158,.box (.d gLD)),(159,.box (.d (.agg [I e.1,I e.2.1,.lst false 6 e.2.2])))]⟩
theorem QpB {n t9 t10 t17 t18 c e d}(f)(r)(h:Qm1 n t9 t10 t17 t18 c e d f=some r):Rl (Zt cx.P 3 3) 363 0 false (QpK t9 t10 t17 t18 c e d) f r:=by
 unfold Qm1 at h;obtain⟨a,h⟩|⟨a,h⟩:=io h
 ·have⟨hb2,h⟩:=gd h;have⟨tb3,hb3,h⟩:=bo h;have⟨tb4,hb4,h⟩:=bo h;obtain⟨b,h⟩|⟨b,h⟩:=io h
  ·have⟨hb6,h⟩:=gd h;cases h;exact rn 248 [b1,b1,.el (Wj tb3),.ret (.tup [.agg [I tb4.1,I tb4.2.1,.lst false 6 tb4.2.2.1],I tb4.2.2.2]),b0] [] [14,17,19,21,24,25,169,170,171,248,249,250] [82,83,84,92,93,94,138,158,159,208] (Qb hb6 (Qb (nef b) (Qb (Qoc hb4) (Qb (Q0 Zb hb3) (Qb hb2 (Qb (jDj a) QA))))))
  cases h
 cases h;exact rx 248 [b0] [] [14,17,19,21,24,25,169,170,171] [82,83,84,92,93,94,138,158,159] (Qb (jEj a) QA)
noncomputable def QpJ (t9:jVj×Int×Int)(t10:Int×jVj×jVj×jRj)(t17:jVj×Int)(t18:Int×Int×Bool×Bool×Int×Int×Int×jVj×jVj×jVj×Int×Int)(c:jVj)(b:Int×Int×Int×jVj)(a:Int×jSj×jVj×jVj×jSj):Lp (Int×jVj) (jVj):=⟨fun f=>[(14,.d (.lst false 5 t9.1)),(17,.ptr 82 0 0 0 0),(19,.d (.lst false 1 t17.1)),(21,.ptr 138 0 0 0 0),(24,.ptr 158 0 0 0 0),(25,.ptr 159 0 0 0 0),(27,.ptr 191 0 0 0 0),(28,.own 210 0),(169,.d (.lst false 5 c)),(170,.d (I ((c).length:Int))),(171,.d (I b.1)),(224,.d (.lst false 6 b.2.2.2)),(225,.d (I ((b.2.2.2).length:Int))),(226,.d (I f.1))],fun f=>[(82,.box (.agg [.own 83 0,.own 84 0,.d (I t10.2.2.2.1),.d (I t10.2.2.2.2.1),.d (B t10.2.2.2.2.2.1),.d (B t10.2.2.2.2.2.2.1),.d (I t10.2.2.2.2.2.2.2.1),.d (I t10.2.2.2.2.2.2.2.2.1),.d (I t10.2.2.2.2.2.2.2.2.2.1),.own 92 0,.own 93 0,.own 94 0])),(83,.row 0 5 t10.2.1),(84,.row 0 5 t10.2.2.1),(92,.row 0 1 t10.2.2.2.2.2.2.2.2.2.2.1),(93,.row 0 6 t10.2.2.2.2.2.2.2.2.2.2.2.1),(94,.row 0 7 t10.2.2.2.2.2.2.2.2.2.2.2.2),(138,.box (.d (.agg [I t18.1,I t18.2.1,B t18.2.2.1,B t18.2.2.2.1,I t18.2.2.2.2.1,I t18.2.2.2.2.2.1,I t18.2.2.2.2.2.2.1,.lst false 1 t18.2.2.2.2.2.2.2.1,.lst false 6 t18.2.2.2.2.2.2.2.2.1,.lst false 7 t18.2.2.2.2.2.2.2.2.2.1]))),(158,.box (.d gLD)),(159,.box (.d (.agg [I b.2.1,I b.2.2.1,.lst false 6 b.2.2.2]))),(191,.box (.d (.agg [I a.1,Qe a.2.1,.lst false 1 a.2.2.1,.lst false 1 a.2.2.2.1,Qe a.2.2.2.2]))),(210,.row 0 1 f.2)],fun _=>(.exit 5),fun _=>[(14,.d (.lst false 5 t9.1)),(17,.ptr 82 0 0 0 0),(19,.d (.lst false 1 t17.1)),(21,.ptr 138 0 0 0 0),(24,.ptr 158 0 0 0 0),(25,.ptr 159 0 0 0 0),(28,.own 210 0),(169,.d (.lst false 5 c)),(170,.d (I ((c).length:Int))),(171,.d (I b.1))],fun e=>[(82,.box (.agg [.own 83 0,.own 84 0,.d (I t10.2.2.2.1),.d (I t10.2.2.2.2.1),.d (B t10.2.2.2.2.2.1),.d (B t10.2.2.2.2.2.2.1),.d (I t10.2.2.2.2.2.2.2.1),.d (I t10.2.2.2.2.2.2.2.2.1),.d (I t10.2.2.2.2.2.2.2.2.2.1),.own 92 0,.own 93 0,.own 94 0])),(83,.row 0 5 t10.2.1),(84,.row 0 5 t10.2.2.1),(92,.row 0 1 t10.2.2.2.2.2.2.2.2.2.2.1),(93,.row 0 6 t10.2.2.2.2.2.2.2.2.2.2.2.1),(94,.row 0 7 t10.2.2.2.2.2.2.2.2.2.2.2.2),(138,.box (.d (.agg [I t18.1,I t18.2.1,B t18.2.2.1,B t18.2.2.2.1,I t18.2.2.2.2.1,I t18.2.2.2.2.2.1,I t18.2.2.2.2.2.2.1,.lst false 1 t18.2.2.2.2.2.2.2.1,.lst false 6 t18.2.2.2.2.2.2.2.2.1,.lst false 7 t18.2.2.2.2.2.2.2.2.2.1]))),(158,.box (.d gLD)),(159,.box (.d (.agg [I b.2.1,I b.2.2.1,.lst false 6 b.2.2.2]))),(210,.row 0 1 e)]⟩
theorem QpA {n t9 t10 t17 t18 d f e}(g)(r)(h:QmF n t9 t10 t17 t18 d f e g=some r):Rl (Zt cx.P 3 2) 363 0 false (QpJ t9 t10 t17 t18 d f e) g r:=by
 unfold QmF at h;obtain⟨b,h⟩|⟨b,h⟩:=io h
 ·have⟨tb2,hb2,h⟩:=bo h;have q:=Q2 QmI hb2 (Qb (jDj b) QA);let o(l:jOj):=b1::.el (QmM tb2)::l;obtain⟨c,h⟩|⟨c,h⟩:=io h
  ·have⟨hb4,h⟩:=gd h;have⟨a,h⟩:=gd h;cases h;exact rn 211 (o [b1,.no,b1]) [] [14,17,19,21,24,25,27,28,169,170,171,224,225,226] [82,83,84,92,93,94,138,158,159,191,210] (Qb a (Qb (ro 9 hb4) (Qb c q)))
  have⟨tb4,hb4,h⟩:=bo h;have q:=Q2 Zb hb4 (Qb (Zy c) q);let o l:=o (b0::.el (Wj tb4)::l);obtain⟨a,h⟩|⟨a,h⟩:=io h
  ·have⟨hb6,h⟩:=gd h;have⟨hb7,h⟩:=gd h;cases h;exact rn 211 (o [b1,b1]) [] [14,17,19,21,24,25,27,28,169,170,171,224,225,226] [82,83,84,92,93,94,138,158,159,191,210] (Qb hb7 (Qb (ro 9 hb6) (Qb a q)))
  have⟨hb6,h⟩:=gd h;cases h;exact rn 211 (o [b0]) [] [14,17,19,21,24,25,27,28,169,170,171,224,225,226] [82,83,84,92,93,94,138,158,159,191,210] (Qb hb6 (Qb (Zy a) q))
 cases h;exact rx 211 [b0] [] [14,17,19,21,24,25,28,169,170,171] [82,83,84,92,93,94,138,158,159,210] (Qb (jEj b) QA)
def Qm0 (n:Nat)(t9:jVj×Int×Int)(t10:Int×jVj×jVj×jRj)(t17:jVj×Int)(t18:Int×Int×Bool×Bool×Int×Int×Int×jVj×jVj×jVj×Int×Int)(e:jVj)(f:Int×Int×Int×jVj)(c:jVj)(a:(Int×Int×Int×jVj)):Option (Int×Int×Int×jVj⊕Int×Int×jVj) := if a.1<((c).length:Int) then if 0<=a.1/\a.1<((c).length:Int) then((nth (c) (Int.toNat a.1)).bind Vg).bind fun d=>(Qm7 n a.2.1 a.2.2.1 a.2.2.2 d (⟨#[97]⟩) false).bind fun b=>if b.2.2.2=0 then if Qg (a.1+1) then some (.inl ((a.1+1),b.1,b.2.1,b.2.2.1)) else none else none else none else some (.inr (a.2.1,a.2.2.1,a.2.2.2))
noncomputable def QpI (t9:jVj×Int×Int)(t10:Int×jVj×jVj×jRj)(t17:jVj×Int)(t18:Int×Int×Bool×Bool×Int×Int×Int×jVj×jVj×jVj×Int×Int)(a:jVj)(f:Int×Int×Int×jVj)(c:jVj):Lp (Int×Int×Int×jVj) (Int×Int×jVj):=⟨fun b=>[(14,.d (.lst false 5 t9.1)),(17,.ptr 82 0 0 0 0),(19,.d (.lst false 1 t17.1)),(21,.ptr 138 0 0 0 0),(24,.ptr 158 0 0 0 0),(25,.ptr 159 0 0 0 0),(169,.d (.lst false 5 a)),(170,.d (I ((a).length:Int))),(171,.d (I f.1)),(248,.own 210 0),(249,.d (I ((c).length:Int))),(250,.d (I b.1))],fun b=>[(82,.box (.agg [.own 83 0,.own 84 0,.d (I t10.2.2.2.1),.d (I t10.2.2.2.2.1),.d (B t10.2.2.2.2.2.1),.d (B t10.2.2.2.2.2.2.1),.d (I t10.2.2.2.2.2.2.2.1),.d (I t10.2.2.2.2.2.2.2.2.1),.d (I t10.2.2.2.2.2.2.2.2.2.1),.own 92 0,.own 93 0,.own 94 0])),(83,.row 0 5 t10.2.1),(84,.row 0 5 t10.2.2.1),(92,.row 0 1 t10.2.2.2.2.2.2.2.2.2.2.1),(93,.row 0 6 t10.2.2.2.2.2.2.2.2.2.2.2.1),(94,.row 0 7 t10.2.2.2.2.2.2.2.2.2.2.2.2),(138,.box (.d (.agg [I t18.1,I t18.2.1,B t18.2.2.1,B t18.2.2.2.1,I t18.2.2.2.2.1,I t18.2.2.2.2.2.1,I t18.2.2.2.2.2.2.1,.lst false 1 t18.2.2.2.2.2.2.2.1,.lst false 6 t18.2.2.2.2.2.2.2.2.1,.lst false 7 t18.2.2.2.2.2.2.2.2.2.1]))),(158,.box (.d gLD)),(159,.box (.d (.agg [I b.2.1,I b.2.2.1,.lst false 6 b.2.2.2]))),(210,.row 0 1 c)],fun _=>(.exit 7),fun _=>[(14,.d (.lst false 5 t9.1)),(17,.ptr 82 0 0 0 0),(19,.d (.lst false 1 t17.1)),(21,.ptr 138 0 0 0 0),(24,.ptr 158 0 0 0 0),(25,.ptr 159 0 0 0 0),(169,.d (.lst false 5 a)),(170,.d (I ((a).length:Int))),(171,.d (I f.1))],fun e=>[(82,.box (.agg [.own 83 0,.own 84 0,.d (I t10.2.2.2.1),.d (I t10.2.2.2.2.1),.d (B t10.2.2.2.2.2.1),.d (B t10.2.2.2.2.2.2.1),.d (I t10.2.2.2.2.2.2.2.1),.d (I t10.2.2.2.2.2.2.2.2.1),.d (I t10.2.2.2.2.2.2.2.2.2.1),.own 92 0,.own 93 0,.own 94 0])),(83,.row 0 5 t10.2.1),(84,.row 0 5 t10.2.2.1),(92,.row 0 1 t10.2.2.2.2.2.2.2.2.2.2.1),(93,.row 0 6 t10.2.2.2.2.2.2.2.2.2.2.2.1),(94,.row 0 7 t10.2.2.2.2.2.2.2.2.2.2.2.2),(138,.box (.d (.agg [I t18.1,I t18.2.1,B t18.2.2.1,B t18.2.2.2.1,I t18.2.2.2.2.1,I t18.2.2.2.2.2.1,I t18.2.2.2.2.2.2.1,.lst false 1 t18.2.2.2.2.2.2.2.1,.lst false 6 t18.2.2.2.2.2.2.2.2.1,.lst false 7 t18.2.2.2.2.2.2.2.2.2.1]))),(158,.box (.d gLD)),(159,.box (.d (.agg [I e.1,I e.2.1,.lst false 6 e.2.2])))]⟩
theorem Qpz {n t9 t10 t17 t18 c e d}(f)(r)(h:Qm0 n t9 t10 t17 t18 c e d f=some r):Rl (Zt cx.P 3 3) 363 0 false (QpI t9 t10 t17 t18 c e d) f r:=by
 unfold Qm0 at h;obtain⟨a,h⟩|⟨a,h⟩:=io h
 ·have⟨hb2,h⟩:=gd h;have⟨tb3,hb3,h⟩:=bo h;have⟨tb4,hb4,h⟩:=bo h;obtain⟨b,h⟩|⟨b,h⟩:=io h
  ·have⟨hb6,h⟩:=gd h;cases h;exact rn 250 [b1,b1,.el (Wj tb3),.ret (.tup [.agg [I tb4.1,I tb4.2.1,.lst false 6 tb4.2.2.1],I tb4.2.2.2]),b0] [] [14,17,19,21,24,25,169,170,171,248,249,250] [82,83,84,92,93,94,138,158,159,210] (Qb hb6 (Qb (nef b) (Qb (Qoc hb4) (Qb (Q0 Zb hb3) (Qb hb2 (Qb (jDj a) QA))))))
  cases h
 cases h;exact rx 250 [b0] [] [14,17,19,21,24,25,169,170,171] [82,83,84,92,93,94,138,158,159] (Qb (jEj a) QA)
def JD (n:Nat)(t9:jVj×Int×Int)(t10:Int×jVj×jVj×jRj)(t17:jVj×Int)(t18:Int×Int×Bool×Bool×Int×Int×Int×jVj×jVj×jVj×Int×Int)(e:jVj)(a:(Int)⊕Int×Int×Int×jVj):Option ((Int⊕Int×Int×Int×jVj)⊕Unit⊕Int×Int×jVj):=match a with|(.inl a)=>(if a<((e).length:Int) then(el Wc e a).bind fun c=>if(c.2.1.toList==(⟨#[109,105,114,114,111,114]⟩:jSj).toList)=true then(el Vg c.2.2.1 0).bind fun h=>(el Vg c.2.2.1 1).bind fun f=>(QnR n 0 100 ([]) h f 1 ([]) 0 0).bind fun b=>if b.2.2.2=0 then if Qg (a+1) then some (.inl (.inr ((a+1),b.1,b.2.1,b.2.2.1))) else none else none else if(c.2.1.toList==(⟨#[97,105,109]⟩:jSj).toList)=true then(el Vg c.2.2.1 0).bind fun f=>(Qm7 n 0 100 ([]) f (⟨#[102]⟩) false).bind fun b=>if b.2.2.2=0 then if Qg (a+1) then some (.inl (.inr ((a+1),b.1,b.2.1,b.2.2.1))) else none else none else if(c.2.1.toList==(⟨#[112,97,114,107]⟩:jSj).toList)=true then(el Vg c.2.2.1 0).bind fun b=>(Qm7 n 0 100 ([]) b (⟨#[97]⟩) false).bind fun d=>if d.2.2.2=0 then if Qg (a+1) then some (.inl (.inr ((a+1),d.1,d.2.1,d.2.2.1))) else none else none else if(c.2.1.toList==(⟨#[100,105,109]⟩:jSj).toList)=true then if Qg (a+1) then some (.inl (.inl (a+1))) else none else if(c.2.1.toList==(⟨#[116,114,105,112]⟩:jSj).toList)=true then if Qg (a+1) then some (.inl (.inl (a+1))) else none else if Qg (a+1) then some (.inl (.inl (a+1))) else none else some (.inr (.inl ())))|.inr a=>(if a.1<((e).length:Int) then(el Wc e a.1).bind fun c=>if(c.2.1.toList==(⟨#[109,105,114,114,111,114]⟩:jSj).toList)=true then(el Vg c.2.2.1 0).bind fun h=>(el Vg c.2.2.1 1).bind fun f=>(QnR n a.2.1 a.2.2.1 a.2.2.2 h f 1 ([]) 0 0).bind fun b=>if b.2.2.2=0 then if Qg (a.1+1) then some (.inl (.inr ((a.1+1),b.1,b.2.1,b.2.2.1))) else none else none else if(c.2.1.toList==(⟨#[97,105,109]⟩:jSj).toList)=true then(el Vg c.2.2.1 0).bind fun f=>(Qm7 n a.2.1 a.2.2.1 a.2.2.2 f (⟨#[102]⟩) false).bind fun b=>if b.2.2.2=0 then if Qg (a.1+1) then some (.inl (.inr ((a.1+1),b.1,b.2.1,b.2.2.1))) else none else none else if(c.2.1.toList==(⟨#[112,97,114,107]⟩:jSj).toList)=true then(el Vg c.2.2.1 0).bind fun b=>(Qm7 n a.2.1 a.2.2.1 a.2.2.2 b (⟨#[97]⟩) false).bind fun d=>if d.2.2.2=0 then if Qg (a.1+1) then some (.inl (.inr ((a.1+1),d.1,d.2.1,d.2.2.1))) else none else none else if(c.2.1.toList==(⟨#[100,105,109]⟩:jSj).toList)=true then(QU (QmF n t9 t10 t17 t18 e a c) n (0,[])).bind fun d=>(QU (Qm1 n t9 t10 t17 t18 e a d) n (0,a.2.1,a.2.2.1,a.2.2.2)).bind fun g=>if Qg (a.1+1) then some (.inl (.inr ((a.1+1),g.1,g.2.1,g.2.2))) else none else if(c.2.1.toList==(⟨#[116,114,105,112]⟩:jSj).toList)=true then(QU (QmF n t9 t10 t17 t18 e a c) n (0,[])).bind fun g=>(QU (Qm0 n t9 t10 t17 t18 e a g) n (0,a.2.1,a.2.2.1,a.2.2.2)).bind fun i=>if Qg (a.1+1) then some (.inl (.inr ((a.1+1),i.1,i.2.1,i.2.2))) else none else if Qg (a.1+1) then some (.inl (.inr ((a.1+1),a.2.1,a.2.2.1,a.2.2.2))) else none else some (.inr (.inr (a.2.1,a.2.2.1,a.2.2.2))))
noncomputable def QpH (t9:jVj×Int×Int)(t10:Int×jVj×jVj×jRj)(t17:jVj×Int)(t18:Int×Int×Bool×Bool×Int×Int×Int×jVj×jVj×jVj×Int×Int)(a:jVj):Lp (Int⊕Int×Int×Int×jVj) (Unit⊕Int×Int×jVj):=⟨fun
 | (.inl sa)=>[(14,.d (.lst false 5 t9.1)),(17,.ptr 82 0 0 0 0),(19,.d (.lst false 1 t17.1)),(21,.ptr 138 0 0 0 0),(24,.ptr 158 0 0 0 0),(25,.ptr 159 0 0 0 0),(169,.d (.lst false 5 a)),(170,.d (I ((a).length:Int))),(171,.d (I sa))]
 | (.inr sa)=>[(14,.d (.lst false 5 t9.1)),(17,.ptr 82 0 0 0 0),(19,.d (.lst false 1 t17.1)),(21,.ptr 138 0 0 0 0),(24,.ptr 158 0 0 0 0),(25,.ptr 159 0 0 0 0),(169,.d (.lst false 5 a)),(170,.d (I ((a).length:Int))),(171,.d (I sa.1))],fun
 | (.inl sa)=>[(82,.box (.agg [.own 83 0,.own 84 0,.d (I t10.2.2.2.1),.d (I t10.2.2.2.2.1),.d (B t10.2.2.2.2.2.1),.d (B t10.2.2.2.2.2.2.1),.d (I t10.2.2.2.2.2.2.2.1),.d (I t10.2.2.2.2.2.2.2.2.1),.d (I t10.2.2.2.2.2.2.2.2.2.1),.own 92 0,.own 93 0,.own 94 0])),(83,.row 0 5 t10.2.1),(84,.row 0 5 t10.2.2.1),(92,.row 0 1 t10.2.2.2.2.2.2.2.2.2.2.1),(93,.row 0 6 t10.2.2.2.2.2.2.2.2.2.2.2.1),(94,.row 0 7 t10.2.2.2.2.2.2.2.2.2.2.2.2),(138,.box (.d (.agg [I t18.1,I t18.2.1,B t18.2.2.1,B t18.2.2.2.1,I t18.2.2.2.2.1,I t18.2.2.2.2.2.1,I t18.2.2.2.2.2.2.1,.lst false 1 t18.2.2.2.2.2.2.2.1,.lst false 6 t18.2.2.2.2.2.2.2.2.1,.lst false 7 t18.2.2.2.2.2.2.2.2.2.1]))),(158,.box (.d gLD)),(159,.box (.d (.agg [I 0,I 100,.lst true 0 []])))]
 | (.inr sa)=>[(82,.box (.agg [.own 83 0,.own 84 0,.d (I t10.2.2.2.1),.d (I t10.2.2.2.2.1),.d (B t10.2.2.2.2.2.1),.d (B t10.2.2.2.2.2.2.1),.d (I t10.2.2.2.2.2.2.2.1),.d (I t10.2.2.2.2.2.2.2.2.1),.d (I t10.2.2.2.2.2.2.2.2.2.1),.own 92 0,.own 93 0,.own 94 0])),(83,.row 0 5 t10.2.1),(84,.row 0 5 t10.2.2.1),(92,.row 0 1 t10.2.2.2.2.2.2.2.2.2.2.1),(93,.row 0 6 t10.2.2.2.2.2.2.2.2.2.2.2.1),(94,.row 0 7 t10.2.2.2.2.2.2.2.2.2.2.2.2),(138,.box (.d (.agg [I t18.1,I t18.2.1,B t18.2.2.1,B t18.2.2.2.1,I t18.2.2.2.2.1,I t18.2.2.2.2.2.1,I t18.2.2.2.2.2.2.1,.lst false 1 t18.2.2.2.2.2.2.2.1,.lst false 6 t18.2.2.2.2.2.2.2.2.1,.lst false 7 t18.2.2.2.2.2.2.2.2.2.1]))),(158,.box (.d gLD)),(159,.box (.d (.agg [I sa.2.1,I sa.2.2.1,.lst false 6 sa.2.2.2])))],fun _=>(.exit 2),fun _=>[(14,.d (.lst false 5 t9.1)),(17,.ptr 82 0 0 0 0),(19,.d (.lst false 1 t17.1)),(21,.ptr 138 0 0 0 0),(24,.ptr 158 0 0 0 0),(25,.ptr 159 0 0 0 0)],fun
 | (.inl e)=>[(82,.box (.agg [.own 83 0,.own 84 0,.d (I t10.2.2.2.1),.d (I t10.2.2.2.2.1),.d (B t10.2.2.2.2.2.1),.d (B t10.2.2.2.2.2.2.1),.d (I t10.2.2.2.2.2.2.2.1),.d (I t10.2.2.2.2.2.2.2.2.1),.d (I t10.2.2.2.2.2.2.2.2.2.1),.own 92 0,.own 93 0,.own 94 0])),(83,.row 0 5 t10.2.1),(84,.row 0 5 t10.2.2.1),(92,.row 0 1 t10.2.2.2.2.2.2.2.2.2.2.1),(93,.row 0 6 t10.2.2.2.2.2.2.2.2.2.2.2.1),(94,.row 0 7 t10.2.2.2.2.2.2.2.2.2.2.2.2),(138,.box (.d (.agg [I t18.1,I t18.2.1,B t18.2.2.1,B t18.2.2.2.1,I t18.2.2.2.2.1,I t18.2.2.2.2.2.1,I t18.2.2.2.2.2.2.1,.lst false 1 t18.2.2.2.2.2.2.2.1,.lst false 6 t18.2.2.2.2.2.2.2.2.1,.lst false 7 t18.2.2.2.2.2.2.2.2.2.1]))),(158,.box (.d gLD)),(159,.box (.d (.agg [I 0,I 100,.lst true 0 []])))]
 | (.inr e)=>[(82,.box (.agg [.own 83 0,.own 84 0,.d (I t10.2.2.2.1),.d (I t10.2.2.2.2.1),.d (B t10.2.2.2.2.2.1),.d (B t10.2.2.2.2.2.2.1),.d (I t10.2.2.2.2.2.2.2.1),.d (I t10.2.2.2.2.2.2.2.2.1),.d (I t10.2.2.2.2.2.2.2.2.2.1),.own 92 0,.own 93 0,.own 94 0])),(83,.row 0 5 t10.2.1),(84,.row 0 5 t10.2.2.1),(92,.row 0 1 t10.2.2.2.2.2.2.2.2.2.2.1),(93,.row 0 6 t10.2.2.2.2.2.2.2.2.2.2.2.1),(94,.row 0 7 t10.2.2.2.2.2.2.2.2.2.2.2.2),(138,.box (.d (.agg [I t18.1,I t18.2.1,B t18.2.2.1,B t18.2.2.2.1,I t18.2.2.2.2.1,I t18.2.2.2.2.2.1,I t18.2.2.2.2.2.2.1,.lst false 1 t18.2.2.2.2.2.2.2.1,.lst false 6 t18.2.2.2.2.2.2.2.2.1,.lst false 7 t18.2.2.2.2.2.2.2.2.2.1]))),(158,.box (.d gLD)),(159,.box (.d (.agg [I e.1,I e.2.1,.lst false 6 e.2.2])))]⟩
theorem QnL {n t9 t10 t17 t18 g}(i)(r)(h:JD n t9 t10 t17 t18 g i=some r):Rl (Zt cx.P 3 1) 363 0 false (QpH t9 t10 t17 t18 g) i r:=by
 unfold JD at h;obtain i|i:=i
 ·obtain⟨j,h⟩|⟨j,h⟩:=io h
  ·have⟨ta2,ha2,h⟩:=bo h;have q:=Q2 V6 ha2 (Qb (jDj j) QA);let o(l:jOj):=b1::.el (VQ ta2)::l;obtain⟨k,h⟩|⟨k,h⟩:=io h
   ·have⟨ta4,f,h⟩:=bo h;have⟨ta5,e,h⟩:=bo h;have⟨ta6,c,h⟩:=bo h;obtain⟨a,h⟩|⟨a,h⟩:=io h
    ·have⟨b,h⟩:=gd h;cases h;exact rn 188 (o [b1,.el (Wj ta4),.el (Wj ta5),.ret (.tup [.agg [I ta6.1,I ta6.2.1,.lst false 6 ta6.2.2.1],I ta6.2.2.2]),b0,.no,.no]) [] [14,17,19,21,24,25,169,170,171] [82,83,84,92,93,94,138,158,159] (Qb b (Qb (nef a) (Qb (((Qp2 c).le (.cons (.refl _) (.cons (.aggs (.cons (.refl _) (.cons (.refl _) (.cons (.nilF) (.nil))))) (.cons (.aggs (.cons (.refl _) (.cons (.refl _) (.cons (.refl _) (.cons (.nilF) (.cons (.refl _) (.cons (.refl _) (.nil)))))))) (.nil)))) (.refl _)):Computes cx 15 [gLD,.agg [I 0,I 100,.lst true 0 []],.agg [Qe ta4,Qe ta5,I 1,.lst true 0 [],I 0,I 0]] (.tup [.agg [I ta6.1,I ta6.2.1,.lst false 6 ta6.2.2.1],I ta6.2.2.2])) (Q2 Zb e (Q2 Zb f (Qb k q))))))
    cases h
   have q:=Qb (Zy k) q;let o l:=o (b0::l);obtain⟨f,h⟩|⟨f,h⟩:=io h
   ·have⟨ta5,e,h⟩:=bo h;have⟨ta6,c,h⟩:=bo h;obtain⟨a,h⟩|⟨a,h⟩:=io h
    ·have⟨b,h⟩:=gd h;cases h;exact rn 188 (o [b1,.el (Wj ta5),.ret (.tup [.agg [I ta6.1,I ta6.2.1,.lst false 6 ta6.2.2.1],I ta6.2.2.2]),b0,.no,.no]) [] [14,17,19,21,24,25,169,170,171] [82,83,84,92,93,94,138,158,159] (Qb b (Qb (nef a) (Qb (((Qoc c).le (.cons (.refl _) (.cons (.aggs (.cons (.refl _) (.cons (.refl _) (.cons (.nilF) (.nil))))) (.cons (.refl _) (.nil)))) (.refl _)):Computes cx 16 [gLD,.agg [I 0,I 100,.lst true 0 []],.agg [Qe ta5,Qe ⟨#[102]⟩,B false]] (.tup [.agg [I ta6.1,I ta6.2.1,.lst false 6 ta6.2.2.1],I ta6.2.2.2])) (Q2 Zb e (Qb f q)))))
    cases h
   have q:=Qb (Zy f) q;obtain⟨e,h⟩|⟨e,h⟩:=io h
   ·have⟨ta6,c,h⟩:=bo h;have⟨ta7,a,h⟩:=bo h;obtain⟨b,h⟩|⟨b,h⟩:=io h
    ·have⟨ha9,h⟩:=gd h;cases h;exact rn 188 (o [b0,b1,.el (Wj ta6),.no,.no,.no,.ret (.tup [.agg [I ta7.1,I ta7.2.1,.lst false 6 ta7.2.2.1],I ta7.2.2.2]),b0,.no,.no]) [] [14,17,19,21,24,25,169,170,171] [82,83,84,92,93,94,138,158,159] (Qb ha9 (Qb ((by unfold Qg;omega):Qg 1) (Qb (nef b) (Qb (((Qoc a).le (.cons (.refl _) (.cons (.aggs (.cons (.refl _) (.cons (.refl _) (.cons (.nilF) (.nil))))) (.cons (.refl _) (.nil)))) (.refl _)):Computes cx 16 [gLD,.agg [I 0,I 100,.lst true 0 []],.agg [Qe ta6,Qe ⟨#[97]⟩,B false]] (.tup [.agg [I ta7.1,I ta7.2.1,.lst false 6 ta7.2.2.1],I ta7.2.2.2])) (Q2 Zb c (Qb e q))))))
    cases h
   have q:=Qb (Zy e) q;let o l:=o (b0::b0::l);obtain⟨c,h⟩|⟨c,h⟩:=io h
   ·have⟨a,h⟩:=gd h;cases h;exact rn 188 (o [b1,b1,.no,.no,.no,.no]) [] [14,17,19,21,24,25,169,170,171] [82,83,84,92,93,94,138,158,159] (Qb a (Qb c (Qb c q)))
   have q:=Qb (Zy c) q;obtain⟨a,h⟩|⟨a,h⟩:=io h
   ·have⟨b,h⟩:=gd h;cases h;exact rn 188 (o [b0,b1,.no,.no,.no,.no]) [] [14,17,19,21,24,25,169,170,171] [82,83,84,92,93,94,138,158,159] (Qb b (Qb a q))
   have⟨b,h⟩:=gd h;cases h;exact rn 188 (o [b0,b0,.no,.no]) [] [14,17,19,21,24,25,169,170,171] [82,83,84,92,93,94,138,158,159] (Qb b (Qb (Zy a) q))
  cases h;exact rx 188 [b0] [] [14,17,19,21,24,25] [82,83,84,92,93,94,138,158,159] (Qb (jEj j) QA)
 ·obtain⟨j,h⟩|⟨j,h⟩:=io h
  ·have⟨ta2,ha2,h⟩:=bo h;have q:=Q2 V6 ha2 (Qb (jDj j) QA);let o(l:jOj):=b1::.el (VQ ta2)::l;obtain⟨k,h⟩|⟨k,h⟩:=io h
   ·have⟨ta4,f,h⟩:=bo h;have⟨ta5,e,h⟩:=bo h;have⟨ta6,c,h⟩:=bo h;obtain⟨a,h⟩|⟨a,h⟩:=io h
    ·have⟨b,h⟩:=gd h;cases h;exact rn 188 (o [b1,.el (Wj ta4),.el (Wj ta5),.ret (.tup [.agg [I ta6.1,I ta6.2.1,.lst false 6 ta6.2.2.1],I ta6.2.2.2]),b0,.no,.no]) [] [14,17,19,21,24,25,169,170,171] [82,83,84,92,93,94,138,158,159] (Qb b (Qb (nef a) (Qb (((Qp2 c).le (.cons (.refl _) (.cons (.refl _) (.cons (.aggs (.cons (.refl _) (.cons (.refl _) (.cons (.refl _) (.cons (.nilF) (.cons (.refl _) (.cons (.refl _) (.nil)))))))) (.nil)))) (.refl _)):Computes cx 15 [gLD,.agg [I i.2.1,I i.2.2.1,.lst false 6 i.2.2.2],.agg [Qe ta4,Qe ta5,I 1,.lst true 0 [],I 0,I 0]] (.tup [.agg [I ta6.1,I ta6.2.1,.lst false 6 ta6.2.2.1],I ta6.2.2.2])) (Q2 Zb e (Q2 Zb f (Qb k q))))))
    cases h
   have q:=Qb (Zy k) q;let o l:=o (b0::l);obtain⟨f,h⟩|⟨f,h⟩:=io h
   ·have⟨ta5,e,h⟩:=bo h;have⟨ta6,c,h⟩:=bo h;obtain⟨a,h⟩|⟨a,h⟩:=io h
    ·have⟨b,h⟩:=gd h;cases h;exact rn 188 (o [b1,.el (Wj ta5),.ret (.tup [.agg [I ta6.1,I ta6.2.1,.lst false 6 ta6.2.2.1],I ta6.2.2.2]),b0,.no,.no]) [] [14,17,19,21,24,25,169,170,171] [82,83,84,92,93,94,138,158,159] (Qb b (Qb (nef a) (Qb (Qoc c) (Q2 Zb e (Qb f q)))))
    cases h
   have q:=Qb (Zy f) q;obtain⟨e,h⟩|⟨e,h⟩:=io h
   ·have⟨ta6,c,h⟩:=bo h;have⟨ta7,a,h⟩:=bo h;obtain⟨b,h⟩|⟨b,h⟩:=io h
    ·have⟨ha9,h⟩:=gd h;cases h;exact rn 188 (o [b0,b1,.el (Wj ta6),.no,.no,.no,.ret (.tup [.agg [I ta7.1,I ta7.2.1,.lst false 6 ta7.2.2.1],I ta7.2.2.2]),b0,.no,.no]) [] [14,17,19,21,24,25,169,170,171] [82,83,84,92,93,94,138,158,159] (Qb ha9 (Qb ((by unfold Qg;omega):Qg 1) (Qb (nef b) (Qb (Qoc a) (Q2 Zb c (Qb e q))))))
    cases h
   have q:=Qb (Zy e) q;let o l:=o (b0::b0::l);obtain⟨c,h⟩|⟨c,h⟩:=io h
   ·have⟨ta7,a,h⟩:=bo h;have⟨ta8,b,h⟩:=bo h;have⟨ha9,h⟩:=gd h;cases h;exact rn 188 (o [b1,b1,.lp [28,1] [14,17,19,21,24,25,27,28,169,170,171,224,225,226] [82,83,84,92,93,94,138,158,159,191,208] (.exit 5) [(14,.d (.lst false 5 t9.1)),(17,.ptr 82 0 0 0 0),(19,.d (.lst false 1 t17.1)),(21,.ptr 138 0 0 0 0),(24,.ptr 158 0 0 0 0),(25,.ptr 159 0 0 0 0),(28,.own 208 0),(169,.d (.lst false 5 g)),(170,.d (I ((g).length:Int))),(171,.d (I i.1))] [(82,.box (.agg [.own 83 0,.own 84 0,.d (I t10.2.2.2.1),.d (I t10.2.2.2.2.1),.d (B t10.2.2.2.2.2.1),.d (B t10.2.2.2.2.2.2.1),.d (I t10.2.2.2.2.2.2.2.1),.d (I t10.2.2.2.2.2.2.2.2.1),.d (I t10.2.2.2.2.2.2.2.2.2.1),.own 92 0,.own 93 0,.own 94 0])),(83,.row 0 5 t10.2.1),(84,.row 0 5 t10.2.2.1),(92,.row 0 1 t10.2.2.2.2.2.2.2.2.2.2.1),(93,.row 0 6 t10.2.2.2.2.2.2.2.2.2.2.2.1),(94,.row 0 7 t10.2.2.2.2.2.2.2.2.2.2.2.2),(138,.box (.d (.agg [I t18.1,I t18.2.1,B t18.2.2.1,B t18.2.2.2.1,I t18.2.2.2.2.1,I t18.2.2.2.2.2.1,I t18.2.2.2.2.2.2.1,.lst false 1 t18.2.2.2.2.2.2.2.1,.lst false 6 t18.2.2.2.2.2.2.2.2.1,.lst false 7 t18.2.2.2.2.2.2.2.2.2.1]))),(158,.box (.d gLD)),(159,.box (.d (.agg [I i.2.1,I i.2.2.1,.lst false 6 i.2.2.2]))),(208,.row 0 1 ta7)] 245,.lp [] [14,17,19,21,24,25,169,170,171,248,249,250] [82,83,84,92,93,94,138,158,159,208] (.exit 7) [(14,.d (.lst false 5 t9.1)),(17,.ptr 82 0 0 0 0),(19,.d (.lst false 1 t17.1)),(21,.ptr 138 0 0 0 0),(24,.ptr 158 0 0 0 0),(25,.ptr 159 0 0 0 0),(169,.d (.lst false 5 g)),(170,.d (I ((g).length:Int))),(171,.d (I i.1))] [(82,.box (.agg [.own 83 0,.own 84 0,.d (I t10.2.2.2.1),.d (I t10.2.2.2.2.1),.d (B t10.2.2.2.2.2.1),.d (B t10.2.2.2.2.2.2.1),.d (I t10.2.2.2.2.2.2.2.1),.d (I t10.2.2.2.2.2.2.2.2.1),.d (I t10.2.2.2.2.2.2.2.2.2.1),.own 92 0,.own 93 0,.own 94 0])),(83,.row 0 5 t10.2.1),(84,.row 0 5 t10.2.2.1),(92,.row 0 1 t10.2.2.2.2.2.2.2.2.2.2.1),(93,.row 0 6 t10.2.2.2.2.2.2.2.2.2.2.2.1),(94,.row 0 7 t10.2.2.2.2.2.2.2.2.2.2.2.2),(138,.box (.d (.agg [I t18.1,I t18.2.1,B t18.2.2.1,B t18.2.2.2.1,I t18.2.2.2.2.1,I t18.2.2.2.2.2.1,I t18.2.2.2.2.2.2.1,.lst false 1 t18.2.2.2.2.2.2.2.1,.lst false 6 t18.2.2.2.2.2.2.2.2.1,.lst false 7 t18.2.2.2.2.2.2.2.2.2.1]))),(158,.box (.d gLD)),(159,.box (.d (.agg [I ta8.1,I ta8.2.1,.lst false 6 ta8.2.2])))] 280]) [] [14,17,19,21,24,25,169,170,171] [82,83,84,92,93,94,138,158,159] (Qb ha9 (Qb (QE QpB b) (Qb (QE QpC a) (Qb c (Qb c q)))))
   have q:=Qb (Zy c) q;obtain⟨a,h⟩|⟨a,h⟩:=io h
   ·have⟨ta8,b,h⟩:=bo h;have⟨ta9,ha9,h⟩:=bo h;have⟨ha10,h⟩:=gd h;cases h;exact rn 188 (o [b0,b1,.lp [28,1] [14,17,19,21,24,25,27,28,169,170,171,224,225,226] [82,83,84,92,93,94,138,158,159,191,210] (.exit 5) [(14,.d (.lst false 5 t9.1)),(17,.ptr 82 0 0 0 0),(19,.d (.lst false 1 t17.1)),(21,.ptr 138 0 0 0 0),(24,.ptr 158 0 0 0 0),(25,.ptr 159 0 0 0 0),(28,.own 210 0),(169,.d (.lst false 5 g)),(170,.d (I ((g).length:Int))),(171,.d (I i.1))] [(82,.box (.agg [.own 83 0,.own 84 0,.d (I t10.2.2.2.1),.d (I t10.2.2.2.2.1),.d (B t10.2.2.2.2.2.1),.d (B t10.2.2.2.2.2.2.1),.d (I t10.2.2.2.2.2.2.2.1),.d (I t10.2.2.2.2.2.2.2.2.1),.d (I t10.2.2.2.2.2.2.2.2.2.1),.own 92 0,.own 93 0,.own 94 0])),(83,.row 0 5 t10.2.1),(84,.row 0 5 t10.2.2.1),(92,.row 0 1 t10.2.2.2.2.2.2.2.2.2.2.1),(93,.row 0 6 t10.2.2.2.2.2.2.2.2.2.2.2.1),(94,.row 0 7 t10.2.2.2.2.2.2.2.2.2.2.2.2),(138,.box (.d (.agg [I t18.1,I t18.2.1,B t18.2.2.1,B t18.2.2.2.1,I t18.2.2.2.2.1,I t18.2.2.2.2.2.1,I t18.2.2.2.2.2.2.1,.lst false 1 t18.2.2.2.2.2.2.2.1,.lst false 6 t18.2.2.2.2.2.2.2.2.1,.lst false 7 t18.2.2.2.2.2.2.2.2.2.1]))),(158,.box (.d gLD)),(159,.box (.d (.agg [I i.2.1,I i.2.2.1,.lst false 6 i.2.2.2]))),(210,.row 0 1 ta8)] 247,.lp [] [14,17,19,21,24,25,169,170,171,248,249,250] [82,83,84,92,93,94,138,158,159,210] (.exit 7) [(14,.d (.lst false 5 t9.1)),(17,.ptr 82 0 0 0 0),(19,.d (.lst false 1 t17.1)),(21,.ptr 138 0 0 0 0),(24,.ptr 158 0 0 0 0),(25,.ptr 159 0 0 0 0),(169,.d (.lst false 5 g)),(170,.d (I ((g).length:Int))),(171,.d (I i.1))] [(82,.box (.agg [.own 83 0,.own 84 0,.d (I t10.2.2.2.1),.d (I t10.2.2.2.2.1),.d (B t10.2.2.2.2.2.1),.d (B t10.2.2.2.2.2.2.1),.d (I t10.2.2.2.2.2.2.2.1),.d (I t10.2.2.2.2.2.2.2.2.1),.d (I t10.2.2.2.2.2.2.2.2.2.1),.own 92 0,.own 93 0,.own 94 0])),(83,.row 0 5 t10.2.1),(84,.row 0 5 t10.2.2.1),(92,.row 0 1 t10.2.2.2.2.2.2.2.2.2.2.1),(93,.row 0 6 t10.2.2.2.2.2.2.2.2.2.2.2.1),(94,.row 0 7 t10.2.2.2.2.2.2.2.2.2.2.2.2),(138,.box (.d (.agg [I t18.1,I t18.2.1,B t18.2.2.1,B t18.2.2.2.1,I t18.2.2.2.2.1,I t18.2.2.2.2.2.1,I t18.2.2.2.2.2.2.1,.lst false 1 t18.2.2.2.2.2.2.2.1,.lst false 6 t18.2.2.2.2.2.2.2.2.1,.lst false 7 t18.2.2.2.2.2.2.2.2.2.1]))),(158,.box (.d gLD)),(159,.box (.d (.agg [I ta9.1,I ta9.2.1,.lst false 6 ta9.2.2])))] 282]) [] [14,17,19,21,24,25,169,170,171] [82,83,84,92,93,94,138,158,159] (Qb ha10 (Qb (QE Qpz ha9) (Qb (QE QpA b) (Qb a q))))
   have⟨b,h⟩:=gd h;cases h;exact rn 188 (o [b0,b0,.no,.no]) [] [14,17,19,21,24,25,169,170,171] [82,83,84,92,93,94,138,158,159] (Qb b (Qb (Zy a) q))
  cases h;exact rx 188 [b0] [] [14,17,19,21,24,25] [82,83,84,92,93,94,138,158,159] (Qb (jEj j) QA)
def QmZ (n:Nat)(t9:jVj×Int×Int)(t10:Int×jVj×jVj×jRj)(t17:jVj×Int)(t18:Int×Int×Bool×Bool×Int×Int×Int×jVj×jVj×jVj×Int×Int)(a:(Int×Int)):Option (Int×Int⊕Int) := if a.2<((t18.2.2.2.2.2.2.2.1).length:Int) then(el Vg t18.2.2.2.2.2.2.2.1 a.2).bind fun c=>(QnU n t9.1 c).bind fun b=>if b.2.2=0 then if Qg (a.1+b.2.1) then if Qg (a.2+1) then some (.inl ((a.1+b.2.1),(a.2+1))) else none else none else none else some (.inr a.1)
noncomputable def QpG (t9:jVj×Int×Int)(t10:Int×jVj×jVj×jRj)(t17:jVj×Int)(t18:Int×Int×Bool×Bool×Int×Int×Int×jVj×jVj×jVj×Int×Int):Lp (Int×Int) (Int):=⟨fun a=>[(14,.d (.lst false 5 t9.1)),(17,.ptr 82 0 0 0 0),(19,.d (.lst false 1 t17.1)),(45,.d (I a.1)),(308,.d (.lst false 1 t18.2.2.2.2.2.2.2.1)),(309,.d (I ((t18.2.2.2.2.2.2.2.1).length:Int))),(310,.d (I a.2))],fun _=>[(82,.box (.agg [.own 83 0,.own 84 0,.d (I t10.2.2.2.1),.d (I t10.2.2.2.2.1),.d (B t10.2.2.2.2.2.1),.d (B t10.2.2.2.2.2.2.1),.d (I t10.2.2.2.2.2.2.2.1),.d (I t10.2.2.2.2.2.2.2.2.1),.d (I t10.2.2.2.2.2.2.2.2.2.1),.own 92 0,.own 93 0,.own 94 0])),(83,.row 0 5 t10.2.1),(84,.row 0 5 t10.2.2.1),(92,.row 0 1 t10.2.2.2.2.2.2.2.2.2.2.1),(93,.row 0 6 t10.2.2.2.2.2.2.2.2.2.2.2.1),(94,.row 0 7 t10.2.2.2.2.2.2.2.2.2.2.2.2)],fun _=>(.exit 9),fun e=>[(17,.ptr 82 0 0 0 0),(19,.d (.lst false 1 t17.1)),(45,.d (I e))],fun _=>[(82,.box (.agg [.own 83 0,.own 84 0,.d (I t10.2.2.2.1),.d (I t10.2.2.2.2.1),.d (B t10.2.2.2.2.2.1),.d (B t10.2.2.2.2.2.2.1),.d (I t10.2.2.2.2.2.2.2.1),.d (I t10.2.2.2.2.2.2.2.2.1),.d (I t10.2.2.2.2.2.2.2.2.2.1),.own 92 0,.own 93 0,.own 94 0])),(83,.row 0 5 t10.2.1),(84,.row 0 5 t10.2.2.1),(92,.row 0 1 t10.2.2.2.2.2.2.2.2.2.2.1),(93,.row 0 6 t10.2.2.2.2.2.2.2.2.2.2.2.1),(94,.row 0 7 t10.2.2.2.2.2.2.2.2.2.2.2.2)]⟩
theorem QnK {n t9 t10 t17 t18}(c)(r)(h:QmZ n t9 t10 t17 t18 c=some r):Rl (Zt cx.P 3 4) 363 0 false (QpG t9 t10 t17 t18) c r:=by
 unfold QmZ at h;obtain⟨a,h⟩|⟨a,h⟩:=io h
 ·have⟨ta2,ha2,h⟩:=bo h;have⟨ta3,ha3,h⟩:=bo h;obtain⟨b,h⟩|⟨b,h⟩:=io h
  ·have⟨ha5,h⟩:=gd h;have⟨ha6,h⟩:=gd h;cases h;exact rn 347 [b1,.el (Wj ta2),.ret (.tup [.agg [I ta3.1,I ta3.2.1],I ta3.2.2]),b0] [] [14,17,19,45,308,309,310] [82,83,84,92,93,94] (Qb ha6 (Qb ha5 (Qb (nef b) (Qb (Qq9 ha3) (Q2 Zb ha2 (Qb (jDj a) QA))))))
  cases h
 cases h;exact rx 347 [b0] [] [17,19,45] [82,83,84,92,93,94] (Qb (jEj a) QA)
def QmY (n:Nat)(t17:jVj×Int)(t33:Int)(t34:jSj×Int)(a:(jSj×Int)):Option (jSj×Int⊕jSj) := if a.2<((t17.1).length:Int) then(el Vg t17.1 a.2).bind fun b=>if a.2=0 then if Qg (a.2+1) then some (.inl (b,(a.2+1))) else none else if(⟨#[32]⟩:jSj).size+b.size<=9223372036854775807 then if a.1.size+((⟨#[32]⟩:jSj)++b).size<=9223372036854775807 then if Qg (a.2+1) then some (.inl ((a.1++((⟨#[32]⟩:jSj)++b)),(a.2+1))) else none else none else none else some (.inr a.1)
noncomputable def QpF (t17:jVj×Int)(t33:Int)(t34:jSj×Int):Lp (jSj×Int) (jSj):=⟨fun a=>[(19,.d (.lst false 1 t17.1)),(45,.d (I t33)),(50,.d (Qe t34.1)),(51,.d (I t34.2)),(52,.d (Qe a.1)),(332,.d (.lst false 1 t17.1)),(333,.d (I ((t17.1).length:Int))),(334,.d (I a.2))],fun _=>[],fun _=>(.exit 11),fun e=>[(19,.d (.lst false 1 t17.1)),(45,.d (I t33)),(50,.d (Qe t34.1)),(51,.d (I t34.2)),(52,.d (Qe e))],fun _=>[]⟩
theorem QnJ {n t17 t33 t34}(c)(r)(h:QmY n t17 t33 t34 c=some r):Rl (Zt cx.P 3 5) 363 0 false (QpF t17 t33 t34) c r:=by
 unfold QmY at h;obtain⟨a,h⟩|⟨a,h⟩:=io h
 ·have⟨ta2,ha2,h⟩:=bo h;have q:=Q2 Zb ha2 (Qb (jDj a) QA);obtain⟨b,h⟩|⟨b,h⟩:=io h
  ·have⟨ha4,h⟩:=gd h;cases h;exact rn 391 [b1,.el (Wj ta2),b1] [] [19,45,50,51,52,332,333,334] [] (Qb ha4 (Qb (eqt b) q))
  have⟨ha4,h⟩:=gd h;have⟨ha5,h⟩:=gd h;have⟨ha6,h⟩:=gd h;cases h;exact rn 391 [b1,.el (Wj ta2),b0] [] [19,45,50,51,52,332,333,334] [] (Qb ha6 (Qb ha5 (Qb ha4 (Qb (eqf b) q))))
 cases h;exact rx 391 [b0] [] [19,45,50,51,52] [] (Qb (jEj a) QA)
def QmG (n:Nat)(t9:jVj×Int×Int)(t10:Int×jVj×jVj×jRj)(t17:jVj×Int)(t18:Int×Int×Bool×Bool×Int×Int×Int×jVj×jVj×jVj×Int×Int)(g h:Int)(i:jVj):Option Bool :=
 (QoO n g h i).bind fun a =>
 if a.2.2.2=0 then
  (QoP n a.1 a.2.1 a.2.2.1).bind fun b =>
  (QoG n a.1 a.2.1 a.2.2.1).bind fun c =>
  if b.2=0 then
   if c.2=0 then
    (Qnq n b.1 t17.1).bind fun d =>
    if d=true then
     if(!(c.1==(((t17.1).length:Int)==0)))=true then
      none
     else
     (QU (QmZ n t9 t10 t17 t18) n (0,0)).bind fun t33 =>
     (Qj n t10.2.1 t10.2.2.1 t10.2.2.2.1 t10.2.2.2.2.1 t10.2.2.2.2.2.1 t10.2.2.2.2.2.2.1 t10.2.2.2.2.2.2.2.1 t10.2.2.2.2.2.2.2.2.1 t10.2.2.2.2.2.2.2.2.2.1 t10.2.2.2.2.2.2.2.2.2.2.1 t10.2.2.2.2.2.2.2.2.2.2.2.1 t10.2.2.2.2.2.2.2.2.2.2.2.2).bind fun t34 =>
     (QU (QmY n t17 t33 t34) n (⟨#[110,111,110,101]⟩,0)).bind fun e =>
     if t33=((t17.1).length:Int) then
      if t34.2=0 then
       if(t34.1.toList==e.toList)=true then
        (QnD n).bind fun f =>
        some f
       else
       none
      else
      none
     else
     none
    else
    none
   else
   none
  else
  none
 else
 none
def Qn3 (n:Nat)(c:jVj)(j:Int):Option (Bool) := (Qnu n c 16).bind fun l=>if l=true then(Qn8 n c).bind fun i=>if i.2.2.2.2.2.2.2.2.2.2.2=0 then(QU (Qnd n c j) n (⟨#[]⟩,0)).bind fun e=>if Qg ((e.size:Int)+1) then if((e.size:Int)+1)≠0 then(XY e none (some (Int.tmod (IntKind.wrap .i64 j) ((e.size:Int)+1)))).bind fun k=>(QkU n k).bind fun t9=>(Qk0 n k).bind fun t10=>if t9.2.2=0 then if t10.1=0 then if((t9.1).length:Int)>((c).length:Int) then none else if(0:Int)<=0/\0<=((t9.1).length:Int)/\((t9.1).length:Int)<=((c).length:Int)/\(c=[]\/5=5) then(Qm2 n t9.1 ((c.take (Int.toNat ((t9.1).length:Int))).drop (Int.toNat 0))).bind fun f=>if f=true then(Qnv n t9.1).bind fun t17=>(QkT n t9.1).bind fun t18=>if t17.2=0 then if t18.2.2.2.2.2.2.2.2.2.2.2=0 then if((t18.2.2.2.2.2.2.2.1).length:Int)>18 then none else(Qna n t9.1).bind fun h=>(QU (JD n t9 t10 t17 t18 h) n (.inl 0)).bind fun a=>match a with|.inl a=>(QmG n t9 t10 t17 t18 0 100 ([]))|.inr a=>(QmG n t9 t10 t17 t18 a.1 a.2.1 a.2.2) else none else none else none else none else none else if t9.2.2=28 then if t10.1=0 then if((t9.1).length:Int)>((c).length:Int) then none else if(0:Int)<=0/\0<=((t9.1).length:Int)/\((t9.1).length:Int)<=((c).length:Int)/\(c=[]\/5=5) then(Qm2 n t9.1 ((c.take (Int.toNat ((t9.1).length:Int))).drop (Int.toNat 0))).bind fun g=>if g=true then(Qnv n t9.1).bind fun t18=>(QkT n t9.1).bind fun d=>if t18.2=0 then if d.2.2.2.2.2.2.2.2.2.2.2=0 then if((d.2.2.2.2.2.2.2.1).length:Int)>18 then none else(Qna n t9.1).bind fun a=>(QU (JD n t9 t10 t18 d a) n (.inl 0)).bind fun b=>match b with|.inl b=>(QmG n t9 t10 t18 d 0 100 ([]))|.inr b=>(QmG n t9 t10 t18 d b.1 b.2.1 b.2.2) else none else none else none else none else none else none else none else none else(QnD n).bind fun e=>some e else(QnD n).bind fun i=>some i
theorem Qqi {n K J r}(h:Qn3 n K J=some r):Computes cx 3 [.lst false 5 K,.v (.int .u16 J)] (B r):=by
 unfold Qn3 at h;have⟨t1,h1,h⟩:=bo h;have q:=Qb (QpV h1) QA;let o(l:jOj):=.ret (B t1)::l;obtain⟨L,h⟩|⟨L,h⟩:=io h
 ·have⟨t3,h3,h⟩:=bo h;have q:=Qb (Qq4 h3) (Qb (zV L) q);let o l:=o (b0::.ret (.tup [.agg [I t3.1,I t3.2.1,B t3.2.2.1,B t3.2.2.2.1,I t3.2.2.2.2.1,I t3.2.2.2.2.2.1,I t3.2.2.2.2.2.2.1,.lst false 1 t3.2.2.2.2.2.2.2.1,.lst false 6 t3.2.2.2.2.2.2.2.2.1,.lst false 7 t3.2.2.2.2.2.2.2.2.2.1],I t3.2.2.2.2.2.2.2.2.2.2.1,I t3.2.2.2.2.2.2.2.2.2.2.2])::l);obtain⟨M,h⟩|⟨M,h⟩:=io h
  ·have⟨t5,h5,h⟩:=bo h;have⟨h6,h⟩:=gd h;have⟨h7,h⟩:=gd h;have⟨t8,N,h⟩:=bo h;have⟨t9,h9,h⟩:=bo h;have⟨t10,h10,h⟩:=bo h;have q:=Qb (QlC h10) (Qb (Qlm h9) (Qb (Qa1 N:Zu cx.P (Instr.sliceAt 9 (.string t5) none (some (.int .i64 (Int.tmod (IntKind.wrap .i64 J) ((t5.size:Int)+1)))) none)=some (.string t8)) (Qb h7 (Qb h6 (Qb (QE QpD h5) (Qb (nef M) q))))));let o l:=o (b0::.lp [] [0,1,8,68,69,70] [] (.exit 0) [(0,.d (.lst false 5 K)),(1,.d (.v (.int .u16 J))),(8,.d (Qe t5))] [] 57::.el (Qe t8)::.ret (.tup [.lst false 5 t9.1,I t9.2.1,I t9.2.2])::.obj none (.tup [.ptr 0 0 0 0 0,.d (I t10.1)]) (Qa' t10.2) []::l);obtain⟨H,h⟩|⟨H,h⟩:=io h
   ·have q:=Qb (nef H) q;let o l:=o (b0::.no::b0::.no::b0::b1::l);obtain⟨w,h⟩|⟨w,h⟩:=io h
    ·have q:=Qb (nef w) q;obtain⟨x,h⟩|⟨x,h⟩:=io h
     ·cases h
     have⟨A,h⟩:=gd h;have⟨t15,h15,h⟩:=bo h;have q:=Qb (QoK h15) (Qb A (Qb (jEj x) q));obtain⟨C,h⟩|⟨C,h⟩:=io h
     ·have⟨t17,E,h⟩:=bo h;have⟨t18,h18,h⟩:=bo h;have q:=Qb (Qlt h18) (Qb (Qp1 E) (Qb (zV C) q));let o l:=o (.ret (B t15)::b0::.ret (.tup [.lst false 1 t17.1,I t17.2])::.ret (.tup [.agg [I t18.1,I t18.2.1,B t18.2.2.1,B t18.2.2.2.1,I t18.2.2.2.2.1,I t18.2.2.2.2.2.1,I t18.2.2.2.2.2.2.1,.lst false 1 t18.2.2.2.2.2.2.2.1,.lst false 6 t18.2.2.2.2.2.2.2.2.1,.lst false 7 t18.2.2.2.2.2.2.2.2.2.1],I t18.2.2.2.2.2.2.2.2.2.2.1,I t18.2.2.2.2.2.2.2.2.2.2.2])::b0::b0::b0::b1::l);obtain⟨F,h⟩|⟨F,h⟩:=io h
      ·have q:=Qb (nef F) q;obtain⟨y,h⟩|⟨y,h⟩:=io h
       ·have q:=Qb (nef y) q;obtain⟨z,h⟩|⟨z,h⟩:=io h
        ·cases h
        have⟨t22,G,h⟩:=bo h;have q:=Qb (QoJ G) (Qb (jEj z) q);let o l:=o (.ret (.lst false 5 t22)::l);have⟨u,h23,h⟩:=bo h;obtain u|u:=u
        ·unfold QmG at h;have⟨a,h24,h⟩:=bo h;obtain⟨g,h⟩|⟨g,h⟩:=io h
         ·have⟨t26,i,h⟩:=bo h;have⟨t27,h27,h⟩:=bo h;obtain⟨j,h⟩|⟨j,h⟩:=io h
          ·obtain⟨b,h⟩|⟨b,h⟩:=io h
           ·have⟨t30,k,h⟩:=bo h;obtain⟨m,h⟩|⟨m,h⟩:=io h
            ·obtain⟨c,h⟩|⟨c,h⟩:=io h
             ·cases h
             have⟨t33,p,h⟩:=bo h;have⟨t34,h34,h⟩:=bo h;have⟨t35,h35,h⟩:=bo h;obtain⟨s,h⟩|⟨s,h⟩:=io h
             ·obtain⟨e,h⟩|⟨e,h⟩:=io h
              ·obtain⟨f,h⟩|⟨f,h⟩:=io h
               ·have⟨t39,t,h⟩:=bo h;obtain rfl:=oi h;exact rf (o [.lp [] [14,17,19,21,24,25,169,170,171] [82,83,84,92,93,94,138,158,159] (.exit 2) [(14,.d (.lst false 5 t9.1)),(17,.ptr 82 0 0 0 0),(19,.d (.lst false 1 t17.1)),(21,.ptr 138 0 0 0 0),(24,.ptr 158 0 0 0 0),(25,.ptr 159 0 0 0 0)] [(82,.box (.agg [.own 83 0,.own 84 0,.d (I t10.2.2.2.1),.d (I t10.2.2.2.2.1),.d (B t10.2.2.2.2.2.1),.d (B t10.2.2.2.2.2.2.1),.d (I t10.2.2.2.2.2.2.2.1),.d (I t10.2.2.2.2.2.2.2.2.1),.d (I t10.2.2.2.2.2.2.2.2.2.1),.own 92 0,.own 93 0,.own 94 0])),(83,.row 0 5 t10.2.1),(84,.row 0 5 t10.2.2.1),(92,.row 0 1 t10.2.2.2.2.2.2.2.2.2.2.1),(93,.row 0 6 t10.2.2.2.2.2.2.2.2.2.2.2.1),(94,.row 0 7 t10.2.2.2.2.2.2.2.2.2.2.2.2),(138,.box (.d (.agg [I t18.1,I t18.2.1,B t18.2.2.1,B t18.2.2.2.1,I t18.2.2.2.2.1,I t18.2.2.2.2.2.1,I t18.2.2.2.2.2.2.1,.lst false 1 t18.2.2.2.2.2.2.2.1,.lst false 6 t18.2.2.2.2.2.2.2.2.1,.lst false 7 t18.2.2.2.2.2.2.2.2.2.1]))),(158,.box (.d gLD)),(159,.box (.d (.agg [I 0,I 100,.lst true 0 []])))] 295,.ix (-17),.no,.ret (.tup [.agg [I a.1,I a.2.1,.lst false 6 a.2.2.1],I a.2.2.2]),b0,.ret (.tup [.lst false 1 t26.1,I t26.2]),.ret (.tup [B t27.1,I t27.2]),b0,b0,.ret (B t30),b0,b0,.lp [] [14,17,19,45,308,309,310] [82,83,84,92,93,94] (.exit 9) [(17,.ptr 82 0 0 0 0),(19,.d (.lst false 1 t17.1)),(45,.d (I t33))] [(82,.box (.agg [.own 83 0,.own 84 0,.d (I t10.2.2.2.1),.d (I t10.2.2.2.2.1),.d (B t10.2.2.2.2.2.1),.d (B t10.2.2.2.2.2.2.1),.d (I t10.2.2.2.2.2.2.2.1),.d (I t10.2.2.2.2.2.2.2.2.1),.d (I t10.2.2.2.2.2.2.2.2.2.1),.own 92 0,.own 93 0,.own 94 0])),(83,.row 0 5 t10.2.1),(84,.row 0 5 t10.2.2.1),(92,.row 0 1 t10.2.2.2.2.2.2.2.2.2.2.1),(93,.row 0 6 t10.2.2.2.2.2.2.2.2.2.2.2.1),(94,.row 0 7 t10.2.2.2.2.2.2.2.2.2.2.2.2)] 380,.obj (some 82) (.d (.tup [Qe t34.1,I t34.2])) (Qa' t10.2) Zj,.lp [] [19,45,50,51,52,332,333,334] [] (.exit 11) [(19,.d (.lst false 1 t17.1)),(45,.d (I t33)),(50,.d (Qe t34.1)),(51,.d (I t34.2)),(52,.d (Qe t35))] [] 417,b1,b1,b1,.ret (B t39)]) (Qb (QnB t) (Qb f (Qb (eqt e) (Qb (eqt s) (Qb (QE QnJ h35) (Qb (Qo h34) (Qb (QE QnK p) (Qb (Zy c) (Qb (zV m) (Qb (QnH k) (Qb (nef b) (Qb (nef j) (Qb (QoT h27) (Qb (Qpd i) (Qb (nef g) (Qb (((Qpc h24).le (.cons (.refl _) (.cons (.aggs (.cons (.refl _) (.cons (.refl _) (.cons (.nilF) (.nil))))) (.cons (.refl _) (.nil)))) (.refl _)):Computes cx 17 [gLD,.agg [I 0,I 100,.lst true 0 []],.lst false 1 [.lst true 0 [],.lst true 0 [],.lst true 0 [],.lst true 0 [],.lst true 0 [],.lst true 0 [],.lst true 0 [],.lst true 0 []]] (.tup [.agg [I a.1,I a.2.1,.lst false 6 a.2.2.1],I a.2.2.2])) (Qb (QE QnL h23) q)))))))))))))))))
               cases h
              cases h
             cases h
            cases h
           cases h
          cases h
         cases h
        unfold QmG at h;have⟨a,h24,h⟩:=bo h;obtain⟨g,h⟩|⟨g,h⟩:=io h
        ·have⟨t26,i,h⟩:=bo h;have⟨t27,h27,h⟩:=bo h;obtain⟨j,h⟩|⟨j,h⟩:=io h
         ·obtain⟨b,h⟩|⟨b,h⟩:=io h
          ·have⟨t30,k,h⟩:=bo h;obtain⟨m,h⟩|⟨m,h⟩:=io h
           ·obtain⟨c,h⟩|⟨c,h⟩:=io h
            ·cases h
            have⟨t33,p,h⟩:=bo h;have⟨t34,h34,h⟩:=bo h;have⟨t35,h35,h⟩:=bo h;obtain⟨s,h⟩|⟨s,h⟩:=io h
            ·obtain⟨e,h⟩|⟨e,h⟩:=io h
             ·obtain⟨f,h⟩|⟨f,h⟩:=io h
              ·have⟨t39,t,h⟩:=bo h;obtain rfl:=oi h;exact rf (o [.lp [] [14,17,19,21,24,25,169,170,171] [82,83,84,92,93,94,138,158,159] (.exit 2) [(14,.d (.lst false 5 t9.1)),(17,.ptr 82 0 0 0 0),(19,.d (.lst false 1 t17.1)),(21,.ptr 138 0 0 0 0),(24,.ptr 158 0 0 0 0),(25,.ptr 159 0 0 0 0)] [(82,.box (.agg [.own 83 0,.own 84 0,.d (I t10.2.2.2.1),.d (I t10.2.2.2.2.1),.d (B t10.2.2.2.2.2.1),.d (B t10.2.2.2.2.2.2.1),.d (I t10.2.2.2.2.2.2.2.1),.d (I t10.2.2.2.2.2.2.2.2.1),.d (I t10.2.2.2.2.2.2.2.2.2.1),.own 92 0,.own 93 0,.own 94 0])),(83,.row 0 5 t10.2.1),(84,.row 0 5 t10.2.2.1),(92,.row 0 1 t10.2.2.2.2.2.2.2.2.2.2.1),(93,.row 0 6 t10.2.2.2.2.2.2.2.2.2.2.2.1),(94,.row 0 7 t10.2.2.2.2.2.2.2.2.2.2.2.2),(138,.box (.d (.agg [I t18.1,I t18.2.1,B t18.2.2.1,B t18.2.2.2.1,I t18.2.2.2.2.1,I t18.2.2.2.2.2.1,I t18.2.2.2.2.2.2.1,.lst false 1 t18.2.2.2.2.2.2.2.1,.lst false 6 t18.2.2.2.2.2.2.2.2.1,.lst false 7 t18.2.2.2.2.2.2.2.2.2.1]))),(158,.box (.d gLD)),(159,.box (.d (.agg [I u.1,I u.2.1,.lst false 6 u.2.2])))] 295,.ix (-17),.no,.ret (.tup [.agg [I a.1,I a.2.1,.lst false 6 a.2.2.1],I a.2.2.2]),b0,.ret (.tup [.lst false 1 t26.1,I t26.2]),.ret (.tup [B t27.1,I t27.2]),b0,b0,.ret (B t30),b0,b0,.lp [] [14,17,19,45,308,309,310] [82,83,84,92,93,94] (.exit 9) [(17,.ptr 82 0 0 0 0),(19,.d (.lst false 1 t17.1)),(45,.d (I t33))] [(82,.box (.agg [.own 83 0,.own 84 0,.d (I t10.2.2.2.1),.d (I t10.2.2.2.2.1),.d (B t10.2.2.2.2.2.1),.d (B t10.2.2.2.2.2.2.1),.d (I t10.2.2.2.2.2.2.2.1),.d (I t10.2.2.2.2.2.2.2.2.1),.d (I t10.2.2.2.2.2.2.2.2.2.1),.own 92 0,.own 93 0,.own 94 0])),(83,.row 0 5 t10.2.1),(84,.row 0 5 t10.2.2.1),(92,.row 0 1 t10.2.2.2.2.2.2.2.2.2.2.1),(93,.row 0 6 t10.2.2.2.2.2.2.2.2.2.2.2.1),(94,.row 0 7 t10.2.2.2.2.2.2.2.2.2.2.2.2)] 380,.obj (some 82) (.d (.tup [Qe t34.1,I t34.2])) (Qa' t10.2) Zj,.lp [] [19,45,50,51,52,332,333,334] [] (.exit 11) [(19,.d (.lst false 1 t17.1)),(45,.d (I t33)),(50,.d (Qe t34.1)),(51,.d (I t34.2)),(52,.d (Qe t35))] [] 417,b1,b1,b1,.ret (B t39)]) (Qb (QnB t) (Qb f (Qb (eqt e) (Qb (eqt s) (Qb (QE QnJ h35) (Qb (Qo h34) (Qb (QE QnK p) (Qb (Zy c) (Qb (zV m) (Qb (QnH k) (Qb (nef b) (Qb (nef j) (Qb (QoT h27) (Qb (Qpd i) (Qb (nef g) (Qb (Qpc h24) (Qb (QE QnL h23) q)))))))))))))))))
              cases h
             cases h
            cases h
           cases h
          cases h
         cases h
        cases h
       cases h
      cases h
     cases h
    cases h
   have q:=Qb (net H) q;let o l:=o (b1::b0::b0::.no::b0::b1::l);obtain⟨w,h⟩|⟨w,h⟩:=io h
   ·have q:=Qb (nef w) q;obtain⟨x,h⟩|⟨x,h⟩:=io h
    ·have q:=Qb (nef x) q;obtain⟨A,h⟩|⟨A,h⟩:=io h
     ·cases h
     have⟨h15,h⟩:=gd h;have⟨t16,C,h⟩:=bo h;have q:=Qb (QoK C) (Qb h15 (Qb (jEj A) q));obtain⟨E,h⟩|⟨E,h⟩:=io h
     ·have⟨t18,h18,h⟩:=bo h;have⟨t19,F,h⟩:=bo h;have q:=Qb (Qlt F) (Qb (Qp1 h18) (Qb (zV E) q));let o l:=o (.ret (B t16)::b0::.ret (.tup [.lst false 1 t18.1,I t18.2])::.ret (.tup [.agg [I t19.1,I t19.2.1,B t19.2.2.1,B t19.2.2.2.1,I t19.2.2.2.2.1,I t19.2.2.2.2.2.1,I t19.2.2.2.2.2.2.1,.lst false 1 t19.2.2.2.2.2.2.2.1,.lst false 6 t19.2.2.2.2.2.2.2.2.1,.lst false 7 t19.2.2.2.2.2.2.2.2.2.1],I t19.2.2.2.2.2.2.2.2.2.2.1,I t19.2.2.2.2.2.2.2.2.2.2.2])::b0::b0::b0::b1::l);obtain⟨y,h⟩|⟨y,h⟩:=io h
      ·have q:=Qb (nef y) q;obtain⟨z,h⟩|⟨z,h⟩:=io h
       ·have q:=Qb (nef z) q;obtain⟨G,h⟩|⟨G,h⟩:=io h
        ·cases h
        have⟨u,h23,h⟩:=bo h;have q:=Qb (QoJ h23) (Qb (jEj G) q);let o l:=o (.ret (.lst false 5 u)::l);have⟨a,h24,h⟩:=bo h;obtain a|a:=a
        ·unfold QmG at h;have⟨t25,g,h⟩:=bo h;obtain⟨i,h⟩|⟨i,h⟩:=io h
         ·have⟨t27,h27,h⟩:=bo h;have⟨t28,j,h⟩:=bo h;obtain⟨b,h⟩|⟨b,h⟩:=io h
          ·obtain⟨k,h⟩|⟨k,h⟩:=io h
           ·have⟨t31,m,h⟩:=bo h;obtain⟨c,h⟩|⟨c,h⟩:=io h
            ·obtain⟨p,h⟩|⟨p,h⟩:=io h
             ·cases h
             have⟨t34,h34,h⟩:=bo h;have⟨t35,h35,h⟩:=bo h;have⟨t36,s,h⟩:=bo h;obtain⟨e,h⟩|⟨e,h⟩:=io h
             ·obtain⟨f,h⟩|⟨f,h⟩:=io h
              ·obtain⟨t,h⟩|⟨t,h⟩:=io h
               ·have⟨t40,h40,h⟩:=bo h;obtain rfl:=oi h;exact rf (o [.lp [] [14,17,19,21,24,25,169,170,171] [82,83,84,92,93,94,138,158,159] (.exit 2) [(14,.d (.lst false 5 t9.1)),(17,.ptr 82 0 0 0 0),(19,.d (.lst false 1 t18.1)),(21,.ptr 138 0 0 0 0),(24,.ptr 158 0 0 0 0),(25,.ptr 159 0 0 0 0)] [(82,.box (.agg [.own 83 0,.own 84 0,.d (I t10.2.2.2.1),.d (I t10.2.2.2.2.1),.d (B t10.2.2.2.2.2.1),.d (B t10.2.2.2.2.2.2.1),.d (I t10.2.2.2.2.2.2.2.1),.d (I t10.2.2.2.2.2.2.2.2.1),.d (I t10.2.2.2.2.2.2.2.2.2.1),.own 92 0,.own 93 0,.own 94 0])),(83,.row 0 5 t10.2.1),(84,.row 0 5 t10.2.2.1),(92,.row 0 1 t10.2.2.2.2.2.2.2.2.2.2.1),(93,.row 0 6 t10.2.2.2.2.2.2.2.2.2.2.2.1),(94,.row 0 7 t10.2.2.2.2.2.2.2.2.2.2.2.2),(138,.box (.d (.agg [I t19.1,I t19.2.1,B t19.2.2.1,B t19.2.2.2.1,I t19.2.2.2.2.1,I t19.2.2.2.2.2.1,I t19.2.2.2.2.2.2.1,.lst false 1 t19.2.2.2.2.2.2.2.1,.lst false 6 t19.2.2.2.2.2.2.2.2.1,.lst false 7 t19.2.2.2.2.2.2.2.2.2.1]))),(158,.box (.d gLD)),(159,.box (.d (.agg [I 0,I 100,.lst true 0 []])))] 295,.ix (-17),.no,.ret (.tup [.agg [I t25.1,I t25.2.1,.lst false 6 t25.2.2.1],I t25.2.2.2]),b0,.ret (.tup [.lst false 1 t27.1,I t27.2]),.ret (.tup [B t28.1,I t28.2]),b0,b0,.ret (B t31),b0,b0,.lp [] [14,17,19,45,308,309,310] [82,83,84,92,93,94] (.exit 9) [(17,.ptr 82 0 0 0 0),(19,.d (.lst false 1 t18.1)),(45,.d (I t34))] [(82,.box (.agg [.own 83 0,.own 84 0,.d (I t10.2.2.2.1),.d (I t10.2.2.2.2.1),.d (B t10.2.2.2.2.2.1),.d (B t10.2.2.2.2.2.2.1),.d (I t10.2.2.2.2.2.2.2.1),.d (I t10.2.2.2.2.2.2.2.2.1),.d (I t10.2.2.2.2.2.2.2.2.2.1),.own 92 0,.own 93 0,.own 94 0])),(83,.row 0 5 t10.2.1),(84,.row 0 5 t10.2.2.1),(92,.row 0 1 t10.2.2.2.2.2.2.2.2.2.2.1),(93,.row 0 6 t10.2.2.2.2.2.2.2.2.2.2.2.1),(94,.row 0 7 t10.2.2.2.2.2.2.2.2.2.2.2.2)] 380,.obj (some 82) (.d (.tup [Qe t35.1,I t35.2])) (Qa' t10.2) Zj,.lp [] [19,45,50,51,52,332,333,334] [] (.exit 11) [(19,.d (.lst false 1 t18.1)),(45,.d (I t34)),(50,.d (Qe t35.1)),(51,.d (I t35.2)),(52,.d (Qe t36))] [] 417,b1,b1,b1,.ret (B t40)]) (Qb (QnB h40) (Qb t (Qb (eqt f) (Qb (eqt e) (Qb (QE QnJ s) (Qb (Qo h35) (Qb (QE QnK h34) (Qb (Zy p) (Qb (zV c) (Qb (QnH m) (Qb (nef k) (Qb (nef b) (Qb (QoT j) (Qb (Qpd h27) (Qb (nef i) (Qb (((Qpc g).le (.cons (.refl _) (.cons (.aggs (.cons (.refl _) (.cons (.refl _) (.cons (.nilF) (.nil))))) (.cons (.refl _) (.nil)))) (.refl _)):Computes cx 17 [gLD,.agg [I 0,I 100,.lst true 0 []],.lst false 1 [.lst true 0 [],.lst true 0 [],.lst true 0 [],.lst true 0 [],.lst true 0 [],.lst true 0 [],.lst true 0 [],.lst true 0 []]] (.tup [.agg [I t25.1,I t25.2.1,.lst false 6 t25.2.2.1],I t25.2.2.2])) (Qb (QE QnL h24) q)))))))))))))))))
               cases h
              cases h
             cases h
            cases h
           cases h
          cases h
         cases h
        unfold QmG at h;have⟨t25,g,h⟩:=bo h;obtain⟨i,h⟩|⟨i,h⟩:=io h
        ·have⟨t27,h27,h⟩:=bo h;have⟨t28,j,h⟩:=bo h;obtain⟨b,h⟩|⟨b,h⟩:=io h
         ·obtain⟨k,h⟩|⟨k,h⟩:=io h
          ·have⟨t31,m,h⟩:=bo h;obtain⟨c,h⟩|⟨c,h⟩:=io h
           ·obtain⟨p,h⟩|⟨p,h⟩:=io h
            ·cases h
            have⟨t34,h34,h⟩:=bo h;have⟨t35,h35,h⟩:=bo h;have⟨t36,s,h⟩:=bo h;obtain⟨e,h⟩|⟨e,h⟩:=io h
            ·obtain⟨f,h⟩|⟨f,h⟩:=io h
             ·obtain⟨t,h⟩|⟨t,h⟩:=io h
              ·have⟨t40,h40,h⟩:=bo h;obtain rfl:=oi h;exact rf (o [.lp [] [14,17,19,21,24,25,169,170,171] [82,83,84,92,93,94,138,158,159] (.exit 2) [(14,.d (.lst false 5 t9.1)),(17,.ptr 82 0 0 0 0),(19,.d (.lst false 1 t18.1)),(21,.ptr 138 0 0 0 0),(24,.ptr 158 0 0 0 0),(25,.ptr 159 0 0 0 0)] [(82,.box (.agg [.own 83 0,.own 84 0,.d (I t10.2.2.2.1),.d (I t10.2.2.2.2.1),.d (B t10.2.2.2.2.2.1),.d (B t10.2.2.2.2.2.2.1),.d (I t10.2.2.2.2.2.2.2.1),.d (I t10.2.2.2.2.2.2.2.2.1),.d (I t10.2.2.2.2.2.2.2.2.2.1),.own 92 0,.own 93 0,.own 94 0])),(83,.row 0 5 t10.2.1),(84,.row 0 5 t10.2.2.1),(92,.row 0 1 t10.2.2.2.2.2.2.2.2.2.2.1),(93,.row 0 6 t10.2.2.2.2.2.2.2.2.2.2.2.1),(94,.row 0 7 t10.2.2.2.2.2.2.2.2.2.2.2.2),(138,.box (.d (.agg [I t19.1,I t19.2.1,B t19.2.2.1,B t19.2.2.2.1,I t19.2.2.2.2.1,I t19.2.2.2.2.2.1,I t19.2.2.2.2.2.2.1,.lst false 1 t19.2.2.2.2.2.2.2.1,.lst false 6 t19.2.2.2.2.2.2.2.2.1,.lst false 7 t19.2.2.2.2.2.2.2.2.2.1]))),(158,.box (.d gLD)),(159,.box (.d (.agg [I a.1,I a.2.1,.lst false 6 a.2.2])))] 295,.ix (-17),.no,.ret (.tup [.agg [I t25.1,I t25.2.1,.lst false 6 t25.2.2.1],I t25.2.2.2]),b0,.ret (.tup [.lst false 1 t27.1,I t27.2]),.ret (.tup [B t28.1,I t28.2]),b0,b0,.ret (B t31),b0,b0,.lp [] [14,17,19,45,308,309,310] [82,83,84,92,93,94] (.exit 9) [(17,.ptr 82 0 0 0 0),(19,.d (.lst false 1 t18.1)),(45,.d (I t34))] [(82,.box (.agg [.own 83 0,.own 84 0,.d (I t10.2.2.2.1),.d (I t10.2.2.2.2.1),.d (B t10.2.2.2.2.2.1),.d (B t10.2.2.2.2.2.2.1),.d (I t10.2.2.2.2.2.2.2.1),.d (I t10.2.2.2.2.2.2.2.2.1),.d (I t10.2.2.2.2.2.2.2.2.2.1),.own 92 0,.own 93 0,.own 94 0])),(83,.row 0 5 t10.2.1),(84,.row 0 5 t10.2.2.1),(92,.row 0 1 t10.2.2.2.2.2.2.2.2.2.2.1),(93,.row 0 6 t10.2.2.2.2.2.2.2.2.2.2.2.1),(94,.row 0 7 t10.2.2.2.2.2.2.2.2.2.2.2.2)] 380,.obj (some 82) (.d (.tup [Qe t35.1,I t35.2])) (Qa' t10.2) Zj,.lp [] [19,45,50,51,52,332,333,334] [] (.exit 11) [(19,.d (.lst false 1 t18.1)),(45,.d (I t34)),(50,.d (Qe t35.1)),(51,.d (I t35.2)),(52,.d (Qe t36))] [] 417,b1,b1,b1,.ret (B t40)]) (Qb (QnB h40) (Qb t (Qb (eqt f) (Qb (eqt e) (Qb (QE QnJ s) (Qb (Qo h35) (Qb (QE QnK h34) (Qb (Zy p) (Qb (zV c) (Qb (QnH m) (Qb (nef k) (Qb (nef b) (Qb (QoT j) (Qb (Qpd h27) (Qb (nef i) (Qb (Qpc g) (Qb (QE QnL h24) q)))))))))))))))))
              cases h
             cases h
            cases h
           cases h
          cases h
         cases h
        cases h
       cases h
      cases h
     cases h
    cases h
   cases h
  have⟨t5,h5,h⟩:=bo h;obtain rfl:=oi h;exact rf (o [b1,.ret (B t5)]) (Qb (QnB h5) (Qb (net M) q))
 have⟨t3,h3,h⟩:=bo h;obtain rfl:=oi h;exact rf (o [b1,.ret (B t3)]) (Qb (QnB h3) (Qb (wG (Zy L)) q))
end Go.Proofs.YtmhkcfjajpjigaaGreatDoor
