/- Own texts. -/
import Derived.Test.YthdghjjahodkaaaGreatDoorAn3
set_option linter.unusedSimpArgs false
set_option linter.unusedVariables false
set_option linter.unnecessarySimpa false
set_option maxRecDepth 10000
set_option maxHeartbeats 4000000
namespace Go.Proofs.YthdghjjahodkaaaGreatDoor
open Go.SX
def Yu (n:Nat)(a0 a c d e f g b:Int):Option (Int) := if Qg (a+b) then some (Zv c (a+b)) else none
theorem kp {n a0 a b c d e f g r}(h:Yu n a0 a b c d e f g=some r):Computes cx 56 [.agg [I a0,I a,I b,I c,I d,I e],.agg [I f,I g]] (I r):=by unfold Yu at h;have⟨h1,h⟩:=gd h;cases h;exact rf [] (Qb h1 QA)
def Vl (n:Nat)(a0 b g e h f d c a:Int):Option (Int×Int×Int×Int×Int×Int) := if Qg (b+c) then if Qg ((b+c) - a) then if Qg (d*a) then if Qg (e+(d*a)) then if Qg (((b+c) - a) - (Zv ((b+c) - a) a0)) then if Qg (f+(((b+c) - a) - (Zv ((b+c) - a) a0))) then some (a0,(Zv ((b+c) - a) a0),g,(e+(d*a)),(Zv ((b+c) - a) a0),(f+(((b+c) - a) - (Zv ((b+c) - a) a0)))) else none else none else none else none else none else none
theorem Gp {n a0 a b c d e f g i r}(h:Vl n a0 a b c d e f g i=some r):Computes cx 57 [.agg [I a0,I a,I b,I c,I d,I e],.agg [I f,I g],I i] (.agg [I r.1,I r.2.1,I r.2.2.1,I r.2.2.2.1,I r.2.2.2.2.1,I r.2.2.2.2.2]):=by unfold Vl at h;have⟨h1,h⟩:=gd h;have⟨h2,h⟩:=gd h;have⟨h3,h⟩:=gd h;have⟨h4,h⟩:=gd h;have⟨h5,h⟩:=gd h;have⟨h6,h⟩:=gd h;cases h;exact rf [] (Qb h6 (Qb h5 (Qb h4 (Qb h3 (Qb h2 (Qb h1 QA))))))
def V0 (n:Nat)(a0 b d a c e:Int):Option (Bool) := if a0>a then some true else if a0=a then some (decide (b>c)) else some false
theorem wm {n a0 c d e f g r}(h:V0 n a0 c d e f g=some r):Computes cx 58 [.agg [I a0,I c,I d],.agg [I e,I f,I g]] (B r):=by
 unfold V0 at h;obtain⟨a,h⟩|⟨a,h⟩:=io h
 ·obtain rfl:=oi h;exact rf [b1] (Qb (jDj a) QA)
 have q:=Qb (jEj a) QA;obtain⟨b,h⟩|⟨b,h⟩:=io h
 ·cases h;exact rf [b0,b1] (Qb (eqt b) q)
 obtain rfl:=oi h;exact rf [b0,b0] (Qb (eqf b) q)
def W1 (n:Nat)(a0 g d:Int)(h:jVj)(e i:Int)(l:jVj)(j:Vd)(t4:Int×Int)(k:Int)(c:(Unit)⊕Int×jVj×jVj×Int×Int×Int):Option ((Unit⊕Int×jVj×jVj×Int×Int×Int)⊕Unit⊕jVj×jVj×Int×Int×Int):=match c with|(.inl c)=>(if 0<(k+1) then(Vl n a0 i d 0 0 0 t4.1 t4.2 0).bind fun b=>if Qg (e+1) then(j a0 g d h (e+1) b.2.1 l).bind fun a=>if Qg (b.2.2.2.1+a.2.1) then if Qg (b.2.2.2.2.2+a.2.2.2.1) then if Wi 8 (1+(a.1).length) then if Vk a.1=true then some (.inl (.inr (1,a.2.2.2.2,[I 0],(b.2.2.2.1+a.2.1),a.2.2.1,(b.2.2.2.2.2+a.2.2.2.1)))) else some (.inl (.inr (1,a.2.2.2.2,(I 0::a.1),(b.2.2.2.1+a.2.1),a.2.2.1,(b.2.2.2.2.2+a.2.2.2.1)))) else none else none else none else none else some (.inr (.inl ())))|.inr c=>(if c.1<(k+1) then(Vl n a0 i d 0 0 0 t4.1 t4.2 c.1).bind fun b=>if Qg (e+1) then(j a0 g d h (e+1) b.2.1 c.2.1).bind fun a=>if Qg (b.2.2.2.1+a.2.1) then if Qg (b.2.2.2.2.2+a.2.2.2.1) then if ¬(Vk c.2.2.1=true) then(V0 n (b.2.2.2.1+a.2.1) a.2.2.1 (b.2.2.2.2.2+a.2.2.2.1) c.2.2.2.1 c.2.2.2.2.1 c.2.2.2.2.2).bind fun f=>if f=true then if Wi 8 (1+(a.1).length) then if Vk a.1=true then if Qg (c.1+1) then some (.inl (.inr ((c.1+1),a.2.2.2.2,[I c.1],(b.2.2.2.1+a.2.1),a.2.2.1,(b.2.2.2.2.2+a.2.2.2.1)))) else none else if Qg (c.1+1) then some (.inl (.inr ((c.1+1),a.2.2.2.2,(I c.1::a.1),(b.2.2.2.1+a.2.1),a.2.2.1,(b.2.2.2.2.2+a.2.2.2.1)))) else none else none else if Qg (c.1+1) then some (.inl (.inr ((c.1+1),a.2.2.2.2,c.2.2.1,c.2.2.2.1,c.2.2.2.2.1,c.2.2.2.2.2))) else none else none else none else none else none else some (.inr (.inr (c.2.1,c.2.2.1,c.2.2.2.1,c.2.2.2.2.1,c.2.2.2.2.2))))
noncomputable def kN (a0 c a:Int)(f:jVj)(g b:Int)(h:jVj)(j:Vd)(t4:Int×Int)(i:Int):Lp (Unit⊕Int×jVj×jVj×Int×Int×Int) (Unit⊕jVj×jVj×Int×Int×Int):=⟨fun
 | (.inl sa)=>[(2,.ptr 1 0 0 0 0),(3,.ptr 2 0 0 0 0),(4,.ptr 3 0 0 0 0),(7,.ptr 27 0 0 0 0),(8,.ptr 40 0 0 0 0),(9,.ptr 42 0 0 0 0),(53,.d (I (i+1))),(54,.d (I 0))]
 | (.inr sa)=>[(2,.ptr 1 0 0 0 0),(3,.ptr 2 0 0 0 0),(4,.ptr 3 0 0 0 0),(7,.ptr 27 0 0 0 0),(8,.ptr 40 0 0 0 0),(9,.ptr 42 0 0 0 0),(53,.d (I (i+1))),(54,.d (I sa.1))],fun
 | (.inl sa)=>[(0,.mp h),(1,.box (.agg [.d (I a0),.d (I c),.d (I a),.d (.lst false 2 f),.own 0 0])),(2,.box (.d (.agg [I g,I b]))),(3,.box (.agg [.d (.v (.slice none 0 0)),.d (I 0),.d (I 0),.d (I 0)])),(27,.box (.d (.agg [I t4.1,I t4.2]))),(40,.box (.d (.agg [I a0,I b,I a,I 0,I 0,I 0]))),(42,.box (.agg [.d (.v (.slice none 0 0)),.d (I 0),.d (I 0),.d (I 0)]))]
 | (.inr sa)=>[(0,.mp sa.2.1),(1,.box (.agg [.d (I a0),.d (I c),.d (I a),.d (.lst false 2 f),.own 0 0])),(2,.box (.d (.agg [I g,I b]))),(3,.box (.agg [.d (.v (.slice none 0 0)),.d (I 0),.d (I 0),.d (I 0)])),(27,.box (.d (.agg [I t4.1,I t4.2]))),(40,.box (.d (.agg [I a0,I b,I a,I 0,I 0,I 0]))),(42,.box (.d (.agg [.lst false 1 sa.2.2.1,I sa.2.2.2.1,I sa.2.2.2.2.1,I sa.2.2.2.2.2])))],fun _=>(.exit 0),fun _=>[(2,.ptr 1 0 0 0 0),(3,.ptr 2 0 0 0 0),(4,.ptr 3 0 0 0 0),(9,.ptr 42 0 0 0 0)],fun
 | (.inl e)=>[(0,.mp h),(1,.box (.agg [.d (I a0),.d (I c),.d (I a),.d (.lst false 2 f),.own 0 0])),(2,.box (.d (.agg [I g,I b]))),(3,.box (.agg [.d (.v (.slice none 0 0)),.d (I 0),.d (I 0),.d (I 0)])),(42,.box (.agg [.d (.v (.slice none 0 0)),.d (I 0),.d (I 0),.d (I 0)]))]
 | (.inr e)=>[(0,.mp e.1),(1,.box (.agg [.d (I a0),.d (I c),.d (I a),.d (.lst false 2 f),.own 0 0])),(2,.box (.d (.agg [I g,I b]))),(3,.box (.agg [.d (.v (.slice none 0 0)),.d (I 0),.d (I 0),.d (I 0)])),(42,.box (.d (.agg [.lst false 1 e.2.1,I e.2.2.1,I e.2.2.2.1,I e.2.2.2.2])))]⟩
theorem kI {n:Nat}{a0 i j:Int}{k:jVj}{m t:Int}{p:jVj}{s:Vd}{t4:Int×Int}{v:Int}(u:Ew s)(g:(Unit)⊕Int×jVj×jVj×Int×Int×Int)(r)(h:W1 n a0 i j k m t p s t4 v g=some r):Rl (Zt cx.P 23 0) 110 1 false (kN a0 i j k m t p s t4 v) g r:=by
 unfold W1 at h;obtain g|g:=g
 ·obtain⟨a,h⟩|⟨a,h⟩:=io h
  ·have⟨ta2,ha2,h⟩:=bo h;have⟨ha3,h⟩:=gd h;have⟨ta4,ha4,h⟩:=bo h;have⟨ha5,h⟩:=gd h;have⟨ha6,h⟩:=gd h;have⟨ha7,h⟩:=gd h;have q:=Qb (ro 3 ha7) (Qb ha6 (Qb ha5 (Qb ((u ha4):jo cx 23 [.agg [.d (I a0),.d (I i),.d (I j),.d (.lst false 2 k),.own 0 0],.d (.agg [I (m+1),I ta2.2.1])] p (.agg [.lst false 1 ta4.1,I ta4.2.1,I ta4.2.2.1,I ta4.2.2.2.1]) ta4.2.2.2.2) (Qb ha3 (Qb (Gp ha2) (Qb (jDj a) QA))))));let o(l:jOj):=b1::.ret (.agg [I ta2.1,I ta2.2.1,I ta2.2.2.1,I ta2.2.2.2.1,I ta2.2.2.2.2.1,I ta2.2.2.2.2.2])::.ix (-15)::.ix (-12)::.obj (some 0) (.d (.agg [.lst false 1 ta4.1,I ta4.2.1,I ta4.2.2.1,I ta4.2.2.2.1])) [.dat (.mp ta4.2.2.2.2)] []::.ix (-15)::.ix (-12)::.ix (-15)::.no::.no::.ix (-12)::b1::l;obtain⟨c,h⟩|⟨c,h⟩:=io h
   ·cases h;exact rn 48 (o [b1,.ix (-12)]) [] [2,3,4,7,8,9,53,54] [0,1,2,3,27,40,42] (Qb ((by unfold Qg;omega):Qg 1) (Qb c q))
   cases h;exact rn 48 (o [b0,.ix 0,.ix (-12)]) [] [2,3,4,7,8,9,53,54] [0,1,2,3,27,40,42] (Qb ((by unfold Qg;omega):Qg 1) (Qb (Zy c) q))
  cases h;exact rx 48 [b0] [] [2,3,4,9] [0,1,2,3,42] (Qb (jEj a) QA)
 ·obtain⟨a,h⟩|⟨a,h⟩:=io h
  ·have⟨ta2,ha2,h⟩:=bo h;have⟨ha3,h⟩:=gd h;have⟨ta4,ha4,h⟩:=bo h;have⟨ha5,h⟩:=gd h;have⟨ha6,h⟩:=gd h;have⟨ha7,h⟩:=gd h;have⟨ta8,c,h⟩:=bo h;have q:=Qb (wm c) (Qb ((by intro e;rw[e] at ha7;exact ha7 rfl):g.2.2.1≠[]) (Qb ha6 (Qb ha5 (Qb ((u ha4):jo cx 23 [.agg [.d (I a0),.d (I i),.d (I j),.d (.lst false 2 k),.own 0 0],.d (.agg [I (m+1),I ta2.2.1])] g.2.1 (.agg [.lst false 1 ta4.1,I ta4.2.1,I ta4.2.2.1,I ta4.2.2.2.1]) ta4.2.2.2.2) (Qb ha3 (Qb (Gp ha2) (Qb (jDj a) QA)))))));let o(l:jOj):=b1::.ret (.agg [I ta2.1,I ta2.2.1,I ta2.2.2.1,I ta2.2.2.2.1,I ta2.2.2.2.2.1,I ta2.2.2.2.2.2])::.ix (-15)::.ix (-12)::.obj (some 0) (.d (.agg [.lst false 1 ta4.1,I ta4.2.1,I ta4.2.2.1,I ta4.2.2.2.1])) [.dat (.mp ta4.2.2.2.2)] []::.ix (-15)::.ix (-12)::.ix (-15)::.no::.ret (B ta8)::l;obtain⟨f,h⟩|⟨f,h⟩:=io h
   ·have⟨ha10,h⟩:=gd h;have q:=Qb (ro 3 ha10) (Qb f q);let o l:=o (b1::.ix (-12)::b1::l);obtain⟨b,h⟩|⟨b,h⟩:=io h
    ·have⟨ha12,h⟩:=gd h;cases h;exact rn 48 (o [b1,.ix (-12)]) [] [2,3,4,7,8,9,53,54] [0,1,2,3,27,40,42] (Qb ha12 (Qb b q))
    have⟨ha12,h⟩:=gd h;cases h;exact rn 48 (o [b0,.ix 0,.ix (-12)]) [] [2,3,4,7,8,9,53,54] [0,1,2,3,27,40,42] (Qb ha12 (Qb (Zy b) q))
   have⟨ha10,h⟩:=gd h;cases h;exact rn 48 (o [b0]) [] [2,3,4,7,8,9,53,54] [0,1,2,3,27,40,42] (Qb ha10 (Qb (Zy f) q))
  cases h;exact rx 48 [b0] [] [2,3,4,9] [0,1,2,3,42] (Qb (jEj a) QA)
def Uz (n:Nat)(a0 h f:Int)(e:jVj)(b c:Int)(d:jVj)(i:Vd):Option (jVj×Int×Int×Int×jVj) := if b=((e).length:Int) then some ([],0,c,0,d) else if mok (.agg #[.int .i64 b,.int .i64 c]) (d:jVj)=true then if(W5 (.agg #[.int .i64 b,.int .i64 c]) (d:jVj)).isSome=true then((W5 (.agg #[.int .i64 b,.int .i64 c]) (d:jVj)).bind ju).bind fun t4=>some (t4.1,t4.2.1,t4.2.2.1,t4.2.2.2,d) else(el UX e b).bind fun t4=>(Yu n a0 c f 0 0 0 t4.1 t4.2).bind fun g=>if Qg (g+1) then(QU (W1 n a0 h f e b c d i t4 g) n (.inl ())).bind fun a=>match a with|.inl a=>(none)|.inr a=>(if mok (.agg #[.int .i64 b,.int .i64 c]) (a.1:jVj)=true then some (a.2.1,a.2.2.1,a.2.2.2.1,a.2.2.2.2,(E7 (.agg #[.int .i64 b,.int .i64 c]) (.agg [.lst false 1 a.2.1,I a.2.2.1,I a.2.2.2.1,I a.2.2.2.2]) (a.1:jVj))) else none) else none else none
theorem QaQ {n:Nat}{a0 j i:Int}{e:jVj}{b c:Int}{g:jVj}{p:Vd}{r:jVj×Int×Int×Int×jVj}(y:Ew p)(h:Uz n a0 j i e b c g p=some r):jo cx 23 [.agg [.d (I a0),.d (I j),.d (I i),.d (.lst false 2 e),.own 0 0],.d (.agg [I b,I c])] g (.agg [.lst false 1 r.1,I r.2.1,I r.2.2.1,I r.2.2.2.1]) r.2.2.2.2:=by
 unfold Uz at h;by_cases k:b=((e).length:Int)
 ·replace h:=U7 h k;replace h:=Option.some.inj h;subst h;exact runM (n:=100) (f:=23) (xs:=[.agg [.d (I a0),.d (I j),.d (I i),.d (.lst false 2 e),.own 0 0],.d (.agg [I b,I c])]) (es:=g) (orc:=[.ix (-15),.br true,.ix (-12),.ix (-12)]) (r:=.agg [.lst false 1 [],I 0,I c,I 0]) (es':=g) (ob:=[(b==((e).length:Int))=true]) (by kernel_rfl) ⟨(eqt k),trivial⟩
 ·replace h:=U8 h k;obtain⟨q,h⟩:=Qcn h;by_cases o:(W5 (.agg #[.int .i64 b,.int .i64 c]) (g:jVj)).isSome=true
  ·replace h:=U7 h o;obtain⟨t4,l,h⟩:=Wh h;replace h:=Option.some.inj h;subst h;exact runM (n:=100) (f:=23) (xs:=[.agg [.d (I a0),.d (I j),.d (I i),.d (.lst false 2 e),.own 0 0],.d (.agg [I b,I c])]) (es:=g) (orc:=[.ix (-15),.br false,.el (.tup [.agg [.lst false 1 t4.1,I t4.2.1,I t4.2.2.1,I t4.2.2.2],B true]),.ix (-15),.no]) (r:=.agg [.lst false 1 t4.1,I t4.2.1,I t4.2.2.1,I t4.2.2.2]) (es':=g) (ob:=[YX true (.agg #[.int .i64 b,.int .i64 c]) (.agg [.lst true 0 [],I 0,I 0,I 0]) (g:jVj)=some (.tup [.agg [.lst false 1 t4.1,I t4.2.1,I t4.2.2.1,I t4.2.2.2],B true]),(b==((e).length:Int))=false]) (by kernel_rfl) ⟨(qU q (Qch QbR l)),(eqf k),trivial⟩
  ·replace h:=U8 h o;obtain⟨t4,l,h⟩:=Wh h;obtain⟨m,s,h⟩:=Wh h;obtain⟨t,h⟩:=Qcn h;obtain⟨a,u,h⟩:=Wh h;obtain a|a:=a
   ·cases h
   ·obtain⟨x,h⟩:=Qcn h;replace h:=Option.some.inj h;subst h;exact runM (n:=100) (f:=23) (xs:=[.agg [.d (I a0),.d (I j),.d (I i),.d (.lst false 2 e),.own 0 0],.d (.agg [I b,I c])]) (es:=g) (orc:=[.ix (-15),.br false,.el (.tup [.agg [.lst true 0 [],I 0,I 0,I 0],B false]),.ix (-15),.no,.el (Ux t4),.ix (-15),.ix (-12),.ix (-12),.ix (-12),.ix (-15),.ix (-15),.ret (I m),.lp [] [2,3,4,7,8,9,53,54] [0,1,2,3,27,40,42] (.exit 0) [(2,.ptr 1 0 0 0 0),(3,.ptr 2 0 0 0 0),(4,.ptr 3 0 0 0 0),(9,.ptr 42 0 0 0 0)] [(0,.mp a.1),(1,.box (.agg [.d (I a0),.d (I j),.d (I i),.d (.lst false 2 e),.own 0 0])),(2,.box (.d (.agg [I b,I c]))),(3,.box (.agg [.d (.v (.slice none 0 0)),.d (I 0),.d (I 0),.d (I 0)])),(42,.box (.d (.agg [.lst false 1 a.2.1,I a.2.2.1,I a.2.2.2.1,I a.2.2.2.2])))] 118,.br true]) (r:=.agg [.lst false 1 a.2.1,I a.2.2.1,I a.2.2.2.1,I a.2.2.2.2]) (es':=(E7 (.agg #[.int .i64 b,.int .i64 c]) (.agg [.lst false 1 a.2.1,I a.2.2.1,I a.2.2.2.1,I a.2.2.2.2]) (a.1:jVj))) (ob:=[mok (.agg #[.int .i64 b,.int .i64 c]) (a.1:jVj)=true,QaA cx (Zt cx.P 23 0) 110 1 false [(2,.ptr 1 0 0 0 0),(3,.ptr 2 0 0 0 0),(4,.ptr 3 0 0 0 0),(7,.ptr 27 0 0 0 0),(8,.ptr 40 0 0 0 0),(9,.ptr 42 0 0 0 0),(53,.d (I (m+1))),(54,.d (I 0))] [(0,.mp g),(1,.box (.agg [.d (I a0),.d (I j),.d (I i),.d (.lst false 2 e),.own 0 0])),(2,.box (.d (.agg [I b,I c]))),(3,.box (.agg [.d (.v (.slice none 0 0)),.d (I 0),.d (I 0),.d (I 0)])),(27,.box (.d (.agg [I t4.1,I t4.2]))),(40,.box (.d (.agg [I a0,I c,I i,I 0,I 0,I 0]))),(42,.box (.agg [.d (.v (.slice none 0 0)),.d (I 0),.d (I 0),.d (I 0)]))] (.exit 0) [(2,.ptr 1 0 0 0 0),(3,.ptr 2 0 0 0 0),(4,.ptr 3 0 0 0 0),(9,.ptr 42 0 0 0 0)] [(0,.mp a.1),(1,.box (.agg [.d (I a0),.d (I j),.d (I i),.d (.lst false 2 e),.own 0 0])),(2,.box (.d (.agg [I b,I c]))),(3,.box (.agg [.d (.v (.slice none 0 0)),.d (I 0),.d (I 0),.d (I 0)])),(42,.box (.d (.agg [.lst false 1 a.2.1,I a.2.2.1,I a.2.2.2.1,I a.2.2.2.2])))],Qg (m+1),Computes cx 56 [.agg [I a0,I c,I i,I 0,I 0,I 0],.agg [I t4.1,I t4.2]] (I m),(0:Int)<=b,nth (e) (Int.toNat b)=some (.agg [I t4.1,I t4.2]),YX true (.agg #[.int .i64 b,.int .i64 c]) (.agg [.lst true 0 [],I 0,I 0,I 0]) (g:jVj)=some (.tup [.agg [.lst true 0 [],I 0,I 0,I 0],B false]),(b==((e).length:Int))=false]) (by kernel_rfl) ⟨x,(QE (kI y) u),t,(kp s),(Qf0 Yz l).1,(Qf0 Yz l).2,(Gb q (mno o)),(eqf k),trivial⟩
def K0 (n:Nat):Nat->Vd
 | 0=>fun _ _ _ _ _ _ _=>none
 | k+1=>fun a0 a b c d e f=>Uz n a0 a b c d e f (K0 n k)
def qI (n:Nat):Vd:=K0 n n
theorem EB (n:Nat):∀k,Ew (K0 n k)
 | 0=>fun h=>by cases h
 | k+1=>fun h=>QaQ (EB n k) h
theorem Qed {n a0 a b c e f g r}(h:qI n a0 a b c e f g=some r):jo cx 23 [.agg [.d (I a0),.d (I a),.d (I b),.d (.lst false 2 c),.own 0 0],.d (.agg [I e,I f])] g (.agg [.lst false 1 r.1,I r.2.1,I r.2.2.1,I r.2.2.2.1]) r.2.2.2.2:=EB n n h
def Ys (n:Nat)(a0:jVj):Option (jVj) := if Vk a0=true then none else if Wi 8 (0+(a0).length) then some a0 else none
theorem kj {n a0 r}(h:Ys n a0=some r):Computes cx 24 [.lst false 1 a0] (.lst false 1 r):=by
 unfold Ys at h;obtain⟨a,h⟩|⟨a,h⟩:=io h
 ·cases h
 have⟨h2,h⟩:=gd h;obtain rfl:=oi h;exact rf [.no,.ix (-8),b1] (Qb (ro 3 h2) (Qb ((by intro e;rw[e] at a;exact a rfl):a0≠[]) QA))
def VH (n:Nat)(a0 b c:Int)(d:jVj):Option (jVj×Int×Int×Int×Int) := (V1 n a0 b c d).bind fun t1=>if t1=0 then(qI n a0 b c d 0 b ([])).bind fun a=>(Ys n a.1).bind fun t4=>some (t4,a.2.1,a.2.2.1,a.2.2.2.1,0) else some ([],0,0,0,t1)
theorem Jn {n a0 b c e r}(h:VH n a0 b c e=some r):Computes cx 7 [.agg [I a0,I b,I c],.lst false 2 e] (.tup [.lst false 1 r.1,.agg [I r.2.1,I r.2.2.1,I r.2.2.2.1],I r.2.2.2.2]):=by
 unfold VH at h;have⟨t1,h1,h⟩:=bo h;have q:=Qb (wn h1) QA;obtain⟨a,h⟩|⟨a,h⟩:=io h
 ·have⟨t3,h3,h⟩:=bo h;have⟨t4,h4,h⟩:=bo h;cases h;exact rf [.ret (I t1),b0,.obj (some 12) (.d (.agg [.lst false 1 t3.1,I t3.2.1,I t3.2.2.1,I t3.2.2.2.1])) [.dat (.mp t3.2.2.2.2)] [],.ret (.lst false 1 t4)] (Qb (kj h4) (Qb (Qed h3) (Qb (nef a) q)))
 cases h;exact(rf (r:=.tup [.lst true 0 [],.agg [I 0,I 0,I 0],I t1]) [.ret (I t1),b1] (Qb (net a) q)).le (LEs.refl _) (.tups (.cons (.nilF) (.cons (.refl _) (.cons (.refl _) (.nil)))))
def Yg (n:Nat)(a0:Int):Option (Int) := (Zq n a0 0 30).bind fun t1=>some t1
theorem qy {n a0 r}(h:Yg n a0=some r):Computes cx 139 [I a0] (I r):=by unfold Yg at h;have⟨t1,h1,h⟩:=bo h;obtain rfl:=oi h;exact rf [.ret (I t1)] (Qb (Yh h1) QA)
def Ww (n:Nat)(a0:jVj)(a:(Int×jVj)):Option (Int×jVj⊕jVj) := if a.1<((a0).length:Int) then(el V5 a0 a.1).bind fun b=>(Yg n b).bind fun c=>if Wi 8 ((a.2).length+1) then if Qg (a.1+1) then some (.inl ((a.1+1),(a.2++([I c]:jVj)))) else none else none else some (.inr a.2)
noncomputable def qH (a0:jVj):Lp (Int×jVj) (jVj):=⟨fun a=>[(1,.d (.fn (.func 139) [] [])),(5,.own 5 0),(8,.d (.lst false 1 a0)),(9,.d (I ((a0).length:Int))),(10,.d (I a.1))],fun a=>[(5,.row 0 1 a.2)],fun _=>(.exit 0),fun _=>[(5,.own 5 0)],fun e=>[(5,.row 0 1 e)]⟩
theorem qD {n a0}(b)(r)(h:Ww n a0 b=some r):Rl (Zt cx.P 138 0) 22 0 false (qH a0) b r:=by
 unfold Ww at h;obtain⟨a,h⟩|⟨a,h⟩:=io h
 ·have⟨ta2,ha2,h⟩:=bo h;have⟨ta3,ha3,h⟩:=bo h;have⟨ha4,h⟩:=gd h;have⟨ha5,h⟩:=gd h;cases h;exact rn 6 [b1,.el (Zi ta2),.ret (I ta3),b1] [] [1,5,8,9,10] [5] (Qb ha5 (Qb (ro 34 ha4) (Qb (qy ha3) (Q2 QM ha2 (Qb (jDj a) QA)))))
 cases h;exact rx 6 [b0] [] [5] [5] (Qb (jEj a) QA)
def Yf (n:Nat)(a0:jVj):Option (jVj) := (QU (Ww n a0) n (0,[])).bind fun t1=>some t1
theorem jg {n a0 r}(h:Yf n a0=some r):Computes cx 138 [.lst false 1 a0,.fn (.func 139) [] []] (.lst false 1 r):=by unfold Yf at h;have⟨t1,h1,h⟩:=bo h;obtain rfl:=oi h;exact rf [.lp [5,1] [1,5,8,9,10] [5] (.exit 0) [(5,.own 5 0)] [(5,.row 0 1 t1)] 30] (Qb (QE qD h1) QA)
def VG (n:Nat)(a0 a:jVj):Option (Int) := if((a).length:Int)=((a0).length:Int) then(Yf n a).bind fun t2=>(Qi n t2).bind fun b=>some b else some 2
theorem GZ {n a0 b r}(h:VG n a0 b=some r):Computes cx 48 [.lst false 2 a0,.lst false 1 b] (I r):=by
 unfold VG at h;obtain⟨a,h⟩|⟨a,h⟩:=io h
 ·have⟨t2,h2,h⟩:=bo h;have⟨t3,h3,h⟩:=bo h;obtain rfl:=oi h;exact rf [b0,.ret (.lst false 1 t2),.ret (I t3)] (Qb (Ke h3) (Qb (jg h2) (Qb (nef a) QA)))
 obtain rfl:=oi h;exact rf [b1] (Qb (net a) QA)
def Wg (n:Nat)(a0 f g:jVj)(e:Int)(b:(Int×Int×jVj)):Option (Int×Int×jVj⊕Int×jVj) := if b.2.1<((a0).length:Int) then(el UX a0 b.2.1).bind fun d=>(el V5 g b.2.1).bind fun a=>if Qg (d.1*a) then if Qg (b.1+(d.1*a)) then(el V5 f b.2.1).bind fun c=>if Qg (c - a) then if(c - a)>0 then if Qg (e*(c - a)) then if Qg ((b.1+(d.1*a)) - (e*(c - a))) then if Wi 16 ((b.2.2).length+1) then if Qg (b.2.1+1) then some (.inl (((b.1+(d.1*a)) - (e*(c - a))),(b.2.1+1),(b.2.2++([.agg [I b.2.1,I (c - a)]]:jVj)))) else none else none else none else none else if Qg (b.2.1+1) then some (.inl ((b.1+(d.1*a)),(b.2.1+1),b.2.2)) else none else none else none else none else some (.inr (b.1,b.2.2))
noncomputable def jq (a0 b c:jVj)(f:Int):Lp (Int×Int×jVj) (Int×jVj):=⟨fun a=>[(1,.d (.lst false 1 b)),(2,.d (.lst false 1 c)),(3,.d (I f)),(12,.d (I a.1)),(13,.own 23 0),(32,.d (.lst false 2 a0)),(33,.d (I ((a0).length:Int))),(34,.d (I a.2.1))],fun a=>[(23,.row 0 2 a.2.2)],fun _=>(.exit 0),fun e=>[(12,.d (I e.1)),(13,.own 23 0)],fun e=>[(23,.row 0 2 e.2)]⟩
theorem jn {n a0 c d e}(f)(r)(h:Wg n a0 c d e f=some r):Rl (Zt cx.P 15 0) 73 0 false (jq a0 c d e) f r:=by
 unfold Wg at h;obtain⟨a,h⟩|⟨a,h⟩:=io h
 ·have⟨ta2,ha2,h⟩:=bo h;have⟨ta3,ha3,h⟩:=bo h;have⟨ha4,h⟩:=gd h;have⟨ha5,h⟩:=gd h;have⟨ta6,ha6,h⟩:=bo h;have⟨ha7,h⟩:=gd h;have q:=Qb ha7 (Q2 QM ha3 (Q2 QM ha6 (Qb ha5 (Qb ha4 (Q2 QM ha3 (Q2 Yz ha2 (Qb (jDj a) QA)))))));let o(l:jOj):=b1::.el (Ux ta2)::.el (Zi ta3)::.el (Zi ta6)::.el (Zi ta3)::l;obtain⟨b,h⟩|⟨b,h⟩:=io h
  ·have⟨ha9,h⟩:=gd h;have⟨ha10,h⟩:=gd h;have⟨ha11,h⟩:=gd h;have⟨ha12,h⟩:=gd h;cases h;exact rn 24 (o [b1,b1]) [] [1,2,3,12,13,32,33,34] [23] (Qb ha12 (Qb (ro 58 ha11) (Qb ha10 (Qb ha9 (Qb (jDj b) q)))))
  have⟨ha9,h⟩:=gd h;cases h;exact rn 24 (o [b0]) [] [1,2,3,12,13,32,33,34] [23] (Qb ha9 (Qb (jEj b) q))
 cases h;exact rx 24 [b0] [] [12,13] [23] (Qb (jEj a) QA)
def WO (n:Nat)(a0 a b:jVj)(c:Int):Option (Int×jVj×Int) := (W3 n a0).bind fun t1=>(VG n a0 a).bind fun t2=>(VG n a0 b).bind fun f=>(Zq n c 0 100000).bind fun t4=>(Qi n ([I t1,I t2,I f,I t4])).bind fun d=>if d=0 then(QU (Wg n a0 a b c) n (0,0,[])).bind fun e=>some (e.1,e.2,0) else some (0,[],d)
theorem Y8 {n a0 b c e r}(h:WO n a0 b c e=some r):Computes cx 15 [.lst false 2 a0,.lst false 1 b,.lst false 1 c,I e] (.tup [I r.1,.lst false 2 r.2.1,I r.2.2]):=by
 unfold WO at h;have⟨t1,h1,h⟩:=bo h;have⟨t2,h2,h⟩:=bo h;have⟨t3,h3,h⟩:=bo h;have⟨t4,h4,h⟩:=bo h;have⟨t5,h5,h⟩:=bo h;have q:=Qb (leF (Ke h5)) (Qb (Yh h4) (Qb (GZ h3) (Qb (GZ h2) (Qb (Ji h1) QA))));let o(l:jOj):=.ret (I t1)::.ret (I t2)::.ret (I t3)::.ret (I t4)::.ret (I t5)::l;obtain⟨a,h⟩|⟨a,h⟩:=io h
 ·have⟨t7,h7,h⟩:=bo h;cases h;exact rf (o [b0,.lp [13,2] [1,2,3,12,13,32,33,34] [23] (.exit 0) [(12,.d (I t7.1)),(13,.own 23 0)] [(23,.row 0 2 t7.2)] 79]) (Qb (QE jn h7) (Qb (nef a) q))
 cases h;exact(rf (r:=.tup [I 0,.lst true 0 [],I t5]) (o [b1]) (Qb (net a) q)).le (LEs.refl _) (.tups (.cons (.refl _) (.cons (.nilF) (.cons (.refl _) (.nil)))))
def Uv (n:Nat)(a0 d:jVj)(a:Int):Option (Int⊕Unit⊕Unit) := if a<((a0).length:Int) then(el V5 a0 a).bind fun b=>(el V5 d a).bind fun c=>if b=c then if Qg (a+1) then some (.inl (a+1)) else none else some (.inr (.inl ())) else some (.inr (.inr ()))
noncomputable def zt (a0 a:jVj):Lp (Int) (Unit⊕Unit):=⟨fun b=>[(0,.d (.lst false 1 a0)),(1,.d (.lst false 1 a)),(5,.d (I b))],fun _=>[],fun
 | (.inl e)=>.ret
 | (.inr e)=>(.exit 0),fun
 | (.inl e)=>[(4,.d (B false))]
 | (.inr e)=>[],fun _=>[]⟩
theorem Js {n a0 c}(d)(r)(h:Uv n a0 c d=some r):Rl (Zt cx.P 21 0) 26 0 false (zt a0 c) d r:=by
 unfold Uv at h;obtain⟨a,h⟩|⟨a,h⟩:=io h
 ·have⟨ta2,ha2,h⟩:=bo h;have⟨ta3,ha3,h⟩:=bo h;have q:=Q2 QM ha3 (Q2 QM ha2 (Qb (jDj a) QA));let o(l:jOj):=b1::.el (Zi ta2)::.el (Zi ta3)::l;obtain⟨b,h⟩|⟨b,h⟩:=io h
  ·have⟨ha5,h⟩:=gd h;cases h;exact rn 7 (o [b0]) [] [0,1,5] [] (Qb ha5 (Qb (nef b) q))
  cases h;exact rx 7 (o [b1]) [] [4] [] (Qb (net b) q)
 cases h;exact rx 7 [b0] [] [] [] (Qb (jEj a) QA)
def KP (n:Nat)(a0 a:jVj):Option (Bool) := if((a0).length:Int)=((a).length:Int) then(QU (Uv n a0 a) n 0).bind fun t2=>match t2 with|.inl t2=>(some false)|.inr t2=>(some true) else some false
theorem kl {n a0 b r}(h:KP n a0 b=some r):Computes cx 21 [.lst false 1 a0,.lst false 1 b] (B r):=by
 unfold KP at h;obtain⟨a,h⟩|⟨a,h⟩:=io h
 ·have q:=Qb (nef a) QA;have⟨t2,h2,h⟩:=bo h;obtain t2|t2:=t2
  ·obtain rfl:=oi h;exact rf [b0,.lp [] [0,1,5] [] .ret [(4,.d (B false))] [] 34] (Qb (QE Js h2) q)
  obtain rfl:=oi h;exact rf [b0,.lp [] [0,1,5] [] (.exit 0) [] [] 34] (Qb (QE Js h2) q)
 obtain rfl:=oi h;exact rf [b1] (Qb (net a) QA)
def tab2:jVj:=[.tup [Qe ⟨#[115,116,97,116,101]⟩,.agg [.v (.int .u8 0),.fn (.func 60) [] []]],.tup [Qe ⟨#[114,97,116,101]⟩,.agg [.v (.int .u8 0),.fn (.func 62) [] []]],.tup [Qe ⟨#[97,105,109,101,100]⟩,.agg [.v (.int .u8 0),.fn (.func 64) [] []]],.tup [Qe ⟨#[98,111,111,107,115]⟩,.agg [.v (.int .u8 0),.fn (.func 69) [] []]],.tup [Qe ⟨#[111,102,102,101,114,115]⟩,.agg [.v (.int .u8 0),.fn (.func 71) [] []]],.tup [Qe ⟨#[100,105,114,116]⟩,.agg [.v (.int .u8 109),.fn (.func 77) [] []]],.tup [Qe ⟨#[99,111,117,110,116]⟩,.agg [.v (.int .u8 115),.fn (.func 79) [] []]]]
theorem mk2 (c:jSj)(r:D){k:jSj}{l:List UInt8}(h:k.data.toList=l)(hc:c.data.toList=l:=by rfl)(a:YX true (.string c) (.agg [.v (.int .u8 0),.v (.nilFunc)]) tab2=some r:=by kernel_rfl):YX true (.string k) (.agg [.v (.int .u8 0),.v (.nilFunc)]) tab2=some r:=QdG h hc a
def Kl (n:Nat)(a0:Bool)(a b:jSj):Option (jSj) := if a0=true then some a else some b
theorem je {n a0 b c r}(h:Kl n a0 b c=some r):Computes cx 61 [B a0,Qe b,Qe c] (Qe r):=by
 unfold Kl at h;obtain⟨a,h⟩|⟨a,h⟩:=io h
 ·obtain rfl:=oi h;exact rf [b1] (Qb a QA)
 obtain rfl:=oi h;exact rf [b0] (Qb (Zy a) QA)
def VD (n:Nat)(a0:jSj)(h i:jVj)(j d:Int)(e f:Bool)(k l m:Int)(a b c:jVj):Option (jVj) := (Kl n e (⟨#[102,105,108,108,101,100]⟩) (⟨#[101,109,112,116,121]⟩)).bind fun t1=>(Kl n f (⟨#[116,114,105,112,112,101,100]⟩) (⟨#[114,101,97,100,121]⟩)).bind fun t2=>(Wr n d).bind fun g=>some [.v (.string t1),.v (.string t2),.v (.string g)]
theorem qu {n a0 e f g i j k l m o a b c r}(h:VD n a0 e f g i j k l m o a b c=some r):ComputesO cx 60 [.ptr 0 0 0 0 2,.d (Qe a0)] (some (Qa e f g i j k l m o a b c)) (.d (.lst false 1 r)) (Qa e f g i j k l m o a b c) Zj:=by unfold VD at h;have⟨t1,h1,h⟩:=bo h;have⟨t2,h2,h⟩:=bo h;have⟨t3,h3,h⟩:=bo h;cases h;exact(rfO 0 (r:=.d (.lst true 1 [Qe t1,Qe t2,Qe t3])) (cs:=(Qa e f g i j k l m o a b c)) [.ret (Qe t1),.ret (Qe t2),.ret (Qe t3)] (Qb (Yq h3) (Qb (je h2) (Qb (je h1) QA)))).le (.refl _) (.refl _) (.d (.full _ _ _)) (.same _ (.same _ (.same _ (.same _ (.same _ (.same _ (.same _ (.same _ (.same _ (.same _ (.same _ (.same _ (.nil)))))))))))))
def VC (n:Nat)(a0:jSj)(d e:jVj)(f g:Int)(h i:Bool)(j k l:Int)(a b c:jVj):Option (jVj) := (WM n d e f g h i j k l a b c).bind fun t1=>(Wr n t1).bind fun t2=>some [.v (.string t2)]
theorem qt {n a0 e f g i j k l m o a b c r}(h:VC n a0 e f g i j k l m o a b c=some r):ComputesO cx 62 [.ptr 0 0 0 0 2,.d (Qe a0)] (some (Qa e f g i j k l m o a b c)) (.d (.lst false 1 r)) (Qa e f g i j k l m o a b c) Zj:=by unfold VC at h;have⟨t1,h1,h⟩:=bo h;have⟨t2,h2,h⟩:=bo h;cases h;exact(rfO 0 (r:=.d (.lst true 1 [Qe t2])) (cs:=(Qa e f g i j k l m o a b c)) [.obj (some 0) (.d (I t1)) (Qa e f g i j k l m o a b c) Zj,.ret (Qe t2)] (Qb (Yq h2) (Qb (Ks h1) QA))).le (.refl _) (.refl _) (.d (.full _ _ _)) (.same _ (.same _ (.same _ (.same _ (.same _ (.same _ (.same _ (.same _ (.same _ (.same _ (.same _ (.same _ (.nil)))))))))))))
theorem QaO {n a0 a b c d e r}(h:QZ n a0 a b c d e=some r):Computes cx 68 [.agg [Qe a0,Qe a,I b,I c,B d,B e]] (Qe r):=by unfold QZ at h;obtain rfl:=oi h;exact rf [] QA
def Zk (n:Nat)(f g:jVj)(h i:Int)(j k:Bool)(l m o:Int)(d c e:jVj)(b:(Int)⊕Int×jVj):Option ((Int⊕Int×jVj)⊕Unit⊕jVj):=match b with|(.inl b)=>(if b<((c).length:Int) then if 0<=b/\b<((c).length:Int) then((nth (c) (Int.toNat b)).bind QV).bind fun a=>if a.2.2.2.2.2=true then if Qg (b+1) then some (.inl (.inr ((b+1),[.agg [.v (.string a.1),.v (.string a.2.1),I a.2.2.1,I a.2.2.2.1,B a.2.2.2.2.1,B a.2.2.2.2.2]]))) else none else if Qg (b+1) then some (.inl (.inl (b+1))) else none else none else some (.inr (.inl ())))|.inr b=>(if b.1<((c).length:Int) then if 0<=b.1/\b.1<((c).length:Int) then((nth (c) (Int.toNat b.1)).bind QV).bind fun a=>if a.2.2.2.2.2=true then if Wi 56 ((b.2).length+1) then if Qg (b.1+1) then some (.inl (.inr ((b.1+1),(b.2++([.agg [.v (.string a.1),.v (.string a.2.1),I a.2.2.1,I a.2.2.2.1,B a.2.2.2.2.1,B a.2.2.2.2.2]]:jVj))))) else none else none else if Qg (b.1+1) then some (.inl (.inr ((b.1+1),b.2))) else none else none else some (.inr (.inr b.2)))
noncomputable def XS (f g:jVj)(h i:Int)(j k:Bool)(l m n:Int)(b a c:jVj):Lp (Int⊕Int×jVj) (Unit⊕jVj):=⟨fun
 | (.inl sa)=>[(0,.own 30 0),(8,.own 11 0),(9,.d (I ((a).length:Int))),(10,.d (I sa))]
 | (.inr sa)=>[(0,.own 30 0),(8,.own 11 0),(9,.d (I ((a).length:Int))),(10,.d (I sa.1))],fun
 | (.inl sa)=>[(0,.box (.agg [.own 1 0,.own 2 0,.d (I h),.d (I i),.d (B j),.d (B k),.d (I l),.d (I m),.d (I n),.own 10 0,.own 11 0,.own 12 0])),(1,.row 0 5 f),(2,.row 0 5 g),(10,.row 0 1 b),(11,.row 0 6 a),(12,.row 0 7 c),(19,.box (.ptr 0 0 0 0 2)),(27,.box (.d (.lst true 0 []))),(30,.loop true [(6,.fn (.func 153) [] [.ptr 19 0 0 0 0]),(4,.d (.lst true 0 [])),(2,.ptr 27 0 0 0 0),(1,.fn (.func 153) [] [.ptr 19 0 0 0 0]),(0,.d (.lst true 0 []))] [7] (Z3 cx.P 152 0).1 (Z3 cx.P 152 0).2 13)]
 | (.inr sa)=>[(0,.box (.agg [.own 1 0,.own 2 0,.d (I h),.d (I i),.d (B j),.d (B k),.d (I l),.d (I m),.d (I n),.own 10 0,.own 11 0,.own 12 0])),(1,.row 0 5 f),(2,.row 0 5 g),(10,.row 0 1 b),(11,.row 0 6 a),(12,.row 0 7 c),(19,.box (.ptr 0 0 0 0 2)),(27,.box (.own 55 0)),(30,.loop true [(6,.fn (.func 153) [] [.ptr 19 0 0 0 0]),(4,.d (.lst true 0 [])),(2,.ptr 27 0 0 0 0),(1,.fn (.func 153) [] [.ptr 19 0 0 0 0]),(0,.d (.lst true 0 []))] [7] (Z3 cx.P 152 0).1 (Z3 cx.P 152 0).2 13),(55,.row 0 6 sa.2)],fun _=>(.exit 0),fun _=>[],fun
 | (.inl e)=>[(0,.box (.agg [.own 1 0,.own 2 0,.d (I h),.d (I i),.d (B j),.d (B k),.d (I l),.d (I m),.d (I n),.own 10 0,.own 11 0,.own 12 0])),(1,.row 0 5 f),(2,.row 0 5 g),(10,.row 0 1 b),(11,.row 0 6 a),(12,.row 0 7 c),(19,.box (.ptr 0 0 0 0 2)),(27,.box (.d (.lst true 0 []))),(30,.loop true [(6,.fn (.func 153) [] [.ptr 19 0 0 0 0]),(4,.d (.lst true 0 [])),(2,.ptr 27 0 0 0 0),(1,.fn (.func 153) [] [.ptr 19 0 0 0 0]),(0,.d (.lst true 0 []))] [7] (Z3 cx.P 152 0).1 (Z3 cx.P 152 0).2 13)]
 | (.inr e)=>[(0,.box (.agg [.own 1 0,.own 2 0,.d (I h),.d (I i),.d (B j),.d (B k),.d (I l),.d (I m),.d (I n),.own 10 0,.own 11 0,.own 12 0])),(1,.row 0 5 f),(2,.row 0 5 g),(10,.row 0 1 b),(11,.row 0 6 a),(12,.row 0 7 c),(19,.box (.ptr 0 0 0 0 2)),(27,.box (.own 55 0)),(30,.loop true [(6,.fn (.func 153) [] [.ptr 19 0 0 0 0]),(4,.d (.lst true 0 [])),(2,.ptr 27 0 0 0 0),(1,.fn (.func 153) [] [.ptr 19 0 0 0 0]),(0,.d (.lst true 0 []))] [7] (Z3 cx.P 152 0).1 (Z3 cx.P 152 0).2 13),(55,.row 0 6 e)]⟩
theorem UT {n g i j k m p s t u c d e}(f)(r)(h:Zk n g i j k m p s t u c d e f=some r):Rl (Zt cx.P 153 0) 23 31 false (XS g i j k m p s t u c d e) f r:=by
 unfold Zk at h;obtain f|f:=f
 ·obtain⟨a,h⟩|⟨a,h⟩:=io h
  ·have⟨ha2,h⟩:=gd h;have⟨ta3,ha3,h⟩:=bo h;have q:=Qb (Q0 QB ha3) (Qb ha2 (Qb (jDj a) QA));let o(l:jOj):=b1::b1::.el (QF ta3)::l;obtain⟨b,h⟩|⟨b,h⟩:=io h
   ·have⟨ha5,h⟩:=gd h;cases h;exact rn 37 (o [b1,.no,.no,.no]) [] [0,8,9,10] [0,1,2,10,11,12,19,27,30,55] (Qb ha5 (Qb b q))
   have⟨ha5,h⟩:=gd h;cases h;exact rn 37 (o [b0,.no]) [] [0,8,9,10] [0,1,2,10,11,12,19,27,30] (Qb ha5 (Qb (Zy b) q))
  cases h;exact rx 37 [b0] [] [] [0,1,2,10,11,12,19,27,30] (Qb (jEj a) QA)
 ·obtain⟨a,h⟩|⟨a,h⟩:=io h
  ·have⟨ha2,h⟩:=gd h;have⟨ta3,ha3,h⟩:=bo h;have q:=Qb (Q0 QB ha3) (Qb ha2 (Qb (jDj a) QA));let o(l:jOj):=b1::b1::.el (QF ta3)::l;obtain⟨b,h⟩|⟨b,h⟩:=io h
   ·have⟨ha5,h⟩:=gd h;have⟨ha6,h⟩:=gd h;cases h;exact rn 56 (o [b1,b1,.no]) [] [0,8,9,10] [0,1,2,10,11,12,19,27,30,55] (Qb ha6 (Qb (ro 143 ha5) (Qb b q)))
   have⟨ha5,h⟩:=gd h;cases h;exact rn 56 (o [b0,.no]) [] [0,8,9,10] [0,1,2,10,11,12,19,27,30,55] (Qb ha5 (Qb (Zy b) q))
  cases h;exact rx 56 [b0] [] [] [0,1,2,10,11,12,19,27,30,55] (Qb (jEj a) QA)
def Wm (n:Nat)(g h:jVj)(i j:Int)(k l:Bool)(m o p:Int)(d e f t1:jVj)(b:(Int×jVj)):Option (Int×jVj⊕jVj) := if b.1<((t1).length:Int) then if 0<=b.1/\b.1<((t1).length:Int) then((nth (t1) (Int.toNat b.1)).bind QV).bind fun a=>(QZ n a.1 a.2.1 a.2.2.1 a.2.2.2.1 a.2.2.2.2.1 a.2.2.2.2.2).bind fun c=>if Wi 16 ((b.2).length+1) then if Qg (b.1+1) then some (.inl ((b.1+1),(b.2++([.v (.string c)]:jVj)))) else none else none else none else some (.inr b.2)
noncomputable def XR (g h:jVj)(i j:Int)(k l:Bool)(m n o:Int)(a b c t1:jVj):Lp (Int×jVj) (jVj):=⟨fun f=>[(1,.d (.fn (.func 68) [] [])),(5,.own 96 0),(8,.own 55 0),(9,.d (I ((t1).length:Int))),(10,.d (I f.1))],fun f=>[(0,.box (.agg [.own 1 0,.own 2 0,.d (I i),.d (I j),.d (B k),.d (B l),.d (I m),.d (I n),.d (I o),.own 10 0,.own 11 0,.own 12 0])),(1,.row 0 5 g),(2,.row 0 5 h),(10,.row 0 1 a),(11,.row 0 6 b),(12,.row 0 7 c),(19,.box (.ptr 0 0 0 0 2)),(27,.box (.own 55 0)),(30,.dead),(55,.row 0 6 t1),(96,.row 0 1 f.2)],fun _=>(.exit 0),fun _=>[(5,.own 96 0)],fun e=>[(0,.box (.agg [.own 1 0,.own 2 0,.d (I i),.d (I j),.d (B k),.d (B l),.d (I m),.d (I n),.d (I o),.own 10 0,.own 11 0,.own 12 0])),(1,.row 0 5 g),(2,.row 0 5 h),(10,.row 0 1 a),(11,.row 0 6 b),(12,.row 0 7 c),(19,.box (.ptr 0 0 0 0 2)),(27,.box (.own 55 0)),(30,.dead),(55,.row 0 6 t1),(96,.row 0 1 e)]⟩
theorem XL {n e f g i j k l m o b c d t1}(p)(r)(h:Wm n e f g i j k l m o b c d t1 p=some r):Rl (Zt cx.P 65 0) 22 91 false (XR e f g i j k l m o b c d t1) p r:=by
 unfold Wm at h;obtain⟨a,h⟩|⟨a,h⟩:=io h
 ·have⟨ha2,h⟩:=gd h;have⟨ta3,ha3,h⟩:=bo h;have⟨ta4,ha4,h⟩:=bo h;have⟨ha5,h⟩:=gd h;have⟨ha6,h⟩:=gd h;cases h;exact rn 97 [b1,b1,.el (QF ta3),.ret (Qe ta4),b1] [] [1,5,8,9,10] [0,1,2,10,11,12,19,27,30,55,96] (Qb ha6 (Qb (ro 9 ha5) (Qb (QaO ha4) (Qb (Q0 QB ha3) (Qb ha2 (Qb (jDj a) QA))))))
 cases h;exact rx 97 [b0] [] [5] [0,1,2,10,11,12,19,27,30,55,96] (Qb (jEj a) QA)
def VB (n:Nat)(a0:jSj)(d e:jVj)(f g:Int)(h i:Bool)(j k l:Int)(a b c:jVj):Option (jVj) := (QU (Zk n d e f g h i j k l a b c) n (.inl 0)).bind fun t1=>match t1 with|.inl t1=>(some [])|.inr t1=>((QU (Wm n d e f g h i j k l a b c t1) n (0,[])).bind fun t2=>some t2)
theorem qr {n a0 e f g i j k l m o a b c r}(h:VB n a0 e f g i j k l m o a b c=some r):ComputesO cx 64 [.ptr 0 0 0 0 2,.d (Qe a0)] (some (Qa e f g i j k l m o a b c)) (.d (.lst false 1 r)) (Qa e f g i j k l m o a b c) Zj:=by
 unfold VB at h;have⟨t1,h1,h⟩:=bo h;obtain t1|t1:=t1
 ·cases h;exact(rfO 0 (r:=.d (.lst true 0 [])) (cs:=(Qa e f g i j k l m o a b c)) [b1,b1,b1,.lp [] [0,8,9,10] [0,1,2,10,11,12,19,27,30] (.exit 0) [] [(0,.box (.agg [.own 1 0,.own 2 0,.d (I g),.d (I i),.d (B j),.d (B k),.d (I l),.d (I m),.d (I o),.own 10 0,.own 11 0,.own 12 0])),(1,.row 0 5 e),(2,.row 0 5 f),(10,.row 0 1 a),(11,.row 0 6 b),(12,.row 0 7 c),(19,.box (.ptr 0 0 0 0 2)),(27,.box (.d (.lst true 0 []))),(30,.loop true [(6,.fn (.func 153) [] [.ptr 19 0 0 0 0]),(4,.d (.lst true 0 [])),(2,.ptr 27 0 0 0 0),(1,.fn (.func 153) [] [.ptr 19 0 0 0 0]),(0,.d (.lst true 0 []))] [7] (Z3 cx.P 152 0).1 (Z3 cx.P 152 0).2 13)] 89,b1,.no,.no] (Qb (QE UT h1) QA)).le (.refl _) (.refl _) (.d (.nilF)) (.same _ (.same _ (.same _ (.same _ (.same _ (.same _ (.same _ (.same _ (.same _ (.same _ (.same _ (.same _ (.nil)))))))))))))
 have⟨t2,h2,h⟩:=bo h;obtain rfl:=oi h;exact rfO 0 [b1,b1,b1,.lp [] [0,8,9,10] [0,1,2,10,11,12,19,27,30] (.exit 0) [] [(0,.box (.agg [.own 1 0,.own 2 0,.d (I g),.d (I i),.d (B j),.d (B k),.d (I l),.d (I m),.d (I o),.own 10 0,.own 11 0,.own 12 0])),(1,.row 0 5 e),(2,.row 0 5 f),(10,.row 0 1 a),(11,.row 0 6 b),(12,.row 0 7 c),(19,.box (.ptr 0 0 0 0 2)),(27,.box (.own 55 0)),(30,.loop true [(6,.fn (.func 153) [] [.ptr 19 0 0 0 0]),(4,.d (.lst true 0 [])),(2,.ptr 27 0 0 0 0),(1,.fn (.func 153) [] [.ptr 19 0 0 0 0]),(0,.d (.lst true 0 []))] [7] (Z3 cx.P 152 0).1 (Z3 cx.P 152 0).2 13),(55,.row 0 6 t1)] 89,b1,.lp [5,1] [1,5,8,9,10] [0,1,2,10,11,12,19,27,30,55,96] (.exit 0) [(5,.own 96 0)] [(0,.box (.agg [.own 1 0,.own 2 0,.d (I g),.d (I i),.d (B j),.d (B k),.d (I l),.d (I m),.d (I o),.own 10 0,.own 11 0,.own 12 0])),(1,.row 0 5 e),(2,.row 0 5 f),(10,.row 0 1 a),(11,.row 0 6 b),(12,.row 0 7 c),(19,.box (.ptr 0 0 0 0 2)),(27,.box (.own 55 0)),(30,.dead),(55,.row 0 6 t1),(96,.row 0 1 t2)] 122] (Qb (QE XL h2) (Qb (QE UT h1) QA))
def WK (n:Nat)(a0:jVj)(a:(Int×jVj)):Option (Int×jVj⊕jVj) := if a.1<((a0).length:Int) then(el V5 a0 a.1).bind fun b=>(Wr n b).bind fun c=>if Wi 16 ((a.2).length+1) then if Qg (a.1+1) then some (.inl ((a.1+1),(a.2++([.v (.string c)]:jVj)))) else none else none else some (.inr a.2)
noncomputable def ER (a0:jVj):Lp (Int×jVj) (jVj):=⟨fun a=>[(1,.d (.fn (.func 35) [] [])),(5,.own 5 0),(8,.d (.lst false 1 a0)),(9,.d (I ((a0).length:Int))),(10,.d (I a.1))],fun a=>[(5,.row 0 1 a.2)],fun _=>(.exit 0),fun _=>[(5,.own 5 0)],fun e=>[(5,.row 0 1 e)]⟩
theorem EL {n a0}(b)(r)(h:WK n a0 b=some r):Rl (Zt cx.P 70 0) 22 0 false (ER a0) b r:=by
 unfold WK at h;obtain⟨a,h⟩|⟨a,h⟩:=io h
 ·have⟨ta2,ha2,h⟩:=bo h;have⟨ta3,ha3,h⟩:=bo h;have⟨ha4,h⟩:=gd h;have⟨ha5,h⟩:=gd h;cases h;exact rn 6 [b1,.el (Zi ta2),.ret (Qe ta3),b1] [] [1,5,8,9,10] [5] (Qb ha5 (Qb (ro 9 ha4) (Qb (Yq ha3) (Q2 QM ha2 (Qb (jDj a) QA)))))
 cases h;exact rx 6 [b0] [] [5] [5] (Qb (jEj a) QA)
def Wu (n:Nat)(a0:jVj):Option (jVj) := (QU (WK n a0) n (0,[])).bind fun t1=>some t1
theorem Gn {n a0 r}(h:Wu n a0=some r):Computes cx 70 [.lst false 1 a0,.fn (.func 35) [] []] (.lst false 1 r):=by unfold Wu at h;have⟨t1,h1,h⟩:=bo h;obtain rfl:=oi h;exact rf [.lp [5,1] [1,5,8,9,10] [5] (.exit 0) [(5,.own 5 0)] [(5,.row 0 1 t1)] 30] (Qb (QE EL h1) QA)
def VA (n:Nat)(a0:jSj)(g h:jVj)(i j:Int)(k l:Bool)(d e f:Int)(a b c:jVj):Option (jVj) := (Wu n ([I d,I e,I f])).bind fun t1=>some t1
theorem qq {n a0 i j k l m o e f g a b c r}(h:VA n a0 i j k l m o e f g a b c=some r):ComputesO cx 69 [.ptr 0 0 0 0 2,.d (Qe a0)] (some (Qa i j k l m o e f g a b c)) (.d (.lst false 1 r)) (Qa i j k l m o e f g a b c) Zj:=by unfold VA at h;have⟨t1,h1,h⟩:=bo h;obtain rfl:=oi h;exact rfO 0 [.ret (.lst false 1 t1)] (Qb (((Gn h1).le (.cons (.full _ _ _) (.cons (.refl _) (.nil))) (.refl _)):Computes cx 70 [.lst true 1 [I e,I f,I g],.fn (.func 35) [] []] (.lst false 1 t1)) QA)
def Ye (n:Nat)(a0:jSj)(b c d e f:Int)(a:Bool):Option (Bool) := some (!a)
theorem qw {n a0 a b c d e f r}(h:Ye n a0 a b c d e f=some r):Computes cx 75 [.agg [Qe a0,I a,I b,I c,I d,I e,B f]] (B r):=by unfold Ye at h;cases h;exact rf [] QA
def VF (n:Nat)(a0:jSj)(a b c d e:Int)(f:Bool):Option (jVj) := (Za n a0 a b c d e f).bind fun t1=>(Wr n t1).bind fun t2=>some [.v (.string a0),.v (.string t2)]
theorem Xy {n a0 a b c d e f r}(h:VF n a0 a b c d e f=some r):Computes cx 76 [.agg [Qe a0,I a,I b,I c,I d,I e,B f]] (.lst false 1 r):=by unfold VF at h;have⟨t1,h1,h⟩:=bo h;have⟨t2,h2,h⟩:=bo h;cases h;exact(rf (r:=.lst true 1 [Qe a0,Qe t2]) [.ret (I t1),.ret (Qe t2)] (Qb (Yq h2) (Qb (WU h1) QA))).le (LEs.refl _) (.full _ _ _)
def WJ (n:Nat)(a0:jVj)(b:(Int×jVj)):Option (Int×jVj⊕jVj) := if b.1<((a0).length:Int) then(el Z4 a0 b.1).bind fun a=>(VF n a.1 a.2.1 a.2.2.1 a.2.2.2.1 a.2.2.2.2.1 a.2.2.2.2.2.1 a.2.2.2.2.2.2).bind fun c=>if Wi 24 ((b.2).length+1) then if Qg (b.1+1) then some (.inl ((b.1+1),(b.2++([.lst false 1 c]:jVj)))) else none else none else some (.inr b.2)
noncomputable def EQ (a0:jVj):Lp (Int×jVj) (jVj):=⟨fun a=>[(1,.d (.fn (.func 76) [] [])),(5,.own 5 0),(8,.d (.lst false 7 a0)),(9,.d (I ((a0).length:Int))),(10,.d (I a.1))],fun a=>[(5,.row 0 1 a.2)],fun _=>(.exit 0),fun _=>[(5,.own 5 0)],fun e=>[(5,.row 0 1 e)]⟩
theorem EK {n a0}(b)(r)(h:WJ n a0 b=some r):Rl (Zt cx.P 73 0) 22 0 false (EQ a0) b r:=by
 unfold WJ at h;obtain⟨a,h⟩|⟨a,h⟩:=io h
 ·have⟨ta2,ha2,h⟩:=bo h;have⟨ta3,ha3,h⟩:=bo h;have⟨ha4,h⟩:=gd h;have⟨ha5,h⟩:=gd h;cases h;exact rn 6 [b1,.el (Zr ta2),.ret (.lst false 1 ta3),b1] [] [1,5,8,9,10] [5] (Qb ha5 (Qb (ro 42 ha4) (Qb (Xy ha3) (Q2 Zg ha2 (Qb (jDj a) QA)))))
 cases h;exact rx 6 [b0] [] [5] [5] (Qb (jEj a) QA)
def YJ (n:Nat)(a0:jVj):Option (jVj) := (QU (WJ n a0) n (0,[])).bind fun t1=>some t1
theorem wl {n a0 r}(h:YJ n a0=some r):Computes cx 73 [.lst false 7 a0,.fn (.func 76) [] []] (.lst false 1 r):=by unfold YJ at h;have⟨t1,h1,h⟩:=bo h;obtain rfl:=oi h;exact rf [.lp [5,1] [1,5,8,9,10] [5] (.exit 0) [(5,.own 5 0)] [(5,.row 0 1 t1)] 31] (Qb (QE EK h1) QA)
def Qe0 (x:jVj):D:=.lst false 1 x
def Qfo (d:D):Option (jVj):=jt 1 d
theorem QcV {d:D}{x:jVj}(h:Qfo d=some x):d=Qe0 x:=qK h
def Ws (n:Nat)(a0:jVj)(a:(Int×Int)):Option (Int×Int⊕Int) := if a.2<((a0).length:Int) then(el Qfo a0 a.2).bind fun b=>if Qg (a.1+((b).length:Int)) then if(a.1+((b).length:Int))<0 then none else if Qg (a.2+1) then some (.inl ((a.1+((b).length:Int)),(a.2+1))) else none else none else some (.inr a.1)
noncomputable def qG (a0:jVj):Lp (Int×Int) (Int):=⟨fun a=>[(0,.d (.lst false 1 a0)),(3,.d (I a.1)),(9,.d (.lst false 1 a0)),(10,.d (I ((a0).length:Int))),(11,.d (I a.2))],fun _=>[],fun _=>(.exit 0),fun e=>[(0,.d (.lst false 1 a0)),(3,.d (I e))],fun _=>[]⟩
theorem qC {n a0}(c)(r)(h:Ws n a0 c=some r):Rl (Zt cx.P 72 0) 36 0 false (qG a0) c r:=by
 unfold Ws at h;obtain⟨a,h⟩|⟨a,h⟩:=io h
 ·have⟨ta2,ha2,h⟩:=bo h;have⟨ha3,h⟩:=gd h;obtain⟨b,h⟩|⟨b,h⟩:=io h
  ·cases h
  have⟨ha5,h⟩:=gd h;cases h;exact rn 5 [b1,.el (Qe0 ta2),b0] [] [0,3,9,10,11] [] (Qb ha5 (Qb (jEj b) (Qb ha3 (Q2 QcV ha2 (Qb (jDj a) QA)))))
 cases h;exact rx 5 [b0] [] [0,3] [] (Qb (jEj a) QA)
def ZR (n:Nat)(a0:jVj)(a:(Int×jVj)):Option (Int×jVj⊕jVj) := if a.1<((a0).length:Int) then(el Qfo a0 a.1).bind fun b=>if Wi 16 ((a.2).length+(b).length) then if Qg (a.1+1) then some (.inl ((a.1+1),(a.2++b))) else none else none else some (.inr a.2)
noncomputable def qF (a0:jVj):Lp (Int×jVj) (jVj):=⟨fun a=>[(6,.own 50 0),(25,.d (.lst false 1 a0)),(26,.d (I ((a0).length:Int))),(27,.d (I a.1))],fun a=>[(50,.row 0 1 a.2)],fun _=>(.exit 2),fun _=>[(6,.own 50 0)],fun e=>[(50,.row 0 1 e)]⟩
theorem Jj {n a0}(b)(r)(h:ZR n a0 b=some r):Rl (Zt cx.P 72 1) 36 0 false (qF a0) b r:=by
 unfold ZR at h;obtain⟨a,h⟩|⟨a,h⟩:=io h
 ·have⟨ta2,ha2,h⟩:=bo h;have⟨ha3,h⟩:=gd h;have⟨ha4,h⟩:=gd h;cases h;exact rn 60 [b1,.el (Qe0 ta2),b1] [] [6,25,26,27] [50] (Qb ha4 (Qb (ro 9 ha3) (Q2 QcV ha2 (Qb (jDj a) QA))))
 cases h;exact rx 60 [b0] [] [6] [50] (Qb (jEj a) QA)
def Yd (n:Nat)(a0:jVj):Option (jVj) := (QU (Ws n a0) n (0,0)).bind fun t1=>if t1<0 then none else if Qg (t1 - 0) then if(t1 - 0)>0 then if 0<(t1 - 0)/\Wi 16 (Int.toNat (t1 - 0)) then if(0:Int)<=0/\0<=(((List.replicate (Int.toNat (t1 - 0)) (.v (.string ⟨#[]⟩):D)):jVj).length:Int) then(QU (ZR n a0) n (0,[])).bind fun b=>some b else none else none else(QU (ZR n a0) n (0,[])).bind fun a=>some a else none
theorem jc {n a0 r}(h:Yd n a0=some r):Computes cx 72 [.lst false 1 a0] (.lst false 1 r):=by
 unfold Yd at h;have⟨t1,h1,h⟩:=bo h;have q:=Qb (QE qC h1) QA;let o(l:jOj):=.lp [] [0,3,9,10,11] [] (.exit 0) [(0,.d (.lst false 1 a0)),(3,.d (I t1))] [] 29::b1::b0::l;obtain⟨c,h⟩|⟨c,h⟩:=io h
 ·cases h
 have⟨h3,h⟩:=gd h;have q:=Qb h3 (Qb ((by unfold Qg;omega):Qg 0) (Qb (jEj c) q));obtain⟨a,h⟩|⟨a,h⟩:=io h
 ·have⟨h5,h⟩:=gd h;have⟨h6,h⟩:=gd h;have⟨t7,h7,h⟩:=bo h;obtain rfl:=oi h;exact rf (o [b1,.no,b1,.ix 0,b1,.lp [] [6,25,26,27] [50] (.exit 2) [(6,.own 50 0)] [(50,.row 0 1 t7)] 81]) (Qb (QE Jj h7) (Qb h6 (Qb (⟨h5.1,(Qfv (b:=16) (by kernel_rfl) (by decide) h5.2)⟩:0<(t1 - 0)/\room cx 9 (Int.toNat (t1 - 0))) (Qb (jDj a) q))))
 have⟨t5,h5,h⟩:=bo h;obtain rfl:=oi h;exact rf (o [b0,.lp [6,1] [6,25,26,27] [50] (.exit 2) [(6,.own 50 0)] [(50,.row 0 1 t5)] 81]) (Qb (QE Jj h5) (Qb (jEj a) q))
def Wl (n:Nat)(g h:jVj)(i j:Int)(k l:Bool)(m o p:Int)(e f c:jVj)(b:(Int×jVj)):Option (Int×jVj⊕jVj) := if b.1<((c).length:Int) then if 0<=b.1/\b.1<((c).length:Int) then((nth (c) (Int.toNat b.1)).bind Z4).bind fun a=>(Ye n a.1 a.2.1 a.2.2.1 a.2.2.2.1 a.2.2.2.2.1 a.2.2.2.2.2.1 a.2.2.2.2.2.2).bind fun d=>if d=true then if Wi 64 ((b.2).length+1) then if Qg (b.1+1) then some (.inl ((b.1+1),(b.2++([.agg [.v (.string a.1),I a.2.1,I a.2.2.1,I a.2.2.2.1,I a.2.2.2.2.1,I a.2.2.2.2.2.1,B a.2.2.2.2.2.2]]:jVj)))) else none else none else if Qg (b.1+1) then some (.inl ((b.1+1),b.2)) else none else none else some (.inr b.2)
noncomputable def XQ (g h:jVj)(i j:Int)(k l:Bool)(m n o:Int)(b c a:jVj):Lp (Int×jVj) (jVj):=⟨fun f=>[(1,.d (.fn (.func 75) [] [])),(5,.own 27 0),(8,.own 12 0),(9,.d (I ((a).length:Int))),(10,.d (I f.1))],fun f=>[(0,.box (.agg [.own 1 0,.own 2 0,.d (I i),.d (I j),.d (B k),.d (B l),.d (I m),.d (I n),.d (I o),.own 10 0,.own 11 0,.own 12 0])),(1,.row 0 5 g),(2,.row 0 5 h),(10,.row 0 1 b),(11,.row 0 6 c),(12,.row 0 7 a),(27,.row 0 7 f.2)],fun _=>(.exit 0),fun _=>[(5,.own 27 0)],fun e=>[(0,.box (.agg [.own 1 0,.own 2 0,.d (I i),.d (I j),.d (B k),.d (B l),.d (I m),.d (I n),.d (I o),.own 10 0,.own 11 0,.own 12 0])),(1,.row 0 5 g),(2,.row 0 5 h),(10,.row 0 1 b),(11,.row 0 6 c),(12,.row 0 7 a),(27,.row 0 7 e)]⟩
theorem XK {n f g i j k m p s t c d e}(u)(r)(h:Wl n f g i j k m p s t c d e u=some r):Rl (Zt cx.P 74 0) 23 22 false (XQ f g i j k m p s t c d e) u r:=by
 unfold Wl at h;obtain⟨a,h⟩|⟨a,h⟩:=io h
 ·have⟨ha2,h⟩:=gd h;have⟨ta3,ha3,h⟩:=bo h;have⟨ta4,ha4,h⟩:=bo h;have q:=Qb (qw ha4) (Qb (Q0 Zg ha3) (Qb ha2 (Qb (jDj a) QA)));let o(l:jOj):=b1::b1::.el (Zr ta3)::.ret (B ta4)::l;obtain⟨b,h⟩|⟨b,h⟩:=io h
  ·have⟨ha6,h⟩:=gd h;have⟨ha7,h⟩:=gd h;cases h;exact rn 28 (o [b1,b1]) [] [1,5,8,9,10] [0,1,2,10,11,12,27] (Qb ha7 (Qb (ro 156 ha6) (Qb b q)))
  have⟨ha6,h⟩:=gd h;cases h;exact rn 28 (o [b0]) [] [1,5,8,9,10] [0,1,2,10,11,12,27] (Qb ha6 (Qb (Zy b) q))
 cases h;exact rx 28 [b0] [] [5] [0,1,2,10,11,12,27] (Qb (jEj a) QA)
def Vz (n:Nat)(a0:jSj)(d e:jVj)(f g:Int)(h i:Bool)(j k l:Int)(a b c:jVj):Option (jVj) := (QU (Wl n d e f g h i j k l a b c) n (0,[])).bind fun t1=>(YJ n t1).bind fun t2=>(Yd n t2).bind fun m=>some m
theorem qp {n a0 e f g i j k l m o a b c r}(h:Vz n a0 e f g i j k l m o a b c=some r):ComputesO cx 71 [.ptr 0 0 0 0 2,.d (Qe a0)] (some (Qa e f g i j k l m o a b c)) (.d (.lst false 1 r)) (Qa e f g i j k l m o a b c) Zj:=by unfold Vz at h;have⟨t1,h1,h⟩:=bo h;have⟨t2,h2,h⟩:=bo h;have⟨t3,h3,h⟩:=bo h;obtain rfl:=oi h;exact rfO 0 [b1,.lp [5,7] [1,5,8,9,10] [0,1,2,10,11,12,27] (.exit 0) [(5,.own 27 0)] [(0,.box (.agg [.own 1 0,.own 2 0,.d (I g),.d (I i),.d (B j),.d (B k),.d (I l),.d (I m),.d (I o),.own 10 0,.own 11 0,.own 12 0])),(1,.row 0 5 e),(2,.row 0 5 f),(10,.row 0 1 a),(11,.row 0 6 b),(12,.row 0 7 c),(27,.row 0 7 t1)] 54,.ret (.lst false 1 t2),.ret (.lst false 1 t3)] (Qb (jc h3) (Qb (wl h2) (Qb (QE XK h1) QA)))
def Vy (n:Nat)(a0:jSj)(d e:jVj)(f g:Int)(h i:Bool)(j k l:Int)(b a c:jVj):Option (jVj) := (Qt n 109 d e f g h i j k l b a c).bind fun t1=>(QC n t1 a0).bind fun t2=>if 0<=t2/\t2<((a).length:Int) then((nth (a) (Int.toNat t2)).bind QV).bind fun t4=>(Wr n t4.2.2.2.1).bind fun m=>some [.v (.string m)] else none
theorem qn {n a0 e f g i j k l m o a b c r}(h:Vy n a0 e f g i j k l m o a b c=some r):ComputesO cx 77 [.ptr 0 0 0 0 2,.d (Qe a0)] (some (Qa e f g i j k l m o a b c)) (.d (.lst false 1 r)) (Qa e f g i j k l m o a b c) Zj:=by unfold Vy at h;have⟨t1,h1,h⟩:=bo h;have⟨t2,h2,h⟩:=bo h;have⟨h3,h⟩:=gd h;have⟨t4,h4,h⟩:=bo h;have⟨t5,h5,h⟩:=bo h;cases h;exact(rfO 0 (r:=.d (.lst true 1 [Qe t5])) (cs:=(Qa e f g i j k l m o a b c)) [b1,.obj (some 0) (.d (.lst false 1 t1)) (Qa e f g i j k l m o a b c) Zj,.ret (I t2),b1,.el (QF t4),.ret (Qe t5)] (Qb (Yq h5) (Qb (Q0 QB h4) (Qb h3 (Qb (QJ h2) (Qb (Qz h1) QA)))))).le (.refl _) (.refl _) (.d (.full _ _ _)) (.same _ (.same _ (.same _ (.same _ (.same _ (.same _ (.same _ (.same _ (.same _ (.same _ (.same _ (.same _ (.nil)))))))))))))
def ZW (n:Nat)(a0:jSj)(f g:jVj)(h i:Int)(j k:Bool)(l m o:Int)(d b e:jVj)(a:(Int×Int×Int)):Option (Int×Int×Int⊕Int×Int) := if a.1<((b).length:Int) then if 0<=a.1/\a.1<((b).length:Int) then((nth (b) (Int.toNat a.1)).bind QV).bind fun c=>if(!(c.2.1.toList==a0.toList))=true then if Qg (a.1+1) then some (.inl ((a.1+1),a.2.1,a.2.2)) else none else if Qg (a.2.1+1) then if c.2.2.2.2.2=true then if Qg (a.2.2+1) then if Qg (a.1+1) then some (.inl ((a.1+1),(a.2.1+1),(a.2.2+1))) else none else none else if Qg (a.1+1) then some (.inl ((a.1+1),(a.2.1+1),a.2.2)) else none else none else none else some (.inr (a.2.1,a.2.2))
noncomputable def GL (a0:jSj)(g h:jVj)(i j:Int)(k l:Bool)(m n o:Int)(b a c:jVj):Lp (Int×Int×Int) (Int×Int):=⟨fun f=>[(1,.d (Qe a0)),(4,.ptr 13 0 0 0 0),(5,.ptr 14 0 0 0 0),(11,.own 11 0),(12,.d (I ((a).length:Int))),(13,.d (I f.1))],fun f=>[(0,.box (.agg [.own 1 0,.own 2 0,.d (I i),.d (I j),.d (B k),.d (B l),.d (I m),.d (I n),.d (I o),.own 10 0,.own 11 0,.own 12 0])),(1,.row 0 5 g),(2,.row 0 5 h),(10,.row 0 1 b),(11,.row 0 6 a),(12,.row 0 7 c),(13,.box (.d (.agg [I 0,I 0]))),(14,.box (.d (.agg [I f.2.1,I f.2.2])))],fun _=>(.exit 0),fun _=>[(4,.ptr 13 0 0 0 0),(5,.ptr 14 0 0 0 0)],fun e=>[(0,.box (.agg [.own 1 0,.own 2 0,.d (I i),.d (I j),.d (B k),.d (B l),.d (I m),.d (I n),.d (I o),.own 10 0,.own 11 0,.own 12 0])),(1,.row 0 5 g),(2,.row 0 5 h),(10,.row 0 1 b),(11,.row 0 6 a),(12,.row 0 7 c),(13,.box (.d (.agg [I 0,I 0]))),(14,.box (.d (.agg [I e.1,I e.2])))]⟩
theorem GG {n a0 g i j k m p s t u d e f}(v)(r)(h:ZW n a0 g i j k m p s t u d e f v=some r):Rl (Zt cx.P 80 0) 33 13 false (GL a0 g i j k m p s t u d e f) v r:=by
 unfold ZW at h;obtain⟨a,h⟩|⟨a,h⟩:=io h
 ·have⟨ha2,h⟩:=gd h;have⟨ta3,ha3,h⟩:=bo h;have q:=Qb (Q0 QB ha3) (Qb ha2 (Qb (jDj a) QA));let o(l:jOj):=b1::b1::.el (QF ta3)::l;obtain⟨b,h⟩|⟨b,h⟩:=io h
  ·have⟨ha5,h⟩:=gd h;cases h;exact rn 21 (o [b1]) [] [1,4,5,11,12,13] [0,1,2,10,11,12,13,14] (Qb ha5 (Qb b q))
  have⟨ha5,h⟩:=gd h;have q:=Qb ha5 (Qb (Zy b) q);obtain⟨c,h⟩|⟨c,h⟩:=io h
  ·have⟨ha7,h⟩:=gd h;have⟨ha8,h⟩:=gd h;cases h;exact rn 21 (o [b0,b1]) [] [1,4,5,11,12,13] [0,1,2,10,11,12,13,14] (Qb ha8 (Qb ha7 (Qb c q)))
  have⟨ha7,h⟩:=gd h;cases h;exact rn 21 (o [b0,b0]) [] [1,4,5,11,12,13] [0,1,2,10,11,12,13,14] (Qb ha7 (Qb (Zy c) q))
 cases h;exact rx 21 [b0] [] [4,5] [0,1,2,10,11,12,13,14] (Qb (jEj a) QA)
def Vc (n:Nat)(a0:jSj)(d e:jVj)(f g:Int)(h i:Bool)(j k l:Int)(a b c:jVj):Option (Int×Int) := (QU (ZW n a0 d e f g h i j k l a b c) n (0,0,0)).bind fun t1=>some (t1.1,t1.2)
theorem Ep {n a0 e f g i j k l m o a b c r}(h:Vc n a0 e f g i j k l m o a b c=some r):ComputesO cx 80 [.ptr 0 0 0 0 2,.d (Qe a0)] (some (Qa e f g i j k l m o a b c)) (.d (.agg [I r.1,I r.2])) (Qa e f g i j k l m o a b c) Zj:=by unfold Vc at h;have⟨t1,h1,h⟩:=bo h;cases h;exact rfO 0 [.lp [] [1,4,5,11,12,13] [0,1,2,10,11,12,13,14] (.exit 0) [(4,.ptr 13 0 0 0 0),(5,.ptr 14 0 0 0 0)] [(0,.box (.agg [.own 1 0,.own 2 0,.d (I g),.d (I i),.d (B j),.d (B k),.d (I l),.d (I m),.d (I o),.own 10 0,.own 11 0,.own 12 0])),(1,.row 0 5 e),(2,.row 0 5 f),(10,.row 0 1 a),(11,.row 0 6 b),(12,.row 0 7 c),(13,.box (.d (.agg [I 0,I 0]))),(14,.box (.d (.agg [I t1.1,I t1.2])))] 55] (Qb (QE GG h1) QA)
def Vx (n:Nat)(a0:jSj)(d e:jVj)(f g:Int)(h i:Bool)(j k l:Int)(a b c:jVj):Option (jVj) := (Vc n a0 d e f g h i j k l a b c).bind fun t1=>(Wu n ([I t1.1,I t1.2])).bind fun t2=>some t2
theorem qm {n a0 e f g i j k l m o a b c r}(h:Vx n a0 e f g i j k l m o a b c=some r):ComputesO cx 79 [.ptr 0 0 0 0 2,.d (Qe a0)] (some (Qa e f g i j k l m o a b c)) (.d (.lst false 1 r)) (Qa e f g i j k l m o a b c) Zj:=by unfold Vx at h;have⟨t1,h1,h⟩:=bo h;have⟨t2,h2,h⟩:=bo h;obtain rfl:=oi h;exact rfO 0 [.obj (some 0) (.d (.agg [I t1.1,I t1.2])) (Qa e f g i j k l m o a b c) Zj,.ret (.lst false 1 t2)] (Qb (((Gn h2).le (.cons (.full _ _ _) (.cons (.refl _) (.nil))) (.refl _)):Computes cx 70 [.lst true 1 [I t1.1,I t1.2],.fn (.func 35) [] []] (.lst false 1 t2)) (Qb (Ep h1) QA))
def Qj (n:Nat)(a0:jSj)(d f:jVj)(g h:Int)(i j:Bool)(k l m:Int)(a b c:jVj):Option (jSj×Int×jVj×jVj×jRj) := (Qm n (decide ((a0.size:Int)>4096)) 26).bind fun t1=>(Qm n (a0.toList==(⟨#[]⟩:jSj).toList) 25).bind fun t2=>(Qi n ([I t1,I t2])).bind fun K=>if K=0 then(YN n a0).bind fun o=>(el Vg o 0).bind fun t=>if t.data.toList=[115,116,97,116,101] then if(0:Int)<=1/\1<=((o).length:Int)/\((o).length:Int)<=((o).length:Int)/\(o=[]\/1=1) then if(((o.drop (Int.toNat 1)):jVj).length:Int)>0 then some (⟨#[]⟩,25,d,f,g,h,i,j,k,l,m,a,b,c) else(VD n (⟨#[]⟩) d f g h i j k l m a b c).bind fun z=>if((z).length:Int)=0 then some (⟨#[110,111,110,101]⟩,0,d,f,g,h,i,j,k,l,m,a,b,c) else(ZI n z (⟨#[32]⟩)).bind fun u=>some (u,0,d,f,g,h,i,j,k,l,m,a,b,c) else none else if t.data.toList=[114,97,116,101] then if(0:Int)<=1/\1<=((o).length:Int)/\((o).length:Int)<=((o).length:Int)/\(o=[]\/1=1) then if(((o.drop (Int.toNat 1)):jVj).length:Int)>0 then some (⟨#[]⟩,25,d,f,g,h,i,j,k,l,m,a,b,c) else(VC n (⟨#[]⟩) d f g h i j k l m a b c).bind fun A=>if((A).length:Int)=0 then some (⟨#[110,111,110,101]⟩,0,d,f,g,h,i,j,k,l,m,a,b,c) else(ZI n A (⟨#[32]⟩)).bind fun v=>some (v,0,d,f,g,h,i,j,k,l,m,a,b,c) else none else if t.data.toList=[97,105,109,101,100] then if(0:Int)<=1/\1<=((o).length:Int)/\((o).length:Int)<=((o).length:Int)/\(o=[]\/1=1) then if(((o.drop (Int.toNat 1)):jVj).length:Int)>0 then some (⟨#[]⟩,25,d,f,g,h,i,j,k,l,m,a,b,c) else(VB n (⟨#[]⟩) d f g h i j k l m a b c).bind fun u=>if((u).length:Int)=0 then some (⟨#[110,111,110,101]⟩,0,d,f,g,h,i,j,k,l,m,a,b,c) else(ZI n u (⟨#[32]⟩)).bind fun x=>some (x,0,d,f,g,h,i,j,k,l,m,a,b,c) else none else if t.data.toList=[98,111,111,107,115] then if(0:Int)<=1/\1<=((o).length:Int)/\((o).length:Int)<=((o).length:Int)/\(o=[]\/1=1) then if(((o.drop (Int.toNat 1)):jVj).length:Int)>0 then some (⟨#[]⟩,25,d,f,g,h,i,j,k,l,m,a,b,c) else(VA n (⟨#[]⟩) d f g h i j k l m a b c).bind fun v=>if((v).length:Int)=0 then some (⟨#[110,111,110,101]⟩,0,d,f,g,h,i,j,k,l,m,a,b,c) else(ZI n v (⟨#[32]⟩)).bind fun s=>some (s,0,d,f,g,h,i,j,k,l,m,a,b,c) else none else if t.data.toList=[111,102,102,101,114,115] then if(0:Int)<=1/\1<=((o).length:Int)/\((o).length:Int)<=((o).length:Int)/\(o=[]\/1=1) then if(((o.drop (Int.toNat 1)):jVj).length:Int)>0 then some (⟨#[]⟩,25,d,f,g,h,i,j,k,l,m,a,b,c) else(Vz n (⟨#[]⟩) d f g h i j k l m a b c).bind fun x=>if((x).length:Int)=0 then some (⟨#[110,111,110,101]⟩,0,d,f,g,h,i,j,k,l,m,a,b,c) else(ZI n x (⟨#[32]⟩)).bind fun r=>some (r,0,d,f,g,h,i,j,k,l,m,a,b,c) else none else if t.data.toList=[100,105,114,116] then if(0:Int)<=1/\1<=((o).length:Int)/\((o).length:Int)<=((o).length:Int)/\(o=[]\/1=1) then if(((o.drop (Int.toNat 1)):jVj).length:Int)=1 then(el Vg (o.drop (Int.toNat 1)) 0).bind fun s=>if(s.toList==(⟨#[]⟩:jSj).toList)=true then some (⟨#[]⟩,25,d,f,g,h,i,j,k,l,m,a,b,c) else(Qt n 109 d f g h i j k l m a b c).bind fun H=>(Zf n H s).bind fun e=>if e=true then(Vy n s d f g h i j k l m a b c).bind fun q=>if((q).length:Int)=0 then some (⟨#[110,111,110,101]⟩,0,d,f,g,h,i,j,k,l,m,a,b,c) else(ZI n q (⟨#[32]⟩)).bind fun y=>some (y,0,d,f,g,h,i,j,k,l,m,a,b,c) else some (⟨#[]⟩,10,d,f,g,h,i,j,k,l,m,a,b,c) else some (⟨#[]⟩,25,d,f,g,h,i,j,k,l,m,a,b,c) else none else if t.data.toList=[99,111,117,110,116] then if(0:Int)<=1/\1<=((o).length:Int)/\((o).length:Int)<=((o).length:Int)/\(o=[]\/1=1) then if(((o.drop (Int.toNat 1)):jVj).length:Int)=1 then(el Vg (o.drop (Int.toNat 1)) 0).bind fun r=>if(r.toList==(⟨#[]⟩:jSj).toList)=true then some (⟨#[]⟩,25,d,f,g,h,i,j,k,l,m,a,b,c) else(Zf n a r).bind fun e=>if e=true then(Vx n r d f g h i j k l m a b c).bind fun q=>if((q).length:Int)=0 then some (⟨#[110,111,110,101]⟩,0,d,f,g,h,i,j,k,l,m,a,b,c) else(ZI n q (⟨#[32]⟩)).bind fun y=>some (y,0,d,f,g,h,i,j,k,l,m,a,b,c) else some (⟨#[]⟩,10,d,f,g,h,i,j,k,l,m,a,b,c) else some (⟨#[]⟩,25,d,f,g,h,i,j,k,l,m,a,b,c) else none else if ¬(W5 (.string t) tab2).isSome=true then if(W5 (.string t) GB).isSome=true then((W5 (.string t) GB).bind Kt).bind fun r=>if Qg (((d).length:Int)+1) then(Yj n (((d).length:Int)+1) o).bind fun e=>(Qm n (!e.2.2.2.2.2) 25).bind fun J=>(Qm n (decide (((d).length:Int)>=1000)) 5).bind fun q=>(Qi n ([I J,I q])).bind fun C=>if C=0 then(Wv n e.1 e.2.1 e.2.2.1 e.2.2.2.1 e.2.2.2.2.1).bind fun E=>if E=0 then(Qq n e.1 e.2.1 e.2.2.1 e.2.2.2.1 e.2.2.2.2.1 d f g h i j k l m a b c).bind fun F=>if F=0 then(WF n e.1 e.2.1 e.2.2.1 e.2.2.2.1 e.2.2.2.2.1 d f g h i j k l m a b c).bind fun p=>(Wr n e.1).bind fun G=>if(⟨#[100,111,110,101,32]⟩:jSj).size+G.size<=9223372036854775807 then some (((⟨#[100,111,110,101,32]⟩:jSj)++G),0,p.1,p.2.1,p.2.2.1,p.2.2.2.1,p.2.2.2.2.1,p.2.2.2.2.2.1,p.2.2.2.2.2.2.1,p.2.2.2.2.2.2.2.1,p.2.2.2.2.2.2.2.2.1,p.2.2.2.2.2.2.2.2.2.1,p.2.2.2.2.2.2.2.2.2.2.1,p.2.2.2.2.2.2.2.2.2.2.2) else none else some (⟨#[]⟩,F,d,f,g,h,i,j,k,l,m,a,b,c) else some (⟨#[]⟩,E,d,f,g,h,i,j,k,l,m,a,b,c) else some (⟨#[]⟩,C,d,f,g,h,i,j,k,l,m,a,b,c) else none else some (⟨#[]⟩,13,d,f,g,h,i,j,k,l,m,a,b,c) else none else some (⟨#[]⟩,K,d,f,g,h,i,j,k,l,m,a,b,c)
theorem Qo {n a0 x y z A C E F G H g i j r}(h:Qj n a0 x y z A C E F G H g i j=some r):ComputesO cx 10 [.ptr 0 0 0 0 0,.d (Qe a0)] (some (Qa x y z A C E F G H g i j)) (.d (.tup [Qe r.1,I r.2.1])) (Qa' r.2.2) []:=by
 unfold Qj at h;have⟨t1,h1,h⟩:=bo h;have⟨t2,h2,h⟩:=bo h;have⟨t3,h3,h⟩:=bo h;have q:=Qb (leF (Qv h3)) (Qb (Qs h2) (Qb (Qs h1) QA));let o(l:jOj):=.no::.ret (I t1)::.ret (I t2)::.ret (I t3)::l;obtain⟨N,h⟩|⟨N,h⟩:=io h
 ·have⟨t5,h5,h⟩:=bo h;have⟨t6,h6,h⟩:=bo h;have q:=Q2 Zb h6 (Qb (yy h5) (Qb (nef N) q));let o l:=o (b0::.ret (.lst false 1 t5)::b1::(no 7 (.el (Wj t6)::l)));obtain⟨O,h⟩|⟨O,h⟩:=io h
  ·have⟨M,h⟩:=gd h;have q:=Qb M (Qb (mk2 ⟨#[115,116,97,116,101]⟩ (.tup [.agg [.v (.int .u8 0),.fn (.func 60) [] []],B true]) O) q);let o l:=o (.el (.tup [.agg [.v (.int .u8 0),.fn (.func 60) [] []],B true])::.no::b1::.no::.no::l);obtain⟨J,h⟩|⟨J,h⟩:=io h
   ·cases h;exact rfO 0 (o [b1]) (Qb (jDj J) q)
   have⟨t10,k,h⟩:=bo h;have q:=Qb (qu k) (Qb (jEj J) q);let o l:=o (b0::.obj (some 0) (.d (.lst false 1 t10)) (Qa x y z A C E F G H g i j) Zj::l);obtain⟨f,h⟩|⟨f,h⟩:=io h
   ·cases h;exact rfO 0 (o [b1]) (Qb (eqt f) q)
   have⟨t12,a,h⟩:=bo h;cases h;exact rfO 0 (o [b0,.ret (Qe t12)]) (Qb ((VY a):Computes cx 51 [.lst false 1 t10,Qe ⟨#[32]⟩] (Qe t12)) (Qb (eqf f) q))
  obtain⟨M,h⟩|⟨M,h⟩:=io h
  ·have⟨J,h⟩:=gd h;have q:=Qb J (Qb (mk2 ⟨#[114,97,116,101]⟩ (.tup [.agg [.v (.int .u8 0),.fn (.func 62) [] []],B true]) M) q);let o l:=o (.el (.tup [.agg [.v (.int .u8 0),.fn (.func 62) [] []],B true])::.no::b1::.no::.no::l);obtain⟨k,h⟩|⟨k,h⟩:=io h
   ·cases h;exact rfO 0 (o [b1]) (Qb (jDj k) q)
   have⟨t11,f,h⟩:=bo h;have q:=Qb (qt f) (Qb (jEj k) q);let o l:=o (b0::.obj (some 0) (.d (.lst false 1 t11)) (Qa x y z A C E F G H g i j) Zj::l);obtain⟨a,h⟩|⟨a,h⟩:=io h
   ·cases h;exact rfO 0 (o [b1]) (Qb (eqt a) q)
   have⟨t13,b,h⟩:=bo h;cases h;exact rfO 0 (o [b0,.ret (Qe t13)]) (Qb ((VY b):Computes cx 51 [.lst false 1 t11,Qe ⟨#[32]⟩] (Qe t13)) (Qb (eqf a) q))
  obtain⟨J,h⟩|⟨J,h⟩:=io h
  ·have⟨k,h⟩:=gd h;have q:=Qb k (Qb (mk2 ⟨#[97,105,109,101,100]⟩ (.tup [.agg [.v (.int .u8 0),.fn (.func 64) [] []],B true]) J) q);let o l:=o (.el (.tup [.agg [.v (.int .u8 0),.fn (.func 64) [] []],B true])::.no::b1::.no::.no::l);obtain⟨f,h⟩|⟨f,h⟩:=io h
   ·cases h;exact rfO 0 (o [b1]) (Qb (jDj f) q)
   have⟨t12,a,h⟩:=bo h;have q:=Qb (qr a) (Qb (jEj f) q);let o l:=o (b0::.obj (some 0) (.d (.lst false 1 t12)) (Qa x y z A C E F G H g i j) Zj::l);obtain⟨b,h⟩|⟨b,h⟩:=io h
   ·cases h;exact rfO 0 (o [b1]) (Qb (eqt b) q)
   have⟨t14,c,h⟩:=bo h;cases h;exact rfO 0 (o [b0,.ret (Qe t14)]) (Qb ((VY c):Computes cx 51 [.lst false 1 t12,Qe ⟨#[32]⟩] (Qe t14)) (Qb (eqf b) q))
  obtain⟨k,h⟩|⟨k,h⟩:=io h
  ·have⟨f,h⟩:=gd h;have q:=Qb f (Qb (mk2 ⟨#[98,111,111,107,115]⟩ (.tup [.agg [.v (.int .u8 0),.fn (.func 69) [] []],B true]) k) q);let o l:=o (.el (.tup [.agg [.v (.int .u8 0),.fn (.func 69) [] []],B true])::.no::b1::.no::.no::l);obtain⟨a,h⟩|⟨a,h⟩:=io h
   ·cases h;exact rfO 0 (o [b1]) (Qb (jDj a) q)
   have⟨t13,b,h⟩:=bo h;have q:=Qb (qq b) (Qb (jEj a) q);let o l:=o (b0::.obj (some 0) (.d (.lst false 1 t13)) (Qa x y z A C E F G H g i j) Zj::l);obtain⟨c,h⟩|⟨c,h⟩:=io h
   ·cases h;exact rfO 0 (o [b1]) (Qb (eqt c) q)
   have⟨t15,e,h⟩:=bo h;cases h;exact rfO 0 (o [b0,.ret (Qe t15)]) (Qb ((VY e):Computes cx 51 [.lst false 1 t13,Qe ⟨#[32]⟩] (Qe t15)) (Qb (eqf c) q))
  obtain⟨f,h⟩|⟨f,h⟩:=io h
  ·have⟨a,h⟩:=gd h;have q:=Qb a (Qb (mk2 ⟨#[111,102,102,101,114,115]⟩ (.tup [.agg [.v (.int .u8 0),.fn (.func 71) [] []],B true]) f) q);let o l:=o (.el (.tup [.agg [.v (.int .u8 0),.fn (.func 71) [] []],B true])::.no::b1::.no::.no::l);obtain⟨b,h⟩|⟨b,h⟩:=io h
   ·cases h;exact rfO 0 (o [b1]) (Qb (jDj b) q)
   have⟨t14,c,h⟩:=bo h;have q:=Qb (qp c) (Qb (jEj b) q);let o l:=o (b0::.obj (some 0) (.d (.lst false 1 t14)) (Qa x y z A C E F G H g i j) Zj::l);obtain⟨e,h⟩|⟨e,h⟩:=io h
   ·cases h;exact rfO 0 (o [b1]) (Qb (eqt e) q)
   have⟨t16,m,h⟩:=bo h;cases h;exact rfO 0 (o [b0,.ret (Qe t16)]) (Qb ((VY m):Computes cx 51 [.lst false 1 t14,Qe ⟨#[32]⟩] (Qe t16)) (Qb (eqf e) q))
  obtain⟨a,h⟩|⟨a,h⟩:=io h
  ·have⟨b,h⟩:=gd h;have q:=Qb b (Qb (mk2 ⟨#[100,105,114,116]⟩ (.tup [.agg [.v (.int .u8 109),.fn (.func 77) [] []],B true]) a) q);let o l:=o (.el (.tup [.agg [.v (.int .u8 109),.fn (.func 77) [] []],B true])::.no::b1::.no::.no::l);obtain⟨c,h⟩|⟨c,h⟩:=io h
   ·have⟨t15,e,h⟩:=bo h;have q:=Q2 Zb e (Qb (nef c) q);let o l:=o (b0::.el (Wj t15)::l);obtain⟨m,h⟩|⟨m,h⟩:=io h
    ·cases h;exact rfO 0 (o [b1]) (Qb m q)
    have⟨t17,t,h⟩:=bo h;have⟨t18,h18,h⟩:=bo h;have q:=Qb (Z7 h18) (Qb (Qz t) (Q2 Zb e (Qb (Zy m) q)));let o l:=o (b0::.el (Wj t15)::.obj (some 0) (.d (.lst false 1 t17)) (Qa x y z A C E F G H g i j) Zj::.ret (B t18)::l);obtain⟨p,h⟩|⟨p,h⟩:=io h
    ·have⟨t20,h20,h⟩:=bo h;have q:=Qb (qn h20) (Qb (zV p) q);let o l:=o (b0::.obj (some 0) (.d (.lst false 1 t20)) (Qa x y z A C E F G H g i j) Zj::l);obtain⟨s,h⟩|⟨s,h⟩:=io h
     ·cases h;exact rfO 0 (o [b1]) (Qb (eqt s) q)
     have⟨t22,u,h⟩:=bo h;cases h;exact rfO 0 (o [b0,.ret (Qe t22)]) (Qb ((VY u):Computes cx 51 [.lst false 1 t20,Qe ⟨#[32]⟩] (Qe t22)) (Qb (eqf s) q))
    cases h;exact rfO 0 (o [b1]) (Qb (wG (Zy p)) q)
   cases h;exact rfO 0 (o [b1,.no]) (Qb (net c) q)
  obtain⟨b,h⟩|⟨b,h⟩:=io h
  ·have⟨c,h⟩:=gd h;have q:=Qb c (Qb (mk2 ⟨#[99,111,117,110,116]⟩ (.tup [.agg [.v (.int .u8 115),.fn (.func 79) [] []],B true]) b) q);let o l:=o (.el (.tup [.agg [.v (.int .u8 115),.fn (.func 79) [] []],B true])::.no::b1::.no::.no::l);obtain⟨e,h⟩|⟨e,h⟩:=io h
   ·have⟨t16,m,h⟩:=bo h;have q:=Q2 Zb m (Qb (nef e) q);let o l:=o (b0::.el (Wj t16)::l);obtain⟨t,h⟩|⟨t,h⟩:=io h
    ·cases h;exact rfO 0 (o [b1]) (Qb t q)
    have⟨t18,h18,h⟩:=bo h;have q:=Qb (Z7 h18) (Q2 Zb m (Qb (Zy t) q));let o l:=o (b0::.el (Wj t16)::.ix (-9)::b1::.no::.ix 0::.ret (B t18)::l);obtain⟨p,h⟩|⟨p,h⟩:=io h
    ·have⟨t20,h20,h⟩:=bo h;have q:=Qb (qm h20) (Qb (zV p) q);let o l:=o (b0::.obj (some 0) (.d (.lst false 1 t20)) (Qa x y z A C E F G H g i j) Zj::l);obtain⟨s,h⟩|⟨s,h⟩:=io h
     ·cases h;exact rfO 0 (o [b1]) (Qb (eqt s) q)
     have⟨t22,u,h⟩:=bo h;cases h;exact rfO 0 (o [b0,.ret (Qe t22)]) (Qb ((VY u):Computes cx 51 [.lst false 1 t20,Qe ⟨#[32]⟩] (Qe t22)) (Qb (eqf s) q))
    cases h;exact rfO 0 (o [b1]) (Qb (wG (Zy p)) q)
   cases h;exact rfO 0 (o [b1,.no]) (Qb (net e) q)
  have⟨c,h⟩:=gd h;have q:=Q2 Zb h6 (Qb ((Gb (by kernel_rfl) (mno c)):YX true (.string t6) (.agg [.v (.int .u8 0),.v (.nilFunc)]) tab2=some (.tup [.agg [.v (.int .u8 0),.v (.nilFunc)],B false])) q);let o l:=o (.el (.tup [.agg [.v (.int .u8 0),.v (.nilFunc)],B false])::.no::b1::(no 28 (.el (Wj t6)::l)));obtain⟨e,h⟩|⟨e,h⟩:=io h
  ·have⟨t16,m,h⟩:=bo h;have⟨t,h⟩:=gd h;have⟨t18,h18,h⟩:=bo h;have⟨t19,p,h⟩:=bo h;have⟨t20,h20,h⟩:=bo h;have⟨t21,s,h⟩:=bo h;have q:=Qb (leF (Qv s)) (Qb (Qs h20) (Qb (Qs p) (Qb (QaP h18) (Qb t (Qb ((qU (by kernel_rfl) (Qch XW m)):YX true (.string t6) (.agg [Qe ⟨#[]⟩,I 0,.v (.nilFunc),.v (.nilFunc)]) GB=some (.tup [.agg [Qe t16.1,I t16.2.1,.fn t16.2.2.1.1 t16.2.2.1.2.1 t16.2.2.1.2.2,.fn t16.2.2.2.1 t16.2.2.2.2.1 t16.2.2.2.2.2],B true])) q)))));let o l:=o (.el (.tup [.agg [Qe t16.1,I t16.2.1,.fn t16.2.2.1.1 t16.2.2.1.2.1 t16.2.2.1.2.2,.fn t16.2.2.2.1 t16.2.2.2.2.1 t16.2.2.2.2.2],B true])::.no::.ret (.tup [.agg [I t18.1,Qe t18.2.1,.lst false 1 t18.2.2.1,.lst false 1 t18.2.2.2.1,Qe t18.2.2.2.2.1],B t18.2.2.2.2.2])::.ret (I t19)::.ret (I t20)::.ret (I t21)::l);obtain⟨u,h⟩|⟨u,h⟩:=io h
   ·have⟨t23,h23,h⟩:=bo h;have q:=Qb (UI h23) (Qb (nef u) q);let o l:=o (b0::.ret (I t23)::l);obtain⟨K,h⟩|⟨K,h⟩:=io h
    ·have⟨t25,h25,h⟩:=bo h;have q:=Qb (Yr h25) (Qb (nef K) q);let o l:=o (b0::.obj (some 0) (.d (I t25)) (Qa x y z A C E F G H g i j) Zj::l);obtain⟨L,h⟩|⟨L,h⟩:=io h
     ·have⟨t27,h27,h⟩:=bo h;have⟨t28,h28,h⟩:=bo h;have⟨h29,h⟩:=gd h;cases h;exact rfO 0 (o [b0,.ix (-9),.obj (some 0) (.d (.tup [])) (Qa' t27) [],.ret (Qe t28)]) (Qb h29 (Qb (Yq h28) (Qb (Ut h27) (Qb (nef L) q))))
     cases h;exact rfO 0 (o [b1]) (Qb (net L) q)
    cases h;exact rfO 0 (o [b1]) (Qb (net K) q)
   cases h;exact rfO 0 (o [b1]) (Qb (net u) q)
  cases h;exact rfO 0 (o [.el (.tup [.agg [Qe ⟨#[]⟩,I 0,.v (.nilFunc),.v (.nilFunc)],B false]),.no]) (Qb ((Gb (by kernel_rfl) (mno e)):YX true (.string t6) (.agg [Qe ⟨#[]⟩,I 0,.v (.nilFunc),.v (.nilFunc)]) GB=some (.tup [.agg [Qe ⟨#[]⟩,I 0,.v (.nilFunc),.v (.nilFunc)],B false])) q)
 cases h;exact rfO 0 (o [b1]) (Qb (net N) q)
def ZS (n:Nat)(a0 e:jVj)(f g:Int)(h i:Bool)(j k l:Int)(m c d:jVj)(b:(Int×jVj)):Option (Int×jVj⊕jVj) := if b.1<((a0).length:Int) then if 0<=b.1/\b.1<((a0).length:Int) then((nth (a0) (Int.toNat b.1)).bind Wc).bind fun a=>if 0<=((a.2.2.1).length:Int)/\((a.2.2.1).length:Int)<=((a.2.2.1).length:Int)/\16*((a.2.2.1).length:Int)<=281474976710656/\((a.2.2.1).length:Int)<=9223372036854775807 then if 0<=((a.2.2.2.1).length:Int)/\((a.2.2.2.1).length:Int)<=((a.2.2.2.1).length:Int)/\8*((a.2.2.2.1).length:Int)<=281474976710656/\((a.2.2.2.1).length:Int)<=9223372036854775807 then if Wi 88 ((b.2).length+1) then if Qg (b.1+1) then some (.inl ((b.1+1),(b.2++([.agg [I a.1,.v (.string a.2.1),.lst false 1 (a.2.2.1.take ((List.replicate (Int.toNat ((a.2.2.1).length:Int)) (.v (.string ⟨#[]⟩):D)):jVj).length++(List.replicate (Int.toNat ((a.2.2.1).length:Int)) (.v (.string ⟨#[]⟩):D)).drop (a.2.2.1).length),.lst false 1 (a.2.2.2.1.take ((List.replicate (Int.toNat ((a.2.2.2.1).length:Int)) (I 0:D)):jVj).length++(List.replicate (Int.toNat ((a.2.2.2.1).length:Int)) (I 0:D)).drop (a.2.2.2.1).length),.v (.string a.2.2.2.2)]]:jVj)))) else none else none else none else none else none else some (.inr b.2)
noncomputable def GH (a0 f:jVj)(g h:Int)(i j:Bool)(k l m:Int)(n a b:jVj):Lp (Int×jVj) (jVj):=⟨fun c=>[(1,.d (.fn (.func 41) [] [])),(5,.own 28 0),(8,.own 1 0),(9,.d (I ((a0).length:Int))),(10,.d (I c.1))],fun c=>[(0,.box (.agg [.own 1 0,.own 2 0,.d (I g),.d (I h),.d (B i),.d (B j),.d (I k),.d (I l),.d (I m),.own 10 0,.own 11 0,.own 12 0])),(1,.row 0 5 a0),(2,.row 0 5 f),(10,.row 0 1 n),(11,.row 0 6 a),(12,.row 0 7 b),(28,.row 0 5 c.2)],fun _=>(.exit 0),fun _=>[(5,.own 28 0)],fun e=>[(0,.box (.agg [.own 1 0,.own 2 0,.d (I g),.d (I h),.d (B i),.d (B j),.d (I k),.d (I l),.d (I m),.own 10 0,.own 11 0,.own 12 0])),(1,.row 0 5 a0),(2,.row 0 5 f),(10,.row 0 1 n),(11,.row 0 6 a),(12,.row 0 7 b),(28,.row 0 5 e)]⟩
theorem GD {n a0 d e f g i j k l m b c}(o)(r)(h:ZS n a0 d e f g i j k l m b c o=some r):Rl (Zt cx.P 40 0) 22 23 false (GH a0 d e f g i j k l m b c) o r:=by
 unfold ZS at h;obtain⟨a,h⟩|⟨a,h⟩:=io h
 ·have⟨ha2,h⟩:=gd h;have⟨ta3,ha3,h⟩:=bo h;have⟨ha4,h⟩:=gd h;have⟨ha5,h⟩:=gd h;have⟨ha6,h⟩:=gd h;have⟨ha7,h⟩:=gd h;cases h;exact rn 29 [b1,b1,.el (VQ ta3),b1,b1,b1,b1] [] [1,5,8,9,10] [0,1,2,10,11,12,28] (Qb ha7 (Qb (ro 100 ha6) (Qb ha5 (Qb ha4 (Qb (Q0 V6 ha3) (Qb ha2 (Qb (jDj a) QA)))))))
 cases h;exact rx 29 [b0] [] [5] [0,1,2,10,11,12,28] (Qb (jEj a) QA)
def QW (n:Nat)(a0 c:jVj)(d e:Int)(f g:Bool)(h i j:Int)(k a b:jVj):Option (jVj) := (QU (ZS n a0 c d e f g h i j k a b) n (0,[])).bind fun t1=>some t1
theorem Q4 {n a0 c e f g i j k l m a b r}(h:QW n a0 c e f g i j k l m a b=some r):ComputesO cx 12 [.ptr 0 0 0 0 0] (some (Qa a0 c e f g i j k l m a b)) (.d (.lst false 5 r)) (Qa a0 c e f g i j k l m a b) Zj:=by unfold QW at h;have⟨t1,h1,h⟩:=bo h;obtain rfl:=oi h;exact rfO 0 [.no,b1,.lp [5,5] [1,5,8,9,10] [0,1,2,10,11,12,28] (.exit 0) [(5,.own 28 0)] [(0,.box (.agg [.own 1 0,.own 2 0,.d (I e),.d (I f),.d (B g),.d (B i),.d (I j),.d (I k),.d (I l),.own 10 0,.own 11 0,.own 12 0])),(1,.row 0 5 a0),(2,.row 0 5 c),(10,.row 0 1 m),(11,.row 0 6 a),(12,.row 0 7 b),(28,.row 0 5 t1)] 82] (Qb (QE GD h1) QA)
def Zz (n:Nat)  : Option (Bool) :=
 (VH n 9 0 2 ([.agg [I 10,I 3],.agg [I 30,I 1]])).bind fun t1 =>
 (WO n ([.agg [I 10,I 0]]) ([I 3]) ([I 2]) 20).bind fun t2 =>
 if t1.2.2.2.2=0 then
  if t2.2.2=0 then
   (KP n t1.1 ([I 2,I 2])).bind fun k =>
   if k=true then
    if t1.2.1=80 then
     if t2.1=0 then
      if((t2.2.1).length:Int)=1 then
       (Qj n (⟨#[115,101,99,116,111,114,32,110,32,48]⟩) ([]) ([]) 0 0 false false 0 0 0 ([]) ([]) ([])).bind fun b =>
       if b.2.1=0 then
        (Qj n (⟨#[109,105,114,114,111,114,32,97,32,110,32,48,32,49,48,48]⟩) b.2.2.1 b.2.2.2.1 b.2.2.2.2.1 b.2.2.2.2.2.1 b.2.2.2.2.2.2.1 b.2.2.2.2.2.2.2.1 b.2.2.2.2.2.2.2.2.1 b.2.2.2.2.2.2.2.2.2.1 b.2.2.2.2.2.2.2.2.2.2.1 b.2.2.2.2.2.2.2.2.2.2.2.1 b.2.2.2.2.2.2.2.2.2.2.2.2.1 b.2.2.2.2.2.2.2.2.2.2.2.2.2).bind fun c =>
        if c.2.1=0 then
         (Qj n (⟨#[102,105,108,108,32,48]⟩) c.2.2.1 c.2.2.2.1 c.2.2.2.2.1 c.2.2.2.2.2.1 c.2.2.2.2.2.2.1 c.2.2.2.2.2.2.2.1 c.2.2.2.2.2.2.2.2.1 c.2.2.2.2.2.2.2.2.2.1 c.2.2.2.2.2.2.2.2.2.2.1 c.2.2.2.2.2.2.2.2.2.2.2.1 c.2.2.2.2.2.2.2.2.2.2.2.2.1 c.2.2.2.2.2.2.2.2.2.2.2.2.2).bind fun d =>
         if d.2.1=0 then
          (Qj n (⟨#[115,117,110,32,48,32,51]⟩) d.2.2.1 d.2.2.2.1 d.2.2.2.2.1 d.2.2.2.2.2.1 d.2.2.2.2.2.2.1 d.2.2.2.2.2.2.2.1 d.2.2.2.2.2.2.2.2.1 d.2.2.2.2.2.2.2.2.2.1 d.2.2.2.2.2.2.2.2.2.2.1 d.2.2.2.2.2.2.2.2.2.2.2.1 d.2.2.2.2.2.2.2.2.2.2.2.2.1 d.2.2.2.2.2.2.2.2.2.2.2.2.2).bind fun e =>
          if e.2.1=0 then
           (Qj n (⟨#[97,105,109,32,97,32,48]⟩) e.2.2.1 e.2.2.2.1 e.2.2.2.2.1 e.2.2.2.2.2.1 e.2.2.2.2.2.2.1 e.2.2.2.2.2.2.2.1 e.2.2.2.2.2.2.2.2.1 e.2.2.2.2.2.2.2.2.2.1 e.2.2.2.2.2.2.2.2.2.2.1 e.2.2.2.2.2.2.2.2.2.2.2.1 e.2.2.2.2.2.2.2.2.2.2.2.2.1 e.2.2.2.2.2.2.2.2.2.2.2.2.2).bind fun f =>
           if f.2.1=0 then
            (Qj n (⟨#[111,102,102,101,114,32,111,32,48,32,49,48,32,50,48,32,51,32,49,48]⟩) f.2.2.1 f.2.2.2.1 f.2.2.2.2.1 f.2.2.2.2.2.1 f.2.2.2.2.2.2.1 f.2.2.2.2.2.2.2.1 f.2.2.2.2.2.2.2.2.1 f.2.2.2.2.2.2.2.2.2.1 f.2.2.2.2.2.2.2.2.2.2.1 f.2.2.2.2.2.2.2.2.2.2.2.1 f.2.2.2.2.2.2.2.2.2.2.2.2.1 f.2.2.2.2.2.2.2.2.2.2.2.2.2).bind fun g =>
            if g.2.1=0 then
             (Qj n (⟨#[100,101,108,105,118,101,114,32,111,32,49,48,32,50]⟩) g.2.2.1 g.2.2.2.1 g.2.2.2.2.1 g.2.2.2.2.2.1 g.2.2.2.2.2.2.1 g.2.2.2.2.2.2.2.1 g.2.2.2.2.2.2.2.2.1 g.2.2.2.2.2.2.2.2.2.1 g.2.2.2.2.2.2.2.2.2.2.1 g.2.2.2.2.2.2.2.2.2.2.2.1 g.2.2.2.2.2.2.2.2.2.2.2.2.1 g.2.2.2.2.2.2.2.2.2.2.2.2.2).bind fun a =>
             if a.2.1=0 then
              (QW n a.2.2.1 a.2.2.2.1 a.2.2.2.2.1 a.2.2.2.2.2.1 a.2.2.2.2.2.2.1 a.2.2.2.2.2.2.2.1 a.2.2.2.2.2.2.2.2.1 a.2.2.2.2.2.2.2.2.2.1 a.2.2.2.2.2.2.2.2.2.2.1 a.2.2.2.2.2.2.2.2.2.2.2.1 a.2.2.2.2.2.2.2.2.2.2.2.2.1 a.2.2.2.2.2.2.2.2.2.2.2.2.2).bind fun j =>
              (Vp n j (⟨#[111]⟩)).bind fun h =>
              (Qj n (⟨#[98,111,111,107,115]⟩) a.2.2.1 a.2.2.2.1 a.2.2.2.2.1 a.2.2.2.2.2.1 a.2.2.2.2.2.2.1 a.2.2.2.2.2.2.2.1 a.2.2.2.2.2.2.2.2.1 a.2.2.2.2.2.2.2.2.2.1 a.2.2.2.2.2.2.2.2.2.2.1 a.2.2.2.2.2.2.2.2.2.2.2.1 a.2.2.2.2.2.2.2.2.2.2.2.2.1 a.2.2.2.2.2.2.2.2.2.2.2.2.2).bind fun i =>
              if h.2=0 then
               if h.1=0 then
                if i.2.1=0 then
                 some (i.1.toList==(⟨#[51,48,48,48,48,48,48,32,49,48,48,48,48,48,48,32,48]⟩:jSj).toList)
                else
                none
               else
               none
              else
              none
             else
             none
            else
            none
           else
           none
          else
          none
         else
         none
        else
        none
       else
       none
      else
      none
     else
     none
    else
    none
   else
   none
  else
  none
 else
 none
theorem W9 {n:Nat}  {r:Bool}(h:Zz n =some r):Computes cx 6 [] (B r):=by
 unfold Zz at h;have⟨t1,h1,h⟩:=bo h;have⟨t2,h2,h⟩:=bo h;obtain⟨m,h⟩|⟨m,h⟩:=io h
 ·obtain⟨o,h⟩|⟨o,h⟩:=io h
  ·have⟨t5,h5,h⟩:=bo h;obtain⟨p,h⟩|⟨p,h⟩:=io h
   ·obtain⟨q,h⟩|⟨q,h⟩:=io h
    ·obtain⟨s,h⟩|⟨s,h⟩:=io h
     ·obtain⟨t,h⟩|⟨t,h⟩:=io h
      ·have⟨t10,h10,h⟩:=bo h;obtain⟨a,h⟩|⟨a,h⟩:=io h
       ·have⟨t12,h12,h⟩:=bo h;obtain⟨b,h⟩|⟨b,h⟩:=io h
        ·have⟨t14,h14,h⟩:=bo h;obtain⟨c,h⟩|⟨c,h⟩:=io h
         ·have⟨t16,h16,h⟩:=bo h;obtain⟨e,h⟩|⟨e,h⟩:=io h
          ·have⟨t18,h18,h⟩:=bo h;obtain⟨f,h⟩|⟨f,h⟩:=io h
           ·have⟨t20,h20,h⟩:=bo h;obtain⟨g,h⟩|⟨g,h⟩:=io h
            ·have⟨t22,h22,h⟩:=bo h;obtain⟨i,h⟩|⟨i,h⟩:=io h
             ·have⟨t24,h24,h⟩:=bo h;have⟨t25,h25,h⟩:=bo h;have⟨t26,h26,h⟩:=bo h;obtain⟨j,h⟩|⟨j,h⟩:=io h
              ·obtain⟨k,h⟩|⟨k,h⟩:=io h
               ·obtain⟨l,h⟩|⟨l,h⟩:=io h
                ·cases h;exact rf [.ret (.tup [.lst false 1 t1.1,.agg [I t1.2.1,I t1.2.2.1,I t1.2.2.2.1],I t1.2.2.2.2]),.ret (.tup [I t2.1,.lst false 2 t2.2.1,I t2.2.2]),b1,b0,b0,.ret (B t5),b0,b0,b0,b0,.no,.no,.no,.no,.obj (some 30) (.d (.tup [Qe t10.1,I t10.2.1])) (Qa' t10.2.2) [],b0,.no,.no,.no,.obj (some 30) (.d (.tup [Qe t12.1,I t12.2.1])) (Qa' t12.2.2) [],b0,.no,.no,.no,.obj (some 30) (.d (.tup [Qe t14.1,I t14.2.1])) (Qa' t14.2.2) [],b0,.no,.no,.no,.obj (some 30) (.d (.tup [Qe t16.1,I t16.2.1])) (Qa' t16.2.2) [],b0,.no,.no,.no,.obj (some 30) (.d (.tup [Qe t18.1,I t18.2.1])) (Qa' t18.2.2) [],b0,.no,.no,.no,.obj (some 30) (.d (.tup [Qe t20.1,I t20.2.1])) (Qa' t20.2.2) [],b0,.no,.no,.no,.obj (some 30) (.d (.tup [Qe t22.1,I t22.2.1])) (Qa' t22.2.2) [],b0,.no,.no,.obj (some 30) (.d (.lst false 5 t24)) (Qa' t22.2.2) Zj,.ret (.tup [I t25.1,I t25.2]),.obj (some 30) (.d (.tup [Qe t26.1,I t26.2.1])) (Qa' t26.2.2) [],b1,b1,b1] (Qb (eqt l) (Qb (eqt k) (Qb (eqt j) (Qb (Qo h26) (Qb (Kc h25) (Qb (Q4 h24) (Qb ((by unfold Qg;omega):Qg 7) (Qb (nef i) (Qb (Qo h22) (Qb ((by unfold Qg;omega):Qg 6) (Qb (nef g) (Qb (Qo h20) (Qb ((by unfold Qg;omega):Qg 5) (Qb (nef f) (Qb (Qo h18) (Qb ((by unfold Qg;omega):Qg 4) (Qb (nef e) (Qb (Qo h16) (Qb ((by unfold Qg;omega):Qg 3) (Qb (nef c) (Qb (Qo h14) (Qb ((by unfold Qg;omega):Qg 2) (Qb (nef b) (Qb (Qo h12) (Qb ((by unfold Qg;omega):Qg 1) (Qb (nef a) (Qb (Qo h10) (Qb (nef t) (Qb (nef s) (Qb (nef q) (Qb (zV p) (Qb (((kl h5).le (.cons (.refl _) (.cons (.full _ _ _) (.nil))) (.refl _)):Computes cx 21 [.lst false 1 t1.1,.lst true 1 [I 2,I 2]] (B t5)) (Qb (nef o) (Qb (nef m) (Qb (((Y8 h2).le (.cons (.full _ _ _) (.cons (.full _ _ _) (.cons (.full _ _ _) (.cons (.refl _) (.nil))))) (.refl _)):Computes cx 15 [.lst true 2 [.agg [I 10,I 0]],.lst true 1 [I 3],.lst true 1 [I 2],I 20] (.tup [I t2.1,.lst false 2 t2.2.1,I t2.2.2])) (Qb (((Jn h1).le (.cons (.refl _) (.cons (.full _ _ _) (.nil))) (.refl _)):Computes cx 7 [.agg [I 9,I 0,I 2],.lst true 2 [.agg [I 10,I 3],.agg [I 30,I 1]]] (.tup [.lst false 1 t1.1,.agg [I t1.2.1,I t1.2.2.1,I t1.2.2.2.1],I t1.2.2.2.2])) QA))))))))))))))))))))))))))))))))))))
                cases h
               cases h
              cases h
             cases h
            cases h
           cases h
          cases h
         cases h
        cases h
       cases h
      cases h
     cases h
    cases h
   cases h
  cases h
 cases h
theorem Gm {n a0 b c r}(h:Zq n a0 b c=some r):Computes cx 55 [I a0,I b,I c] (I r):=by
 unfold Zq at h;obtain⟨a,h⟩|⟨a,h⟩:=io h
 ·have⟨t2,h2,h⟩:=bo h;obtain rfl:=oi h;exact rf [b1,.ret (I t2)] (Qb (jd h2) (Qb (jDj a) QA))
 have⟨t2,h2,h⟩:=bo h;obtain rfl:=oi h;exact rf [b0,.ret (I t2)] (Qb (jd h2) (Qb (jEj a) QA))
noncomputable def kJ (a0:jVj):Lp (Int) (Int⊕Unit):=⟨fun a=>[(0,.d (.lst false 1 a0)),(3,.d (I a))],fun _=>[],fun
 | (.inl e)=>.ret
 | (.inr e)=>(.exit 0),fun
 | (.inl e)=>[(2,.d (I e))]
 | (.inr e)=>[],fun _=>[]⟩
theorem XJ {n a0}(c)(r)(h:Q6 n a0 c=some r):Rl (Zt cx.P 54 0) 19 0 false (kJ a0) c r:=by
 unfold Q6 at h;obtain⟨a,h⟩|⟨a,h⟩:=io h
 ·have⟨ta2,ha2,h⟩:=bo h;have q:=Q2 QM ha2 (Qb (jDj a) QA);obtain⟨b,h⟩|⟨b,h⟩:=io h
  ·have⟨ha4,h⟩:=gd h;cases h;exact rn 2 [b1,.el (Zi ta2),b0] [] [0,3] [] (Qb ha4 (Qb (nef b) q))
  cases h;exact rx 2 [b1,.el (Zi ta2),b1,.el (Zi ta2)] [] [2] [] (Q2 QM ha2 (Qb (net b) q))
 cases h;exact rx 2 [b0] [] [] [] (Qb (jEj a) QA)
theorem QaN {n a0 r}(h:Qi n a0=some r):Computes cx 54 [.lst false 1 a0] (I r):=by
 unfold Qi at h;have⟨t1,h1,h⟩:=bo h;obtain t1|t1:=t1
 ·obtain rfl:=oi h;exact rf [.lp [] [0,3] [] .ret [(2,.d (I t1))] [] 27] (Qb (QE XJ h1) QA)
 obtain rfl:=oi h;exact rf [.lp [] [0,3] [] (.exit 0) [] [] 27] (Qb (QE XJ h1) QA)
def ZB (n:Nat)(a0:jVj)(c:Int):Option (Int⊕Int⊕Unit) := if c<((a0).length:Int) then(el UX a0 c).bind fun a=>(Zq n a.1 (-100000) 100000).bind fun d=>(Zq n a.2 0 30).bind fun e=>(Qi n ([I d,I e])).bind fun b=>if b=0 then if Qg (c+1) then some (.inl (c+1)) else none else some (.inr (.inl b)) else some (.inr (.inr ()))
noncomputable def Xe (a0:jVj):Lp (Int) (Int⊕Unit):=⟨fun a=>[(0,.d (.lst false 2 a0)),(3,.d (I a))],fun _=>[],fun
 | (.inl e)=>.ret
 | (.inr e)=>(.exit 0),fun
 | (.inl e)=>[(2,.d (I e))]
 | (.inr e)=>[],fun _=>[]⟩
theorem Uy {n a0}(c)(r)(h:ZB n a0 c=some r):Rl (Zt cx.P 19 0) 31 0 false (Xe a0) c r:=by
 unfold ZB at h;obtain⟨a,h⟩|⟨a,h⟩:=io h
 ·have⟨ta2,ha2,h⟩:=bo h;have⟨ta3,ha3,h⟩:=bo h;have⟨ta4,ha4,h⟩:=bo h;have⟨ta5,ha5,h⟩:=bo h;have q:=Qb (leF (QaN ha5)) (Qb (Gm ha4) (Q2 Yz ha2 (Qb (Gm ha3) (Q2 Yz ha2 (Qb (jDj a) QA)))));let o(l:jOj):=b1::.el (Ux ta2)::.ret (I ta3)::.el (Ux ta2)::.ret (I ta4)::.ret (I ta5)::l;obtain⟨b,h⟩|⟨b,h⟩:=io h
  ·have⟨ha7,h⟩:=gd h;cases h;exact rn 5 (o [b0]) [] [0,3] [] (Qb ha7 (Qb (nef b) q))
  cases h;exact rx 5 (o [b1]) [] [2] [] (Qb (net b) q)
 cases h;exact rx 5 [b0] [] [] [] (Qb (jEj a) QA)
def Vh (n:Nat)(a0:jVj):Option (Int) := if((a0).length:Int)>8 then some 5 else(QU (ZB n a0) n 0).bind fun t2=>match t2 with|.inl t2=>(some t2)|.inr t2=>(some 0)
theorem ED {n a0 r}(h:Vh n a0=some r):Computes cx 19 [.lst false 2 a0] (I r):=by
 unfold Vh at h;obtain⟨a,h⟩|⟨a,h⟩:=io h
 ·obtain rfl:=oi h;exact rf [b1] (Qb (jDj a) QA)
 have q:=Qb (jEj a) QA;have⟨t2,h2,h⟩:=bo h;obtain t2|t2:=t2
 ·obtain rfl:=oi h;exact rf [b0,.lp [] [0,3] [] .ret [(2,.d (I t2))] [] 40] (Qb (QE Uy h2) q)
 obtain rfl:=oi h;exact rf [b0,.lp [] [0,3] [] (.exit 0) [] [] 40] (Qb (QE Uy h2) q)
def Zm (n:Nat)(a0:jVj)(b:(Int×Int×jVj)):Option (Int×Int×jVj⊕Unit⊕Int×jVj) := if b.2.1<((a0).length:Int) then(el UX a0 b.2.1).bind fun a=>if a.1<0 then some (.inr (.inl ())) else if a.1>1000 then some (.inr (.inl ())) else if Qg (b.1+a.2) then if Wi 16 ((b.2.2).length+1) then if Qg (b.2.1+1) then some (.inl ((b.1+a.2),(b.2.1+1),(b.2.2++([.agg [I a.1,I a.2]]:jVj)))) else none else none else none else some (.inr (.inr (b.1,b.2.2)))
noncomputable def Et (a0:jVj):Lp (Int×Int×jVj) (Unit⊕Int×jVj):=⟨fun a=>[(4,.d (I a.1)),(5,.own 20 0),(21,.d (.lst false 2 a0)),(22,.d (I ((a0).length:Int))),(23,.d (I a.2.1))],fun a=>[(20,.row 0 2 a.2.2)],fun
 | (.inl e)=>.ret
 | (.inr e)=>(.exit 0),fun
 | (.inl e)=>[(2,.d (.lst true 0 [])),(3,.d (B false))]
 | (.inr e)=>[(4,.d (I e.1)),(5,.own 20 0)],fun
 | (.inl e)=>[]
 | (.inr e)=>[(20,.row 0 2 e.2)]⟩
theorem Kj {n a0}(d)(r)(h:Zm n a0 d=some r):Rl (Zt cx.P 5 0) 47 0 false (Et a0) d r:=by
 unfold Zm at h;obtain⟨a,h⟩|⟨a,h⟩:=io h
 ·have⟨ta2,ha2,h⟩:=bo h;have q:=Q2 Yz ha2 (Qb (jDj a) QA);let o(l:jOj):=b1::.el (Ux ta2)::l;obtain⟨b,h⟩|⟨b,h⟩:=io h
  ·cases h;exact rx 21 (o [b1,.no]) [] [2,3] [] (Qb (jDj b) q)
  have q:=Qb (jEj b) q;obtain⟨c,h⟩|⟨c,h⟩:=io h
  ·cases h;exact rx 21 (o [b0,b1]) [] [2,3] [] (Qb (jDj c) q)
  have⟨ha5,h⟩:=gd h;have⟨ha6,h⟩:=gd h;have⟨ha7,h⟩:=gd h;cases h;exact rn 21 (o [b0,b0,b1]) [] [4,5,21,22,23] [20] (Qb ha7 (Qb (ro 28 ha6) (Qb ha5 (Qb (jEj c) q))))
 cases h;exact rx 21 [b0] [] [4,5] [20] (Qb (jEj a) QA)
def VL (n:Nat)(a0:jVj):Option (jVj×Bool) := if((a0).length:Int)<1 then some ([],false) else if((a0).length:Int)>6 then some ([],false) else(Vh n a0).bind fun b=>if b=0 then(QU (Zm n a0) n (0,0,[])).bind fun a=>match a with|.inl a=>(some ([],false))|.inr a=>(some (a.2,(decide (a.1<=60)))) else some ([],false)
theorem zo {n a0 r}(h:VL n a0=some r):Computes cx 5 [.lst false 2 a0] (.tup [.lst false 2 r.1,B r.2]):=by
 unfold VL at h;obtain⟨b,h⟩|⟨b,h⟩:=io h
 ·cases h;exact(rf (r:=.tup [.lst true 0 [],B false]) [b1,.no,.no] (Qb (jDj b) QA)).le (LEs.refl _) (.tups (.cons (.nilF) (.cons (.refl _) (.nil))))
 have q:=Qb (jEj b) QA;obtain⟨c,h⟩|⟨c,h⟩:=io h
 ·cases h;exact(rf (r:=.tup [.lst true 0 [],B false]) [b0,b1,.no] (Qb (jDj c) q)).le (LEs.refl _) (.tups (.cons (.nilF) (.cons (.refl _) (.nil))))
 have⟨t3,h3,h⟩:=bo h;have q:=Qb (ED h3) (Qb (jEj c) q);let o(l:jOj):=b0::b0::.ret (I t3)::l;obtain⟨e,h⟩|⟨e,h⟩:=io h
 ·have q:=Qb (nef e) q;have⟨a,h5,h⟩:=bo h;obtain a|a:=a
  ·cases h;exact(rf (r:=.tup [.lst true 0 [],B false]) (o [b0,.lp [5,2] [4,5,21,22,23] [20] .ret [(2,.d (.lst true 0 [])),(3,.d (B false))] [] 57]) (Qb (QE Kj h5) q)).le (LEs.refl _) (.tups (.cons (.nilF) (.cons (.refl _) (.nil))))
  cases h;exact rf (o [b0,.lp [5,2] [4,5,21,22,23] [20] (.exit 0) [(4,.d (I a.1)),(5,.own 20 0)] [(20,.row 0 2 a.2)] 57]) (Qb (QE Kj h5) q)
 cases h;exact(rf (r:=.tup [.lst true 0 [],B false]) (o [b1]) (Qb (net e) q)).le (LEs.refl _) (.tups (.cons (.nilF) (.cons (.refl _) (.nil))))
def QkT (n:Nat)(a0:jVj):Option (Int×Int×Bool×Bool×Int×Int×Int×jVj×jVj×jVj×Int×Int) := (ZK n a0).bind fun t1=>if t1.2.1=0 then some (t1.2.2.2.2.1,t1.2.2.2.2.2.1,t1.2.2.2.2.2.2.1,t1.2.2.2.2.2.2.2.1,t1.2.2.2.2.2.2.2.2.1,t1.2.2.2.2.2.2.2.2.2.1,t1.2.2.2.2.2.2.2.2.2.2.1,t1.2.2.2.2.2.2.2.2.2.2.2.1,t1.2.2.2.2.2.2.2.2.2.2.2.2.1,t1.2.2.2.2.2.2.2.2.2.2.2.2.2,0,0) else some (0,0,false,false,0,0,0,[],[],[],t1.1,t1.2.1)
theorem Qlt {n a0 r}(h:QkT n a0=some r):Computes cx 16 [.lst false 5 a0] (.tup [.agg [I r.1,I r.2.1,B r.2.2.1,B r.2.2.2.1,I r.2.2.2.2.1,I r.2.2.2.2.2.1,I r.2.2.2.2.2.2.1,.lst false 1 r.2.2.2.2.2.2.2.1,.lst false 6 r.2.2.2.2.2.2.2.2.1,.lst false 7 r.2.2.2.2.2.2.2.2.2.1],I r.2.2.2.2.2.2.2.2.2.2.1,I r.2.2.2.2.2.2.2.2.2.2.2]):=by
 unfold QkT at h;have⟨t1,h1,h⟩:=bo h;have q:=Qb (KO h1) QA;let o(l:jOj):=.obj none (.tup [.ptr 0 0 0 0 0,.d (I t1.1),.d (I t1.2.1)]) (Qa' t1.2.2) []::l;obtain⟨a,h⟩|⟨a,h⟩:=io h
 ·cases h;exact rf (o [b0]) (Qb (nef a) q)
 cases h;exact(rf (r:=.tup [jZj,I t1.1,I t1.2.1]) (o [b1]) (Qb (net a) q)).le (LEs.refl _) (.tups (.cons (.aggs (.cons (.refl _) (.cons (.refl _) (.cons (.refl _) (.cons (.refl _) (.cons (.refl _) (.cons (.refl _) (.cons (.refl _) (.cons (.nilF) (.cons (.nilF) (.cons (.nilF) (.nil)))))))))))) (.cons (.refl _) (.cons (.refl _) (.nil)))))
def QkM (n:Nat)(a0:jSj):Option (Int) := if((⟨#[10]⟩:jSj).toList==a0.toList)=true then some 0 else(Un n a0 10).bind fun t2=>some t2
theorem Qlb {n a0 r}(h:QkM n a0=some r):Computes cx 169 [Qe a0,Qe ⟨#[10]⟩] (I r):=by
 unfold QkM at h;obtain⟨a,h⟩|⟨a,h⟩:=io h
 ·obtain rfl:=oi h;exact rf [.no,b1] (Qb a QA)
 have⟨t2,h2,h⟩:=bo h;obtain rfl:=oi h;exact rf [.no,b0,.no,.no,.ret (I t2)] (Qb (ko h2) (Qb (Zy a) QA))
def QkQ (n:Nat)(a0:jSj):Option (jSj×jSj×Bool) := (QkM n a0).bind fun t1=>if t1>=0 then(XY a0 none (some t1)).bind fun a=>if Qg (t1+1) then(XY a0 (some (t1+1)) none).bind fun b=>some (a,b,true) else none else some (a0,⟨#[]⟩,false)
theorem Qlj {n a0 r}(h:QkQ n a0=some r):Computes cx 162 [Qe a0,Qe ⟨#[10]⟩] (.tup [Qe r.1,Qe r.2.1,B r.2.2]):=by
 unfold QkQ at h;have⟨t1,h1,h⟩:=bo h;have q:=Qb (Qlb h1) QA;obtain⟨a,h⟩|⟨a,h⟩:=io h
 ·have⟨t3,b,h⟩:=bo h;have⟨h4,h⟩:=gd h;have⟨t5,c,h⟩:=bo h;cases h;exact rf [.ret (I t1),b1,.el (Qe t3),.el (Qe t5)] (Qb (Qa1 c:Zu cx.P (Instr.sliceAt 9 (.string a0) (some (.int .i64 (t1+1))) none none)=some (.string t5)) (Qb h4 (Qb (Qa1 b:Zu cx.P (Instr.sliceAt 9 (.string a0) none (some (.int .i64 t1)) none)=some (.string t3)) (Qb (jDj a) q))))
 cases h;exact rf [.ret (I t1),b0] (Qb (jEj a) q)
def QkR (n:Nat)(a0:jSj):Option (jSj×jSj×Bool) := (QkQ n a0).bind fun t1=>some (t1.1,t1.2.1,t1.2.2)
theorem Qlu {n a0 r}(h:QkR n a0=some r):Computes cx 141 [Qe a0,Qe ⟨#[10]⟩] (.tup [Qe r.1,Qe r.2.1,B r.2.2]):=by unfold QkR at h;have⟨t1,h1,h⟩:=bo h;cases h;exact rf [.ret (.tup [Qe t1.1,Qe t1.2.1,B t1.2.2])] (Qb (Qlj h1) QA)
def QkS (n:Nat)(a0:jSj)(a:(Int×Int)):Option (Int×Int⊕Int) := if a.2<(a0.size:Int) then if Qg (353*a.1) then(UY a0 a.2).bind fun b=>if Qg ((353*a.1)+(IntKind.wrap .i64 b)) then if Qg (a.2+1) then some (.inl ((Int.tmod ((353*a.1)+(IntKind.wrap .i64 b)) 9999649),(a.2+1))) else none else none else none else some (.inr a.1)
noncomputable def Qld (a0:jSj):Lp (Int×Int) (Int):=⟨fun a=>[(0,.d (Qe a0)),(3,.d (I a.1)),(8,.d (I (a0.size:Int))),(9,.d (I a.2))],fun _=>[],fun _=>(.exit 0),fun e=>[(3,.d (I e))],fun _=>[]⟩
theorem Qlc {n a0}(c)(r)(h:QkS n a0 c=some r):Rl (Zt cx.P 147 0) 38 0 false (Qld a0) c r:=by
 unfold QkS at h;obtain⟨a,h⟩|⟨a,h⟩:=io h
 ·have⟨ha2,h⟩:=gd h;have⟨ta3,b,h⟩:=bo h;have⟨ha4,h⟩:=gd h;have⟨ha5,h⟩:=gd h;cases h;exact rn 5 [b1,.el (.v (.int .u8 ta3))] [] [0,3,8,9] [] (Qb ha5 (Qb ((by decide):(9999649:Int)≠0) (Qb ha4 (Qb (Qc1 b:Zu cx.P (Instr.index 9 (.string a0) (.int .i64 c.2))=some (.int .u8 ta3)) (Qb ha2 (Qb (jDj a) QA))))))
 cases h;exact rx 5 [b0] [] [3] [] (Qb (jEj a) QA)
def QkO (n:Nat)(a0:jSj):Option (jSj) := (QU (QkS n a0) n (1,0)).bind fun t1=>if Qg (48+(Int.tmod t1 10)) then if Qg (Int.tdiv t1 10) then if Qg (48+(Int.tmod (Int.tdiv t1 10) 10)) then if Qg (Int.tdiv (Int.tdiv t1 10) 10) then if Qg (48+(Int.tmod (Int.tdiv (Int.tdiv t1 10) 10) 10)) then if Qg (Int.tdiv (Int.tdiv (Int.tdiv t1 10) 10) 10) then if Qg (48+(Int.tmod (Int.tdiv (Int.tdiv (Int.tdiv t1 10) 10) 10) 10)) then if Qg (Int.tdiv (Int.tdiv (Int.tdiv (Int.tdiv t1 10) 10) 10) 10) then if Qg (48+(Int.tmod (Int.tdiv (Int.tdiv (Int.tdiv (Int.tdiv t1 10) 10) 10) 10) 10)) then if Qg (Int.tdiv (Int.tdiv (Int.tdiv (Int.tdiv (Int.tdiv t1 10) 10) 10) 10) 10) then if Qg (48+(Int.tmod (Int.tdiv (Int.tdiv (Int.tdiv (Int.tdiv (Int.tdiv t1 10) 10) 10) 10) 10) 10)) then if Qg (Int.tdiv (Int.tdiv (Int.tdiv (Int.tdiv (Int.tdiv (Int.tdiv t1 10) 10) 10) 10) 10) 10) then if Qg (48+(Int.tmod (Int.tdiv (Int.tdiv (Int.tdiv (Int.tdiv (Int.tdiv (Int.tdiv t1 10) 10) 10) 10) 10) 10) 10)) then if Qg (Int.tdiv (Int.tdiv (Int.tdiv (Int.tdiv (Int.tdiv (Int.tdiv (Int.tdiv t1 10) 10) 10) 10) 10) 10) 10) then((ku ([.v (.int .u8 (IntKind.wrap .u8 (48+(Int.tmod (Int.tdiv (Int.tdiv (Int.tdiv (Int.tdiv (Int.tdiv (Int.tdiv t1 10) 10) 10) 10) 10) 10) 10)))),.v (.int .u8 (IntKind.wrap .u8 (48+(Int.tmod (Int.tdiv (Int.tdiv (Int.tdiv (Int.tdiv (Int.tdiv t1 10) 10) 10) 10) 10) 10)))),.v (.int .u8 (IntKind.wrap .u8 (48+(Int.tmod (Int.tdiv (Int.tdiv (Int.tdiv (Int.tdiv t1 10) 10) 10) 10) 10)))),.v (.int .u8 (IntKind.wrap .u8 (48+(Int.tmod (Int.tdiv (Int.tdiv (Int.tdiv t1 10) 10) 10) 10)))),.v (.int .u8 (IntKind.wrap .u8 (48+(Int.tmod (Int.tdiv (Int.tdiv t1 10) 10) 10)))),.v (.int .u8 (IntKind.wrap .u8 (48+(Int.tmod (Int.tdiv t1 10) 10)))),.v (.int .u8 (IntKind.wrap .u8 (48+(Int.tmod t1 10))))])).map fun l=>ByteArray.mk l.toArray).bind fun a=>some a else none else none else none else none else none else none else none else none else none else none else none else none else none else none
theorem Qk2 {n a0 r}(h:QkO n a0=some r):Computes cx 147 [Qe a0] (Qe r):=by unfold QkO at h;have⟨t1,h1,h⟩:=bo h;have⟨h2,h⟩:=gd h;have⟨h3,h⟩:=gd h;have⟨h4,h⟩:=gd h;have⟨h5,h⟩:=gd h;have⟨h6,h⟩:=gd h;have⟨h7,h⟩:=gd h;have⟨h8,h⟩:=gd h;have⟨h9,h⟩:=gd h;have⟨h10,h⟩:=gd h;have⟨h11,h⟩:=gd h;have⟨h12,h⟩:=gd h;have⟨h13,h⟩:=gd h;have⟨h14,h⟩:=gd h;have⟨h15,h⟩:=gd h;have⟨t16,h16,h⟩:=bo h;obtain rfl:=oi h;exact rf (.lp [] [0,3,8,9] [] (.exit 0) [(3,.d (I t1))] [] 30::(no 31 [.el (Qe t16)])) (Qb h16 (Qb ((by unfold Qg;omega):Qg 7) (Qb ((by decide):(10:Int)≠0) (Qb h15 (Qb h14 (Qb ((by decide):(10:Int)≠0) (Qb ((by unfold Qg;omega):Qg 0) (Qb ((by unfold Qg;omega):Qg 6) (Qb ((by decide):(10:Int)≠0) (Qb h13 (Qb h12 (Qb ((by decide):(10:Int)≠0) (Qb ((by unfold Qg;omega):Qg 1) (Qb ((by unfold Qg;omega):Qg 5) (Qb ((by decide):(10:Int)≠0) (Qb h11 (Qb h10 (Qb ((by decide):(10:Int)≠0) (Qb ((by unfold Qg;omega):Qg 2) (Qb ((by unfold Qg;omega):Qg 4) (Qb ((by decide):(10:Int)≠0) (Qb h9 (Qb h8 (Qb ((by decide):(10:Int)≠0) (Qb ((by unfold Qg;omega):Qg 3) (Qb ((by unfold Qg;omega):Qg 3) (Qb ((by decide):(10:Int)≠0) (Qb h7 (Qb h6 (Qb ((by decide):(10:Int)≠0) (Qb ((by unfold Qg;omega):Qg 4) (Qb ((by unfold Qg;omega):Qg 2) (Qb ((by decide):(10:Int)≠0) (Qb h5 (Qb h4 (Qb ((by decide):(10:Int)≠0) (Qb ((by unfold Qg;omega):Qg 5) (Qb ((by unfold Qg;omega):Qg 1) (Qb ((by decide):(10:Int)≠0) (Qb h3 (Qb h2 (Qb ((by decide):(10:Int)≠0) (Qb ((by unfold Qg;omega):Qg 6) (Qb (QE Qlc h1) QA))))))))))))))))))))))))))))))))))))))))))))
def QkN (n:Nat)(a0:jSj)(j:Int):Option (Int×jSj×jVj×jVj×jSj×Int) := if Qg ((a0.size:Int) - 7) then if Qg (((a0.size:Int) - 7) - 1) then if(((a0.size:Int) - 7) - 1)<0 then some (0,⟨#[]⟩,[],[],⟨#[]⟩,25) else(UY a0 (((a0.size:Int) - 7) - 1)).bind fun t4=>if t4=35 then if Qg ((((a0.size:Int) - 7) - 1)+1) then(XY a0 (some ((((a0.size:Int) - 7) - 1)+1)) none).bind fun i=>(QkW n i (⟨#[48,49,50,51,52,53,54,55,56,57]⟩)).bind fun k=>if(!(k.toList==(⟨#[]⟩:jSj).toList))=true then some (0,⟨#[]⟩,[],[],⟨#[]⟩,25) else(XY a0 none (some (((a0.size:Int) - 7) - 1))).bind fun d=>(QkO n d).bind fun e=>if(!(e.toList==i.toList))=true then some (0,⟨#[]⟩,[],[],⟨#[]⟩,27) else(YN n d).bind fun b=>(el Vg b 0).bind fun f=>(YP n f).bind fun c=>if(0:Int)<=1/\1<=((b).length:Int)/\((b).length:Int)<=((b).length:Int)/\(b=[]\/1=1) then(Yj n c.1 (b.drop (Int.toNat 1))).bind fun a=>if c.2=true then if a.2.2.2.2.2=true then(Wv n a.1 a.2.1 a.2.2.1 a.2.2.2.1 a.2.2.2.2.1).bind fun g=>if g=0 then(Qm n (c.1 != j) 11).bind fun h=>some (a.1,a.2.1,a.2.2.1,a.2.2.2.1,a.2.2.2.2.1,h) else some (0,⟨#[]⟩,[],[],⟨#[]⟩,25) else some (0,⟨#[]⟩,[],[],⟨#[]⟩,25) else some (0,⟨#[]⟩,[],[],⟨#[]⟩,25) else none else none else some (0,⟨#[]⟩,[],[],⟨#[]⟩,25) else none else none
theorem QlA {n a0 j r}(h:QkN n a0 j=some r):Computes cx 142 [Qe a0,I j] (.tup [.agg [I r.1,Qe r.2.1,.lst false 1 r.2.2.1,.lst false 1 r.2.2.2.1,Qe r.2.2.2.2.1],I r.2.2.2.2.2]):=by
 unfold QkN at h;have⟨h1,h⟩:=gd h;have⟨h2,h⟩:=gd h;have q:=Qb h2 (Qb h1 QA);obtain⟨f,h⟩|⟨f,h⟩:=io h
 ·cases h;exact(rf (r:=.tup [.agg [I 0,Qe ⟨#[]⟩,.lst true 0 [],.lst true 0 [],Qe ⟨#[]⟩],I 25]) [b1,.no,.no] (Qb (jDj f) q)).le (LEs.refl _) (.tups (.cons (.aggs (.cons (.refl _) (.cons (.refl _) (.cons (.nilF) (.cons (.nilF) (.cons (.refl _) (.nil))))))) (.cons (.refl _) (.nil))))
 have⟨t4,m,h⟩:=bo h;have q:=Qb (Qc1 m:Zu cx.P (Instr.index 9 (.string a0) (.int .i64 (((a0.size:Int) - 7) - 1)))=some (.int .u8 t4)) (Qb (jEj f) q);let o(l:jOj):=b0::.el (.v (.int .u8 t4))::l;obtain⟨g,h⟩|⟨g,h⟩:=io h
 ·have⟨h6,h⟩:=gd h;have⟨t7,k,h⟩:=bo h;have⟨t8,h8,h⟩:=bo h;have q:=Qb (Qlr h8) (Qb (Qa1 k:Zu cx.P (Instr.sliceAt 9 (.string a0) (some (.int .i64 ((((a0.size:Int) - 7) - 1)+1))) none none)=some (.string t7)) (Qb h6 (Qb (nef g) q)));let o l:=o (b0::.el (Qe t7)::.ret (Qe t8)::l);obtain⟨i,h⟩|⟨i,h⟩:=io h
  ·cases h;exact(rf (r:=.tup [.agg [I 0,Qe ⟨#[]⟩,.lst true 0 [],.lst true 0 [],Qe ⟨#[]⟩],I 25]) (o [b1]) (Qb i q)).le (LEs.refl _) (.tups (.cons (.aggs (.cons (.refl _) (.cons (.refl _) (.cons (.nilF) (.cons (.nilF) (.cons (.refl _) (.nil))))))) (.cons (.refl _) (.nil))))
  have⟨t10,e,h⟩:=bo h;have⟨t11,h11,h⟩:=bo h;have q:=Qb (Qa1 k:Zu cx.P (Instr.sliceAt 9 (.string a0) (some (.int .i64 ((((a0.size:Int) - 7) - 1)+1))) none none)=some (.string t7)) (Qb h6 (Qb (Qk2 h11) (Qb (Qa1 e:Zu cx.P (Instr.sliceAt 9 (.string a0) none (some (.int .i64 (((a0.size:Int) - 7) - 1))) none)=some (.string t10)) (Qb (Zy i) q))));let o l:=o (b0::.el (Qe t10)::.ret (Qe t11)::.el (Qe t7)::l);obtain⟨a,h⟩|⟨a,h⟩:=io h
  ·cases h;exact(rf (r:=.tup [.agg [I 0,Qe ⟨#[]⟩,.lst true 0 [],.lst true 0 [],Qe ⟨#[]⟩],I 27]) (o [b1]) (Qb a q)).le (LEs.refl _) (.tups (.cons (.aggs (.cons (.refl _) (.cons (.refl _) (.cons (.nilF) (.cons (.nilF) (.cons (.refl _) (.nil))))))) (.cons (.refl _) (.nil))))
  have⟨t13,h13,h⟩:=bo h;have⟨t14,h14,h⟩:=bo h;have⟨t15,h15,h⟩:=bo h;have⟨h16,h⟩:=gd h;have⟨t17,h17,h⟩:=bo h;have q:=Qb (QaP h17) (Qb h16 (Qb (yB h15) (Q2 Zb h14 (Qb (yy h13) (Qb (Qa1 e:Zu cx.P (Instr.sliceAt 9 (.string a0) none (some (.int .i64 (((a0.size:Int) - 7) - 1))) none)=some (.string t10)) (Qb (Zy a) q))))));let o l:=o (b0::.el (Qe t10)::.ret (.lst false 1 t13)::.el (Wj t14)::.ret (.tup [I t15.1,B t15.2])::b1::.ret (.tup [.agg [I t17.1,Qe t17.2.1,.lst false 1 t17.2.2.1,.lst false 1 t17.2.2.2.1,Qe t17.2.2.2.2.1],B t17.2.2.2.2.2])::l);obtain⟨b,h⟩|⟨b,h⟩:=io h
  ·have q:=Qb (zV b) q;obtain⟨c,h⟩|⟨c,h⟩:=io h
   ·have⟨t20,h20,h⟩:=bo h;have q:=Qb (UI h20) (Qb (zV c) q);let o l:=o (b0::b0::.ret (I t20)::l);obtain⟨d,h⟩|⟨d,h⟩:=io h
    ·have⟨t22,h22,h⟩:=bo h;cases h;exact rf (o [b0,.ret (I t22)]) (Qb (Qs h22) (Qb (nef d) q))
    cases h;exact(rf (r:=.tup [.agg [I 0,Qe ⟨#[]⟩,.lst true 0 [],.lst true 0 [],Qe ⟨#[]⟩],I 25]) (o [b1]) (Qb (net d) q)).le (LEs.refl _) (.tups (.cons (.aggs (.cons (.refl _) (.cons (.refl _) (.cons (.nilF) (.cons (.nilF) (.cons (.refl _) (.nil))))))) (.cons (.refl _) (.nil))))
   cases h;exact(rf (r:=.tup [.agg [I 0,Qe ⟨#[]⟩,.lst true 0 [],.lst true 0 [],Qe ⟨#[]⟩],I 25]) (o [b0,b1,.no]) (Qb (wG (Zy c)) q)).le (LEs.refl _) (.tups (.cons (.aggs (.cons (.refl _) (.cons (.refl _) (.cons (.nilF) (.cons (.nilF) (.cons (.refl _) (.nil))))))) (.cons (.refl _) (.nil))))
  cases h;exact(rf (r:=.tup [.agg [I 0,Qe ⟨#[]⟩,.lst true 0 [],.lst true 0 [],Qe ⟨#[]⟩],I 25]) (o [b1,.no,.no]) (Qb (wG (Zy b)) q)).le (LEs.refl _) (.tups (.cons (.aggs (.cons (.refl _) (.cons (.refl _) (.cons (.nilF) (.cons (.nilF) (.cons (.refl _) (.nil))))))) (.cons (.refl _) (.nil))))
 cases h;exact(rf (r:=.tup [.agg [I 0,Qe ⟨#[]⟩,.lst true 0 [],.lst true 0 [],Qe ⟨#[]⟩],I 25]) (o [b1,.no]) (Qb (net g) q)).le (LEs.refl _) (.tups (.cons (.aggs (.cons (.refl _) (.cons (.refl _) (.cons (.nilF) (.cons (.nilF) (.cons (.refl _) (.nil))))))) (.cons (.refl _) (.nil))))
def QkJ (n:Nat)(a0:jSj)(b:(Int×jVj)):Option (Int×jVj⊕Int×Int×jVj⊕Int×jVj) := if b.1<(a0.size:Int) then(XY a0 (some b.1) none).bind fun d=>(QkR n d).bind fun c=>if c.2.2=true then if Qg (((b.2).length:Int)+1) then(QkN n c.1 (((b.2).length:Int)+1)).bind fun a=>if a.2.2.2.2.2=0 then if Wi 88 ((b.2).length+1) then if Qg ((c.1.size:Int)+1) then if Qg (b.1+((c.1.size:Int)+1)) then some (.inl ((b.1+((c.1.size:Int)+1)),(b.2++([.agg [I a.1,.v (.string a.2.1),.lst false 1 a.2.2.1,.lst false 1 a.2.2.2.1,.v (.string a.2.2.2.2.1)]]:jVj)))) else none else none else none else some (.inr (.inl (b.1,a.2.2.2.2.2,b.2))) else none else some (.inr (.inl (b.1,28,b.2))) else some (.inr (.inr (b.1,b.2)))
noncomputable def Qlg (a0:jSj):Lp (Int×jVj) (Int×Int×jVj⊕Int×jVj):=⟨fun a=>[(0,.d (Qe a0)),(5,.own 8 0),(6,.d (I a.1))],fun a=>[(8,.row 0 5 a.2)],fun
 | (.inl e)=>.ret
 | (.inr e)=>(.exit 0),fun
 | (.inl e)=>[(2,.own 8 0),(3,.d (I e.1)),(4,.d (I e.2.1))]
 | (.inr e)=>[(5,.own 8 0),(6,.d (I e.1))],fun
 | (.inl e)=>[(8,.row 0 5 e.2.2)]
 | (.inr e)=>[(8,.row 0 5 e.2)]⟩
theorem Qk1 {n a0}(e)(r)(h:QkJ n a0 e=some r):Rl (Zt cx.P 50 0) 55 0 false (Qlg a0) e r:=by
 unfold QkJ at h;obtain⟨a,h⟩|⟨a,h⟩:=io h
 ·have⟨ta2,d,h⟩:=bo h;have⟨ta3,ha3,h⟩:=bo h;have q:=Qb (Qlu ha3) (Qb (Qa1 d:Zu cx.P (Instr.sliceAt 9 (.string a0) (some (.int .i64 e.1)) none none)=some (.string ta2)) (Qb (jDj a) QA));let o(l:jOj):=b1::.el (Qe ta2)::.ret (.tup [Qe ta3.1,Qe ta3.2.1,B ta3.2.2])::l;obtain⟨b,h⟩|⟨b,h⟩:=io h
  ·have⟨ha5,h⟩:=gd h;have⟨ta6,ha6,h⟩:=bo h;have q:=Qb (QlA ha6) (Qb ha5 (Qb (zV b) q));let o l:=o (b0::.ret (.tup [.agg [I ta6.1,Qe ta6.2.1,.lst false 1 ta6.2.2.1,.lst false 1 ta6.2.2.2.1,Qe ta6.2.2.2.2.1],I ta6.2.2.2.2.2])::l);obtain⟨c,h⟩|⟨c,h⟩:=io h
   ·have⟨ha8,h⟩:=gd h;have⟨ha9,h⟩:=gd h;have⟨ha10,h⟩:=gd h;cases h;exact rn 9 (o [b0,b1]) [] [0,5,6] [8] (Qb ha10 (Qb ha9 (Qb (ro 100 ha8) (Qb (nef c) q))))
   cases h;exact rx 9 (o [b1]) [] [2,3,4] [8] (Qb (net c) q)
  cases h;exact rx 9 (o [b1]) [] [2,3,4] [8] (Qb (wG (Zy b)) q)
 cases h;exact rx 9 [b0] [] [5,6] [8] (Qb (jEj a) QA)
def QkU (n:Nat)(a0:jSj):Option (jVj×Int×Int) := if(a0.size:Int)>1000000 then some ([],0,26) else(QU (QkJ n a0) n (0,[])).bind fun t2=>match t2 with|.inl t2=>(some (t2.2.2,t2.1,t2.2.1))|.inr t2=>(some (t2.2,t2.1,0))
theorem Qlm {n a0 r}(h:QkU n a0=some r):Computes cx 50 [Qe a0] (.tup [.lst false 5 r.1,I r.2.1,I r.2.2]):=by
 unfold QkU at h;obtain⟨a,h⟩|⟨a,h⟩:=io h
 ·cases h;exact(rf (r:=.tup [.lst true 0 [],I 0,I 26]) [b1] (Qb (jDj a) QA)).le (LEs.refl _) (.tups (.cons (.nilF) (.cons (.refl _) (.cons (.refl _) (.nil)))))
 have q:=Qb (jEj a) QA;have⟨t2,h2,h⟩:=bo h;obtain t2|t2:=t2
 ·cases h;exact rf [b0,.lp [5,5] [0,5,6] [8] .ret [(2,.own 8 0),(3,.d (I t2.1)),(4,.d (I t2.2.1))] [(8,.row 0 5 t2.2.2)] 61] (Qb (QE Qk1 h2) q)
 cases h;exact rf [b0,.lp [5,5] [0,5,6] [8] (.exit 0) [(5,.own 8 0),(6,.d (I t2.1))] [(8,.row 0 5 t2.2)] 61] (Qb (QE Qk1 h2) q)
def QkZ (n:Nat)(a0:Int)(a:jSj)(b d:jVj)(f:jSj):Option (jSj) := (Wr n a0).bind fun t1=>if Wi 16 (2+(b).length) then if Vk b=true then(Wu n d).bind fun t4=>if Wi 16 (2+(t4).length) then if Vk t4=true then(ZI n ([.v (.string t1),.v (.string a)]) (⟨#[32]⟩)).bind fun c=>some c else(ZI n (.v (.string t1)::(.v (.string a)::t4)) (⟨#[32]⟩)).bind fun c=>some c else none else(Wu n d).bind fun t4=>if Wi 16 (((.v (.string t1)::(.v (.string a)::b)):jVj).length+(t4).length) then(ZI n (.v (.string t1)::(.v (.string a)::(b++t4))) (⟨#[32]⟩)).bind fun e=>some e else none else none
theorem QlB {n a0 a c e f r}(h:QkZ n a0 a c e f=some r):Computes cx 146 [.agg [I a0,Qe a,.lst false 1 c,.lst false 1 e,Qe f]] (Qe r):=by
 unfold QkZ at h;have⟨t1,h1,h⟩:=bo h;have⟨h2,h⟩:=gd h;have q:=Qb (ro 9 h2) (Qb (Yq h1) QA);let o(l:jOj):=.ret (Qe t1)::b1::l;obtain⟨d,h⟩|⟨d,h⟩:=io h
 ·have⟨t4,h4,h⟩:=bo h;have⟨h5,h⟩:=gd h;have q:=Qb (ro 9 h5) (Qb (Gn h4) (Qb d q));let o l:=o (b1::.ret (.lst false 1 t4)::b1::l);obtain⟨b,h⟩|⟨b,h⟩:=io h
  ·have⟨t7,h7,h⟩:=bo h;obtain rfl:=oi h;exact rf (o [b1,.ret (Qe t7)]) (Qb (((VY h7).le (.cons (.full _ _ _) (.cons (.refl _) (.nil))) (.refl _)):Computes cx 51 [.lst true 1 [Qe t1,Qe a],Qe ⟨#[32]⟩] (Qe t7)) (Qb b q))
  have⟨t7,h7,h⟩:=bo h;obtain rfl:=oi h;exact rf (o [b0,.ret (Qe t7)]) (Qb ((VY h7):Computes cx 51 [.lst false 1 (Qe t1::(Qe a::t4)),Qe ⟨#[32]⟩] (Qe t7)) (Qb (Zy b) q))
 have⟨t4,h4,h⟩:=bo h;have⟨h5,h⟩:=gd h;have⟨t6,b,h⟩:=bo h;obtain rfl:=oi h;exact rf (o [b0,.ret (.lst false 1 t4),b1,.ret (Qe t6)]) (Qb ((VY b):Computes cx 51 [.lst false 1 (Qe t1::(Qe a::(c++t4))),Qe ⟨#[32]⟩] (Qe t6)) (Qb (ro 9 h5) (Qb (Gn h4) (Qb (Zy d) q))))
def QkX (n:Nat)(a0:Int)(b:jSj)(c d:jVj)(e:jSj):Option (jSj) := (QkZ n a0 b c d e).bind fun t1=>if t1.size+(⟨#[35]⟩:jSj).size<=9223372036854775807 then(QkO n t1).bind fun a=>if(t1++(⟨#[35]⟩:jSj)).size+a.size<=9223372036854775807 then if((t1++(⟨#[35]⟩:jSj))++a).size+(⟨#[10]⟩:jSj).size<=9223372036854775807 then some (((t1++(⟨#[35]⟩:jSj))++a)++(⟨#[10]⟩:jSj)) else none else none else none
theorem Qls {n a0 a b c d r}(h:QkX n a0 a b c d=some r):Computes cx 53 [.agg [I a0,Qe a,.lst false 1 b,.lst false 1 c,Qe d]] (Qe r):=by unfold QkX at h;have⟨t1,h1,h⟩:=bo h;have⟨h2,h⟩:=gd h;have⟨t3,h3,h⟩:=bo h;have⟨h4,h⟩:=gd h;have⟨h5,h⟩:=gd h;cases h;exact rf [.ret (Qe t1),.ret (Qe t3)] (Qb h5 (Qb h4 (Qb (Qk2 h3) (Qb h2 (Qb (QlB h1) QA)))))
def QkK (n:Nat)(a0 f:jVj)(g h:Int)(i j:Bool)(k l m:Int)(o d e:jVj)(b:(Int×jVj)):Option (Int×jVj⊕jVj) := if b.1<((a0).length:Int) then if 0<=b.1/\b.1<((a0).length:Int) then((nth (a0) (Int.toNat b.1)).bind Wc).bind fun a=>(QkX n a.1 a.2.1 a.2.2.1 a.2.2.2.1 a.2.2.2.2).bind fun c=>if Wi 16 ((b.2).length+1) then if Qg (b.1+1) then some (.inl ((b.1+1),(b.2++([.v (.string c)]:jVj)))) else none else none else none else some (.inr b.2)
noncomputable def Qk8 (a0 f:jVj)(g h:Int)(i j:Bool)(k l m:Int)(n a b:jVj):Lp (Int×jVj) (jVj):=⟨fun c=>[(1,.d (.fn (.func 53) [] [])),(5,.own 29 0),(8,.own 1 0),(9,.d (I ((a0).length:Int))),(10,.d (I c.1))],fun c=>[(0,.box (.agg [.own 1 0,.own 2 0,.d (I g),.d (I h),.d (B i),.d (B j),.d (I k),.d (I l),.d (I m),.own 10 0,.own 11 0,.own 12 0])),(1,.row 0 5 a0),(2,.row 0 5 f),(10,.row 0 1 n),(11,.row 0 6 a),(12,.row 0 7 b),(29,.row 0 1 c.2)],fun _=>(.exit 0),fun _=>[(5,.own 29 0)],fun e=>[(0,.box (.agg [.own 1 0,.own 2 0,.d (I g),.d (I h),.d (B i),.d (B j),.d (I k),.d (I l),.d (I m),.own 10 0,.own 11 0,.own 12 0])),(1,.row 0 5 a0),(2,.row 0 5 f),(10,.row 0 1 n),(11,.row 0 6 a),(12,.row 0 7 b),(29,.row 0 1 e)]⟩
theorem Qk7 {n a0 d e f g i j k l m b c}(o)(r)(h:QkK n a0 d e f g i j k l m b c o=some r):Rl (Zt cx.P 52 0) 22 24 false (Qk8 a0 d e f g i j k l m b c) o r:=by
 unfold QkK at h;obtain⟨a,h⟩|⟨a,h⟩:=io h
 ·have⟨ha2,h⟩:=gd h;have⟨ta3,ha3,h⟩:=bo h;have⟨ta4,ha4,h⟩:=bo h;have⟨ha5,h⟩:=gd h;have⟨ha6,h⟩:=gd h;cases h;exact rn 30 [b1,b1,.el (VQ ta3),.ret (Qe ta4),b1] [] [1,5,8,9,10] [0,1,2,10,11,12,29] (Qb ha6 (Qb (ro 9 ha5) (Qb (Qls ha4) (Qb (Q0 V6 ha3) (Qb ha2 (Qb (jDj a) QA))))))
 cases h;exact rx 30 [b0] [] [5] [0,1,2,10,11,12,29] (Qb (jEj a) QA)
def QkL (n:Nat)(a0 c:jVj)(d e:Int)(f g:Bool)(h i j:Int)(k a b:jVj):Option (jSj) := (QU (QkK n a0 c d e f g h i j k a b) n (0,[])).bind fun t1=>(ZI n t1 (⟨#[]⟩)).bind fun t2=>some t2
theorem QkY {n a0 c e f g i j k l m a b r}(h:QkL n a0 c e f g i j k l m a b=some r):ComputesO cx 18 [.ptr 0 0 0 0 0] (some (Qa a0 c e f g i j k l m a b)) (.d (Qe r)) (Qa a0 c e f g i j k l m a b) Zj:=by unfold QkL at h;have⟨t1,h1,h⟩:=bo h;have⟨t2,h2,h⟩:=bo h;obtain rfl:=oi h;exact rfO 0 [.no,b1,.lp [5,1] [1,5,8,9,10] [0,1,2,10,11,12,29] (.exit 0) [(5,.own 29 0)] [(0,.box (.agg [.own 1 0,.own 2 0,.d (I e),.d (I f),.d (B g),.d (B i),.d (I j),.d (I k),.d (I l),.own 10 0,.own 11 0,.own 12 0])),(1,.row 0 5 a0),(2,.row 0 5 c),(10,.row 0 1 m),(11,.row 0 6 a),(12,.row 0 7 b),(29,.row 0 1 t1)] 55,.ret (Qe t2)] (Qb ((VY h2):Computes cx 51 [.lst false 1 t1,Qe ⟨#[]⟩] (Qe t2)) (Qb (QE Qk7 h1) QA))
def Qk0 (n:Nat)(a0:jSj):Option (Int×jVj×jVj×jRj) := (QkU n a0).bind fun t1=>if t1.2.2=0 then(ZK n t1.1).bind fun a=>if a.2.1=0 then some (0,a.2.2.1,a.2.2.2.1,a.2.2.2.2.1,a.2.2.2.2.2.1,a.2.2.2.2.2.2.1,a.2.2.2.2.2.2.2.1,a.2.2.2.2.2.2.2.2.1,a.2.2.2.2.2.2.2.2.2.1,a.2.2.2.2.2.2.2.2.2.2.1,a.2.2.2.2.2.2.2.2.2.2.2.1,a.2.2.2.2.2.2.2.2.2.2.2.2.1,a.2.2.2.2.2.2.2.2.2.2.2.2.2) else none else if t1.2.2=28 then(ZK n t1.1).bind fun t4=>if t4.2.1=0 then some (0,t4.2.2.1,t4.2.2.2.1,t4.2.2.2.2.1,t4.2.2.2.2.2.1,t4.2.2.2.2.2.2.1,t4.2.2.2.2.2.2.2.1,t4.2.2.2.2.2.2.2.2.1,t4.2.2.2.2.2.2.2.2.2.1,t4.2.2.2.2.2.2.2.2.2.2.1,t4.2.2.2.2.2.2.2.2.2.2.2.1,t4.2.2.2.2.2.2.2.2.2.2.2.2.1,t4.2.2.2.2.2.2.2.2.2.2.2.2.2) else none else none
theorem QlC {n a0 r}(h:Qk0 n a0=some r):ComputesO cx 17 [.d (Qe a0)] none (.tup [.ptr 0 0 0 0 0,.d (I r.1)]) (Qa' r.2) []:=by
 unfold Qk0 at h;have⟨t1,h1,h⟩:=bo h;have q:=Qb (Qlm h1) QA;let o(l:jOj):=.ret (.tup [.lst false 5 t1.1,I t1.2.1,I t1.2.2])::l;obtain⟨c,h⟩|⟨c,h⟩:=io h
 ·have⟨t3,a,h⟩:=bo h;obtain⟨b,h⟩|⟨b,h⟩:=io h
  ·cases h;exact rfO 45 (o [b0,.no,.obj none (.tup [.ptr 0 0 0 0 0,.d (I t3.1),.d (I t3.2.1)]) (Qa' t3.2.2) [],b0]) (Qb (nef b) (Qb (KO a) (Qb (nef c) q)))
  cases h
 obtain⟨a,h⟩|⟨a,h⟩:=io h
 ·have⟨t4,b,h⟩:=bo h;obtain⟨e,h⟩|⟨e,h⟩:=io h
  ·cases h;exact rfO 45 (o [b1,b0,.obj none (.tup [.ptr 0 0 0 0 0,.d (I t4.1),.d (I t4.2.1)]) (Qa' t4.2.2) [],b0]) (Qb (nef e) (Qb (KO b) (Qb (nef a) (Qb (net c) q))))
  cases h
 cases h
end Go.Proofs.YthdghjjahodkaaaGreatDoor
