/- Own texts. -/
import Derived.Test.YthdghjjahodkaaaGreatDoorAn3
set_option linter.unusedSimpArgs false
set_option linter.unusedVariables false
set_option linter.unnecessarySimpa false
set_option maxRecDepth 10000
set_option maxHeartbeats 4000000
namespace Go.Proofs.YthdghjjahodkaaaGreatDoor
open Go.SX
def Yu (n:Nat)(d a c e f g h b:Int):Option (Int) := if Qg (a+b) then some (Zv c (a+b)) else none
theorem kp {n a b c d e f g i r}(h:Yu n a b c d e f g i=some r):Computes cx 56 [.agg [I a,I b,I c,I d,I e,I f],.agg [I g,I i]] (I r):=by unfold Yu at h;have⟨h1,h⟩:=gd h;cases h;exact rf [] (Qb h1 QA)
def Vl (n:Nat)(d b h f i g e c a:Int):Option (Int×Int×Int×Int×Int×Int) := if Qg (b+c) then if Qg ((b+c) - a) then if Qg (e*a) then if Qg (f+(e*a)) then if Qg (((b+c) - a) - (Zv ((b+c) - a) d)) then if Qg (g+(((b+c) - a) - (Zv ((b+c) - a) d))) then some (d,(Zv ((b+c) - a) d),h,(f+(e*a)),(Zv ((b+c) - a) d),(g+(((b+c) - a) - (Zv ((b+c) - a) d)))) else none else none else none else none else none else none
theorem Gp {n a b c d e f g i j r}(h:Vl n a b c d e f g i j=some r):Computes cx 57 [.agg [I a,I b,I c,I d,I e,I f],.agg [I g,I i],I j] (.agg [I r.1,I r.2.1,I r.2.2.1,I r.2.2.2.1,I r.2.2.2.2.1,I r.2.2.2.2.2]):=by unfold Vl at h;have⟨h1,h⟩:=gd h;have⟨h2,h⟩:=gd h;have⟨h3,h⟩:=gd h;have⟨h4,h⟩:=gd h;have⟨h5,h⟩:=gd h;have⟨h6,h⟩:=gd h;cases h;exact rf [] (Qb h6 (Qb h5 (Qb h4 (Qb h3 (Qb h2 (Qb h1 QA))))))
def V0 (n:Nat)(a c e b d f:Int):Option (Bool) := if a>b then some true else if a=b then some (decide (c>d)) else some false
theorem wm {n c d e f g i r}(h:V0 n c d e f g i=some r):Computes cx 58 [.agg [I c,I d,I e],.agg [I f,I g,I i]] (B r):=by
 unfold V0 at h;obtain⟨a,h⟩|⟨a,h⟩:=io h
 ·obtain rfl:=oi h;exact rf [b1] (Qb (jDj a) QA)
 have q:=Qb (jEj a) QA;obtain⟨b,h⟩|⟨b,h⟩:=io h
 ·cases h;exact rf [b0,b1] (Qb (eqt b) q)
 obtain rfl:=oi h;exact rf [b0,b0] (Qb (eqf b) q)
def W1 (n:Nat)(d i e:Int)(j:jVj)(f k:Int)(o:jVj)(l:Vd)(g:Int×Int)(m:Int)(c:(Unit)⊕Int×jVj×jVj×Int×Int×Int):Option ((Unit⊕Int×jVj×jVj×Int×Int×Int)⊕Unit⊕jVj×jVj×Int×Int×Int):=match c with|(.inl c)=>(if 0<(m+1) then(Vl n d k e 0 0 0 g.1 g.2 0).bind fun b=>if Qg (f+1) then(l d i e j (f+1) b.2.1 o).bind fun a=>if Qg (b.2.2.2.1+a.2.1) then if Qg (b.2.2.2.2.2+a.2.2.2.1) then if Wi 8 (1+(a.1).length) then if Vk a.1=true then some (.inl (.inr (1,a.2.2.2.2,[I 0],(b.2.2.2.1+a.2.1),a.2.2.1,(b.2.2.2.2.2+a.2.2.2.1)))) else some (.inl (.inr (1,a.2.2.2.2,(I 0::a.1),(b.2.2.2.1+a.2.1),a.2.2.1,(b.2.2.2.2.2+a.2.2.2.1)))) else none else none else none else none else some (.inr (.inl ())))|.inr c=>(if c.1<(m+1) then(Vl n d k e 0 0 0 g.1 g.2 c.1).bind fun b=>if Qg (f+1) then(l d i e j (f+1) b.2.1 c.2.1).bind fun a=>if Qg (b.2.2.2.1+a.2.1) then if Qg (b.2.2.2.2.2+a.2.2.2.1) then if ¬(Vk c.2.2.1=true) then(V0 n (b.2.2.2.1+a.2.1) a.2.2.1 (b.2.2.2.2.2+a.2.2.2.1) c.2.2.2.1 c.2.2.2.2.1 c.2.2.2.2.2).bind fun h=>if h=true then if Wi 8 (1+(a.1).length) then if Vk a.1=true then if Qg (c.1+1) then some (.inl (.inr ((c.1+1),a.2.2.2.2,[I c.1],(b.2.2.2.1+a.2.1),a.2.2.1,(b.2.2.2.2.2+a.2.2.2.1)))) else none else if Qg (c.1+1) then some (.inl (.inr ((c.1+1),a.2.2.2.2,(I c.1::a.1),(b.2.2.2.1+a.2.1),a.2.2.1,(b.2.2.2.2.2+a.2.2.2.1)))) else none else none else if Qg (c.1+1) then some (.inl (.inr ((c.1+1),a.2.2.2.2,c.2.2.1,c.2.2.2.1,c.2.2.2.2.1,c.2.2.2.2.2))) else none else none else none else none else none else some (.inr (.inr (c.2.1,c.2.2.1,c.2.2.2.1,c.2.2.2.2.1,c.2.2.2.2.2))))
noncomputable def kN (a f b:Int)(g:jVj)(h c:Int)(j:jVj)(l:Vd)(i:Int×Int)(k:Int):Lp (Unit⊕Int×jVj×jVj×Int×Int×Int) (Unit⊕jVj×jVj×Int×Int×Int):=⟨fun
 | (.inl sa)=>[(2,.ptr 1 0 0 0 0),(3,.ptr 2 0 0 0 0),(4,.ptr 3 0 0 0 0),(7,.ptr 27 0 0 0 0),(8,.ptr 40 0 0 0 0),(9,.ptr 42 0 0 0 0),(53,.d (I (k+1))),(54,.d (I 0))]
 | (.inr sa)=>[(2,.ptr 1 0 0 0 0),(3,.ptr 2 0 0 0 0),(4,.ptr 3 0 0 0 0),(7,.ptr 27 0 0 0 0),(8,.ptr 40 0 0 0 0),(9,.ptr 42 0 0 0 0),(53,.d (I (k+1))),(54,.d (I sa.1))],fun
 | (.inl sa)=>[(0,.mp j),(1,.box (.agg [.d (I a),.d (I f),.d (I b),.d (.lst false 2 g),.own 0 0])),(2,.box (.d (.agg [I h,I c]))),(3,.box (.agg [.d (.v (.slice none 0 0)),.d (I 0),.d (I 0),.d (I 0)])),(27,.box (.d (.agg [I i.1,I i.2]))),(40,.box (.d (.agg [I a,I c,I b,I 0,I 0,I 0]))),(42,.box (.agg [.d (.v (.slice none 0 0)),.d (I 0),.d (I 0),.d (I 0)]))]
 | (.inr sa)=>[(0,.mp sa.2.1),(1,.box (.agg [.d (I a),.d (I f),.d (I b),.d (.lst false 2 g),.own 0 0])),(2,.box (.d (.agg [I h,I c]))),(3,.box (.agg [.d (.v (.slice none 0 0)),.d (I 0),.d (I 0),.d (I 0)])),(27,.box (.d (.agg [I i.1,I i.2]))),(40,.box (.d (.agg [I a,I c,I b,I 0,I 0,I 0]))),(42,.box (.d (.agg [.lst false 1 sa.2.2.1,I sa.2.2.2.1,I sa.2.2.2.2.1,I sa.2.2.2.2.2])))],fun _=>(.exit 0),fun _=>[(2,.ptr 1 0 0 0 0),(3,.ptr 2 0 0 0 0),(4,.ptr 3 0 0 0 0),(9,.ptr 42 0 0 0 0)],fun
 | (.inl e)=>[(0,.mp j),(1,.box (.agg [.d (I a),.d (I f),.d (I b),.d (.lst false 2 g),.own 0 0])),(2,.box (.d (.agg [I h,I c]))),(3,.box (.agg [.d (.v (.slice none 0 0)),.d (I 0),.d (I 0),.d (I 0)])),(42,.box (.agg [.d (.v (.slice none 0 0)),.d (I 0),.d (I 0),.d (I 0)]))]
 | (.inr e)=>[(0,.mp e.1),(1,.box (.agg [.d (I a),.d (I f),.d (I b),.d (.lst false 2 g),.own 0 0])),(2,.box (.d (.agg [I h,I c]))),(3,.box (.agg [.d (.v (.slice none 0 0)),.d (I 0),.d (I 0),.d (I 0)])),(42,.box (.d (.agg [.lst false 1 e.2.1,I e.2.2.1,I e.2.2.2.1,I e.2.2.2.2])))]⟩
theorem kI {n:Nat}{i j k:Int}{m:jVj}{p u:Int}{s:jVj}{t:Vd}{x:Int×Int}{y:Int}(v:Ew t)(g:(Unit)⊕Int×jVj×jVj×Int×Int×Int)(r)(h:W1 n i j k m p u s t x y g=some r):Rl (Zt cx.P 23 0) 110 1 false (kN i j k m p u s t x y) g r:=by
 unfold W1 at h;obtain g|g:=g
 ·obtain⟨a,h⟩|⟨a,h⟩:=io h
  ·have⟨ta2,ha2,h⟩:=bo h;have⟨ha3,h⟩:=gd h;have⟨ta4,ha4,h⟩:=bo h;have⟨ha5,h⟩:=gd h;have⟨ha6,h⟩:=gd h;have⟨ha7,h⟩:=gd h;have q:=Qb (ro 3 ha7) (Qb ha6 (Qb ha5 (Qb ((v ha4):jo cx 23 [.agg [.d (I i),.d (I j),.d (I k),.d (.lst false 2 m),.own 0 0],.d (.agg [I (p+1),I ta2.2.1])] s (.agg [.lst false 1 ta4.1,I ta4.2.1,I ta4.2.2.1,I ta4.2.2.2.1]) ta4.2.2.2.2) (Qb ha3 (Qb (Gp ha2) (Qb (jDj a) QA))))));let o(l:jOj):=b1::.ret (.agg [I ta2.1,I ta2.2.1,I ta2.2.2.1,I ta2.2.2.2.1,I ta2.2.2.2.2.1,I ta2.2.2.2.2.2])::.ix (-15)::.ix (-12)::.obj (some 0) (.d (.agg [.lst false 1 ta4.1,I ta4.2.1,I ta4.2.2.1,I ta4.2.2.2.1])) [.dat (.mp ta4.2.2.2.2)] []::.ix (-15)::.ix (-12)::.ix (-15)::.no::.no::.ix (-12)::b1::l;obtain⟨c,h⟩|⟨c,h⟩:=io h
   ·cases h;exact rn 48 (o [b1,.ix (-12)]) [] [2,3,4,7,8,9,53,54] [0,1,2,3,27,40,42] (Qb ((by unfold Qg;omega):Qg 1) (Qb c q))
   cases h;exact rn 48 (o [b0,.ix 0,.ix (-12)]) [] [2,3,4,7,8,9,53,54] [0,1,2,3,27,40,42] (Qb ((by unfold Qg;omega):Qg 1) (Qb (Zy c) q))
  cases h;exact rx 48 [b0] [] [2,3,4,9] [0,1,2,3,42] (Qb (jEj a) QA)
 ·obtain⟨a,h⟩|⟨a,h⟩:=io h
  ·have⟨ta2,ha2,h⟩:=bo h;have⟨ha3,h⟩:=gd h;have⟨ta4,ha4,h⟩:=bo h;have⟨ha5,h⟩:=gd h;have⟨ha6,h⟩:=gd h;have⟨ha7,h⟩:=gd h;have⟨ta8,c,h⟩:=bo h;have q:=Qb (wm c) (Qb ((by intro e;rw[e] at ha7;exact ha7 rfl):g.2.2.1≠[]) (Qb ha6 (Qb ha5 (Qb ((v ha4):jo cx 23 [.agg [.d (I i),.d (I j),.d (I k),.d (.lst false 2 m),.own 0 0],.d (.agg [I (p+1),I ta2.2.1])] g.2.1 (.agg [.lst false 1 ta4.1,I ta4.2.1,I ta4.2.2.1,I ta4.2.2.2.1]) ta4.2.2.2.2) (Qb ha3 (Qb (Gp ha2) (Qb (jDj a) QA)))))));let o(l:jOj):=b1::.ret (.agg [I ta2.1,I ta2.2.1,I ta2.2.2.1,I ta2.2.2.2.1,I ta2.2.2.2.2.1,I ta2.2.2.2.2.2])::.ix (-15)::.ix (-12)::.obj (some 0) (.d (.agg [.lst false 1 ta4.1,I ta4.2.1,I ta4.2.2.1,I ta4.2.2.2.1])) [.dat (.mp ta4.2.2.2.2)] []::.ix (-15)::.ix (-12)::.ix (-15)::.no::.ret (B ta8)::l;obtain⟨f,h⟩|⟨f,h⟩:=io h
   ·have⟨ha10,h⟩:=gd h;have q:=Qb (ro 3 ha10) (Qb f q);let o l:=o (b1::.ix (-12)::b1::l);obtain⟨b,h⟩|⟨b,h⟩:=io h
    ·have⟨ha12,h⟩:=gd h;cases h;exact rn 48 (o [b1,.ix (-12)]) [] [2,3,4,7,8,9,53,54] [0,1,2,3,27,40,42] (Qb ha12 (Qb b q))
    have⟨ha12,h⟩:=gd h;cases h;exact rn 48 (o [b0,.ix 0,.ix (-12)]) [] [2,3,4,7,8,9,53,54] [0,1,2,3,27,40,42] (Qb ha12 (Qb (Zy b) q))
   have⟨ha10,h⟩:=gd h;cases h;exact rn 48 (o [b0]) [] [2,3,4,7,8,9,53,54] [0,1,2,3,27,40,42] (Qb ha10 (Qb (Zy f) q))
  cases h;exact rx 48 [b0] [] [2,3,4,9] [0,1,2,3,42] (Qb (jEj a) QA)
def Uz (n:Nat)(g j h:Int)(f:jVj)(b c:Int)(e:jVj)(k:Vd):Option (jVj×Int×Int×Int×jVj) := if b=((f).length:Int) then some ([],0,c,0,e) else if mok (.agg #[.int .i64 b,.int .i64 c]) (e:jVj)=true then if(W5 (.agg #[.int .i64 b,.int .i64 c]) (e:jVj)).isSome=true then((W5 (.agg #[.int .i64 b,.int .i64 c]) (e:jVj)).bind ju).bind fun d=>some (d.1,d.2.1,d.2.2.1,d.2.2.2,e) else(el UX f b).bind fun d=>(Yu n g c h 0 0 0 d.1 d.2).bind fun i=>if Qg (i+1) then(QU (W1 n g j h f b c e k d i) n (.inl ())).bind fun a=>match a with|.inl a=>(none)|.inr a=>(if mok (.agg #[.int .i64 b,.int .i64 c]) (a.1:jVj)=true then some (a.2.1,a.2.2.1,a.2.2.2.1,a.2.2.2.2,(E7 (.agg #[.int .i64 b,.int .i64 c]) (.agg [.lst false 1 a.2.1,I a.2.2.1,I a.2.2.2.1,I a.2.2.2.2]) (a.1:jVj))) else none) else none else none
theorem QaQ {n:Nat}{j l k:Int}{g:jVj}{c e:Int}{i:jVj}{s:Vd}{r:jVj×Int×Int×Int×jVj}(A:Ew s)(h:Uz n j l k g c e i s=some r):jo cx 23 [.agg [.d (I j),.d (I l),.d (I k),.d (.lst false 2 g),.own 0 0],.d (.agg [I c,I e])] i (.agg [.lst false 1 r.1,I r.2.1,I r.2.2.1,I r.2.2.2.1]) r.2.2.2.2:=by
 unfold Uz at h;by_cases m:c=((g).length:Int)
 ·replace h:=U7 h m;replace h:=Option.some.inj h;subst h;exact runM (n:=100) (f:=23) (xs:=[.agg [.d (I j),.d (I l),.d (I k),.d (.lst false 2 g),.own 0 0],.d (.agg [I c,I e])]) (es:=i) (orc:=[.ix (-15),.br true,.ix (-12),.ix (-12)]) (r:=.agg [.lst false 1 [],I 0,I e,I 0]) (es':=i) (ob:=[(c==((g).length:Int))=true]) (by kernel_rfl) ⟨(eqt m),trivial⟩
 ·replace h:=U8 h m;obtain⟨t,h⟩:=Qcn h;by_cases q:(W5 (.agg #[.int .i64 c,.int .i64 e]) (i:jVj)).isSome=true
  ·replace h:=U7 h q;obtain⟨b,o,h⟩:=Wh h;replace h:=Option.some.inj h;subst h;exact runM (n:=100) (f:=23) (xs:=[.agg [.d (I j),.d (I l),.d (I k),.d (.lst false 2 g),.own 0 0],.d (.agg [I c,I e])]) (es:=i) (orc:=[.ix (-15),.br false,.el (.tup [.agg [.lst false 1 b.1,I b.2.1,I b.2.2.1,I b.2.2.2],B true]),.ix (-15),.no]) (r:=.agg [.lst false 1 b.1,I b.2.1,I b.2.2.1,I b.2.2.2]) (es':=i) (ob:=[YX true (.agg #[.int .i64 c,.int .i64 e]) (.agg [.lst true 0 [],I 0,I 0,I 0]) (i:jVj)=some (.tup [.agg [.lst false 1 b.1,I b.2.1,I b.2.2.1,I b.2.2.2],B true]),(c==((g).length:Int))=false]) (by kernel_rfl) ⟨(qU t (Qch QbR o)),(eqf m),trivial⟩
  ·replace h:=U8 h q;obtain⟨b,o,h⟩:=Wh h;obtain⟨p,u,h⟩:=Wh h;obtain⟨x,h⟩:=Qcn h;obtain⟨a,y,h⟩:=Wh h;obtain a|a:=a
   ·cases h
   ·obtain⟨z,h⟩:=Qcn h;replace h:=Option.some.inj h;subst h;exact runM (n:=100) (f:=23) (xs:=[.agg [.d (I j),.d (I l),.d (I k),.d (.lst false 2 g),.own 0 0],.d (.agg [I c,I e])]) (es:=i) (orc:=[.ix (-15),.br false,.el (.tup [.agg [.lst true 0 [],I 0,I 0,I 0],B false]),.ix (-15),.no,.el (Ux b),.ix (-15),.ix (-12),.ix (-12),.ix (-12),.ix (-15),.ix (-15),.ret (I p),.lp [] [2,3,4,7,8,9,53,54] [0,1,2,3,27,40,42] (.exit 0) [(2,.ptr 1 0 0 0 0),(3,.ptr 2 0 0 0 0),(4,.ptr 3 0 0 0 0),(9,.ptr 42 0 0 0 0)] [(0,.mp a.1),(1,.box (.agg [.d (I j),.d (I l),.d (I k),.d (.lst false 2 g),.own 0 0])),(2,.box (.d (.agg [I c,I e]))),(3,.box (.agg [.d (.v (.slice none 0 0)),.d (I 0),.d (I 0),.d (I 0)])),(42,.box (.d (.agg [.lst false 1 a.2.1,I a.2.2.1,I a.2.2.2.1,I a.2.2.2.2])))] 118,.br true]) (r:=.agg [.lst false 1 a.2.1,I a.2.2.1,I a.2.2.2.1,I a.2.2.2.2]) (es':=(E7 (.agg #[.int .i64 c,.int .i64 e]) (.agg [.lst false 1 a.2.1,I a.2.2.1,I a.2.2.2.1,I a.2.2.2.2]) (a.1:jVj))) (ob:=[mok (.agg #[.int .i64 c,.int .i64 e]) (a.1:jVj)=true,QaA cx (Zt cx.P 23 0) 110 1 false [(2,.ptr 1 0 0 0 0),(3,.ptr 2 0 0 0 0),(4,.ptr 3 0 0 0 0),(7,.ptr 27 0 0 0 0),(8,.ptr 40 0 0 0 0),(9,.ptr 42 0 0 0 0),(53,.d (I (p+1))),(54,.d (I 0))] [(0,.mp i),(1,.box (.agg [.d (I j),.d (I l),.d (I k),.d (.lst false 2 g),.own 0 0])),(2,.box (.d (.agg [I c,I e]))),(3,.box (.agg [.d (.v (.slice none 0 0)),.d (I 0),.d (I 0),.d (I 0)])),(27,.box (.d (.agg [I b.1,I b.2]))),(40,.box (.d (.agg [I j,I e,I k,I 0,I 0,I 0]))),(42,.box (.agg [.d (.v (.slice none 0 0)),.d (I 0),.d (I 0),.d (I 0)]))] (.exit 0) [(2,.ptr 1 0 0 0 0),(3,.ptr 2 0 0 0 0),(4,.ptr 3 0 0 0 0),(9,.ptr 42 0 0 0 0)] [(0,.mp a.1),(1,.box (.agg [.d (I j),.d (I l),.d (I k),.d (.lst false 2 g),.own 0 0])),(2,.box (.d (.agg [I c,I e]))),(3,.box (.agg [.d (.v (.slice none 0 0)),.d (I 0),.d (I 0),.d (I 0)])),(42,.box (.d (.agg [.lst false 1 a.2.1,I a.2.2.1,I a.2.2.2.1,I a.2.2.2.2])))],Qg (p+1),Computes cx 56 [.agg [I j,I e,I k,I 0,I 0,I 0],.agg [I b.1,I b.2]] (I p),(0:Int)<=c,nth (g) (Int.toNat c)=some (.agg [I b.1,I b.2]),YX true (.agg #[.int .i64 c,.int .i64 e]) (.agg [.lst true 0 [],I 0,I 0,I 0]) (i:jVj)=some (.tup [.agg [.lst true 0 [],I 0,I 0,I 0],B false]),(c==((g).length:Int))=false]) (by kernel_rfl) ⟨z,(QE (kI A) y),x,(kp u),(Qf0 Yz o).1,(Qf0 Yz o).2,(Gb t (mno q)),(eqf m),trivial⟩
def K0 (n:Nat):Nat->Vd
 | 0=>fun _ _ _ _ _ _ _=>none
 | k+1=>fun a b c d e f g=>Uz n a b c d e f g (K0 n k)
def qI (n:Nat):Vd:=K0 n n
theorem EB (n:Nat):∀k,Ew (K0 n k)
 | 0=>fun h=>by cases h
 | k+1=>fun h=>QaQ (EB n k) h
theorem Qed {n a b c e f g i r}(h:qI n a b c e f g i=some r):jo cx 23 [.agg [.d (I a),.d (I b),.d (I c),.d (.lst false 2 e),.own 0 0],.d (.agg [I f,I g])] i (.agg [.lst false 1 r.1,I r.2.1,I r.2.2.1,I r.2.2.2.1]) r.2.2.2.2:=EB n n h
def Ys (n:Nat)(a:jVj):Option (jVj) := if Vk a=true then none else if Wi 8 (0+(a).length) then some a else none
theorem kj {n a r}(h:Ys n a=some r):Computes cx 24 [.lst false 1 a] (.lst false 1 r):=by
 unfold Ys at h;obtain⟨b,h⟩|⟨b,h⟩:=io h
 ·cases h
 have⟨h2,h⟩:=gd h;obtain rfl:=oi h;exact rf [.no,.ix (-8),b1] (Qb (ro 3 h2) (Qb ((by intro e;rw[e] at b;exact b rfl):a≠[]) QA))
def VH (n:Nat)(c b d:Int)(e:jVj):Option (jVj×Int×Int×Int×Int) := (V1 n c b d e).bind fun f=>if f=0 then(qI n c b d e 0 b ([])).bind fun a=>(Ys n a.1).bind fun g=>some (g,a.2.1,a.2.2.1,a.2.2.2.1,0) else some ([],0,0,0,f)
theorem Jn {n b c e f r}(h:VH n b c e f=some r):Computes cx 7 [.agg [I b,I c,I e],.lst false 2 f] (.tup [.lst false 1 r.1,.agg [I r.2.1,I r.2.2.1,I r.2.2.2.1],I r.2.2.2.2]):=by
 unfold VH at h;have⟨t1,h1,h⟩:=bo h;have q:=Qb (wn h1) QA;obtain⟨a,h⟩|⟨a,h⟩:=io h
 ·have⟨t3,h3,h⟩:=bo h;have⟨t4,h4,h⟩:=bo h;cases h;exact rf [.ret (I t1),b0,.obj (some 12) (.d (.agg [.lst false 1 t3.1,I t3.2.1,I t3.2.2.1,I t3.2.2.2.1])) [.dat (.mp t3.2.2.2.2)] [],.ret (.lst false 1 t4)] (Qb (kj h4) (Qb (Qed h3) (Qb (nef a) q)))
 cases h;exact(rf (r:=.tup [.lst true 0 [],.agg [I 0,I 0,I 0],I t1]) [.ret (I t1),b1] (Qb (net a) q)).le (LEs.refl _) (.tups (.cons (.nilF) (.cons (.refl _) (.cons (.refl _) (.nil)))))
def Yg (n:Nat)(a:Int):Option (Int) := (Zq n a 0 30).bind fun b=>some b
theorem qy {n a r}(h:Yg n a=some r):Computes cx 139 [I a] (I r):=by unfold Yg at h;have⟨t1,h1,h⟩:=bo h;obtain rfl:=oi h;exact rf [.ret (I t1)] (Qb (Yh h1) QA)
def Ww (n:Nat)(d:jVj)(a:(Int×jVj)):Option (Int×jVj⊕jVj) := if a.1<((d).length:Int) then(el V5 d a.1).bind fun b=>(Yg n b).bind fun c=>if Wi 8 ((a.2).length+1) then if Qg (a.1+1) then some (.inl ((a.1+1),(a.2++([I c]:jVj)))) else none else none else some (.inr a.2)
noncomputable def qH (b:jVj):Lp (Int×jVj) (jVj):=⟨fun a=>[(1,.d (.fn (.func 139) [] [])),(5,.own 5 0),(8,.d (.lst false 1 b)),(9,.d (I ((b).length:Int))),(10,.d (I a.1))],fun a=>[(5,.row 0 1 a.2)],fun _=>(.exit 0),fun _=>[(5,.own 5 0)],fun e=>[(5,.row 0 1 e)]⟩
theorem qD {n b}(c)(r)(h:Ww n b c=some r):Rl (Zt cx.P 138 0) 22 0 false (qH b) c r:=by
 unfold Ww at h;obtain⟨a,h⟩|⟨a,h⟩:=io h
 ·have⟨ta2,ha2,h⟩:=bo h;have⟨ta3,ha3,h⟩:=bo h;have⟨ha4,h⟩:=gd h;have⟨ha5,h⟩:=gd h;cases h;exact rn 6 [b1,.el (Zi ta2),.ret (I ta3),b1] [] [1,5,8,9,10] [5] (Qb ha5 (Qb (ro 34 ha4) (Qb (qy ha3) (Q2 QM ha2 (Qb (jDj a) QA)))))
 cases h;exact rx 6 [b0] [] [5] [5] (Qb (jEj a) QA)
def Yf (n:Nat)(a:jVj):Option (jVj) := (QU (Ww n a) n (0,[])).bind fun b=>some b
theorem jg {n a r}(h:Yf n a=some r):Computes cx 138 [.lst false 1 a,.fn (.func 139) [] []] (.lst false 1 r):=by unfold Yf at h;have⟨t1,h1,h⟩:=bo h;obtain rfl:=oi h;exact rf [.lp [5,1] [1,5,8,9,10] [5] (.exit 0) [(5,.own 5 0)] [(5,.row 0 1 t1)] 30] (Qb (QE qD h1) QA)
def VG (n:Nat)(b a:jVj):Option (Int) := if((a).length:Int)=((b).length:Int) then(Yf n a).bind fun c=>(Qi n c).bind fun d=>some d else some 2
theorem GZ {n b c r}(h:VG n b c=some r):Computes cx 48 [.lst false 2 b,.lst false 1 c] (I r):=by
 unfold VG at h;obtain⟨a,h⟩|⟨a,h⟩:=io h
 ·have⟨t2,h2,h⟩:=bo h;have⟨t3,h3,h⟩:=bo h;obtain rfl:=oi h;exact rf [b0,.ret (.lst false 1 t2),.ret (I t3)] (Qb (Ke h3) (Qb (jg h2) (Qb (nef a) QA)))
 obtain rfl:=oi h;exact rf [b1] (Qb (net a) QA)
def Wg (n:Nat)(f g h:jVj)(e:Int)(b:(Int×Int×jVj)):Option (Int×Int×jVj⊕Int×jVj) := if b.2.1<((f).length:Int) then(el UX f b.2.1).bind fun d=>(el V5 h b.2.1).bind fun a=>if Qg (d.1*a) then if Qg (b.1+(d.1*a)) then(el V5 g b.2.1).bind fun c=>if Qg (c - a) then if(c - a)>0 then if Qg (e*(c - a)) then if Qg ((b.1+(d.1*a)) - (e*(c - a))) then if Wi 16 ((b.2.2).length+1) then if Qg (b.2.1+1) then some (.inl (((b.1+(d.1*a)) - (e*(c - a))),(b.2.1+1),(b.2.2++([.agg [I b.2.1,I (c - a)]]:jVj)))) else none else none else none else none else if Qg (b.2.1+1) then some (.inl ((b.1+(d.1*a)),(b.2.1+1),b.2.2)) else none else none else none else none else some (.inr (b.1,b.2.2))
noncomputable def jq (b c f:jVj)(g:Int):Lp (Int×Int×jVj) (Int×jVj):=⟨fun a=>[(1,.d (.lst false 1 c)),(2,.d (.lst false 1 f)),(3,.d (I g)),(12,.d (I a.1)),(13,.own 23 0),(32,.d (.lst false 2 b)),(33,.d (I ((b).length:Int))),(34,.d (I a.2.1))],fun a=>[(23,.row 0 2 a.2.2)],fun _=>(.exit 0),fun e=>[(12,.d (I e.1)),(13,.own 23 0)],fun e=>[(23,.row 0 2 e.2)]⟩
theorem jn {n c d e f}(g)(r)(h:Wg n c d e f g=some r):Rl (Zt cx.P 15 0) 73 0 false (jq c d e f) g r:=by
 unfold Wg at h;obtain⟨a,h⟩|⟨a,h⟩:=io h
 ·have⟨ta2,ha2,h⟩:=bo h;have⟨ta3,ha3,h⟩:=bo h;have⟨ha4,h⟩:=gd h;have⟨ha5,h⟩:=gd h;have⟨ta6,ha6,h⟩:=bo h;have⟨ha7,h⟩:=gd h;have q:=Qb ha7 (Q2 QM ha3 (Q2 QM ha6 (Qb ha5 (Qb ha4 (Q2 QM ha3 (Q2 Yz ha2 (Qb (jDj a) QA)))))));let o(l:jOj):=b1::.el (Ux ta2)::.el (Zi ta3)::.el (Zi ta6)::.el (Zi ta3)::l;obtain⟨b,h⟩|⟨b,h⟩:=io h
  ·have⟨ha9,h⟩:=gd h;have⟨ha10,h⟩:=gd h;have⟨ha11,h⟩:=gd h;have⟨ha12,h⟩:=gd h;cases h;exact rn 24 (o [b1,b1]) [] [1,2,3,12,13,32,33,34] [23] (Qb ha12 (Qb (ro 58 ha11) (Qb ha10 (Qb ha9 (Qb (jDj b) q)))))
  have⟨ha9,h⟩:=gd h;cases h;exact rn 24 (o [b0]) [] [1,2,3,12,13,32,33,34] [23] (Qb ha9 (Qb (jEj b) q))
 cases h;exact rx 24 [b0] [] [12,13] [23] (Qb (jEj a) QA)
def WO (n:Nat)(a b c:jVj)(d:Int):Option (Int×jVj×Int) := (W3 n a).bind fun g=>(VG n a b).bind fun h=>(VG n a c).bind fun i=>(Zq n d 0 100000).bind fun j=>(Qi n ([I g,I h,I i,I j])).bind fun e=>if e=0 then(QU (Wg n a b c d) n (0,0,[])).bind fun f=>some (f.1,f.2,0) else some (0,[],e)
theorem Y8 {n b c e f r}(h:WO n b c e f=some r):Computes cx 15 [.lst false 2 b,.lst false 1 c,.lst false 1 e,I f] (.tup [I r.1,.lst false 2 r.2.1,I r.2.2]):=by
 unfold WO at h;have⟨t1,h1,h⟩:=bo h;have⟨t2,h2,h⟩:=bo h;have⟨t3,h3,h⟩:=bo h;have⟨t4,h4,h⟩:=bo h;have⟨t5,h5,h⟩:=bo h;have q:=Qb (leF (Ke h5)) (Qb (Yh h4) (Qb (GZ h3) (Qb (GZ h2) (Qb (Ji h1) QA))));let o(l:jOj):=.ret (I t1)::.ret (I t2)::.ret (I t3)::.ret (I t4)::.ret (I t5)::l;obtain⟨a,h⟩|⟨a,h⟩:=io h
 ·have⟨t7,h7,h⟩:=bo h;cases h;exact rf (o [b0,.lp [13,2] [1,2,3,12,13,32,33,34] [23] (.exit 0) [(12,.d (I t7.1)),(13,.own 23 0)] [(23,.row 0 2 t7.2)] 79]) (Qb (QE jn h7) (Qb (nef a) q))
 cases h;exact(rf (r:=.tup [I 0,.lst true 0 [],I t5]) (o [b1]) (Qb (net a) q)).le (LEs.refl _) (.tups (.cons (.refl _) (.cons (.nilF) (.cons (.refl _) (.nil)))))
def Uv (n:Nat)(d e:jVj)(a:Int):Option (Int⊕Unit⊕Unit) := if a<((d).length:Int) then(el V5 d a).bind fun b=>(el V5 e a).bind fun c=>if b=c then if Qg (a+1) then some (.inl (a+1)) else none else some (.inr (.inl ())) else some (.inr (.inr ()))
noncomputable def zt (a b:jVj):Lp (Int) (Unit⊕Unit):=⟨fun c=>[(0,.d (.lst false 1 a)),(1,.d (.lst false 1 b)),(5,.d (I c))],fun _=>[],fun
 | (.inl e)=>.ret
 | (.inr e)=>(.exit 0),fun
 | (.inl e)=>[(4,.d (B false))]
 | (.inr e)=>[],fun _=>[]⟩
theorem Js {n c d}(e)(r)(h:Uv n c d e=some r):Rl (Zt cx.P 21 0) 26 0 false (zt c d) e r:=by
 unfold Uv at h;obtain⟨a,h⟩|⟨a,h⟩:=io h
 ·have⟨ta2,ha2,h⟩:=bo h;have⟨ta3,ha3,h⟩:=bo h;have q:=Q2 QM ha3 (Q2 QM ha2 (Qb (jDj a) QA));let o(l:jOj):=b1::.el (Zi ta2)::.el (Zi ta3)::l;obtain⟨b,h⟩|⟨b,h⟩:=io h
  ·have⟨ha5,h⟩:=gd h;cases h;exact rn 7 (o [b0]) [] [0,1,5] [] (Qb ha5 (Qb (nef b) q))
  cases h;exact rx 7 (o [b1]) [] [4] [] (Qb (net b) q)
 cases h;exact rx 7 [b0] [] [] [] (Qb (jEj a) QA)
def KP (n:Nat)(b c:jVj):Option (Bool) := if((b).length:Int)=((c).length:Int) then(QU (Uv n b c) n 0).bind fun a=>match a with|.inl a=>(some false)|.inr a=>(some true) else some false
theorem kl {n c e r}(h:KP n c e=some r):Computes cx 21 [.lst false 1 c,.lst false 1 e] (B r):=by
 unfold KP at h;obtain⟨a,h⟩|⟨a,h⟩:=io h
 ·have q:=Qb (nef a) QA;have⟨b,h2,h⟩:=bo h;obtain b|b:=b
  ·obtain rfl:=oi h;exact rf [b0,.lp [] [0,1,5] [] .ret [(4,.d (B false))] [] 34] (Qb (QE Js h2) q)
  obtain rfl:=oi h;exact rf [b0,.lp [] [0,1,5] [] (.exit 0) [] [] 34] (Qb (QE Js h2) q)
 obtain rfl:=oi h;exact rf [b1] (Qb (net a) QA)
def tab2:jVj:=[.tup [Qe ⟨#[115,116,97,116,101]⟩,.agg [.v (.int .u8 0),.fn (.func 60) [] []]],.tup [Qe ⟨#[114,97,116,101]⟩,.agg [.v (.int .u8 0),.fn (.func 62) [] []]],.tup [Qe ⟨#[97,105,109,101,100]⟩,.agg [.v (.int .u8 0),.fn (.func 64) [] []]],.tup [Qe ⟨#[98,111,111,107,115]⟩,.agg [.v (.int .u8 0),.fn (.func 69) [] []]],.tup [Qe ⟨#[111,102,102,101,114,115]⟩,.agg [.v (.int .u8 0),.fn (.func 71) [] []]],.tup [Qe ⟨#[100,105,114,116]⟩,.agg [.v (.int .u8 109),.fn (.func 77) [] []]],.tup [Qe ⟨#[99,111,117,110,116]⟩,.agg [.v (.int .u8 115),.fn (.func 79) [] []]]]
theorem mk2 (c:jSj)(r:D){k:jSj}{l:List UInt8}(h:k.data.toList=l)(hc:c.data.toList=l:=by rfl)(a:YX true (.string c) (.agg [.v (.int .u8 0),.v (.nilFunc)]) tab2=some r:=by kernel_rfl):YX true (.string k) (.agg [.v (.int .u8 0),.v (.nilFunc)]) tab2=some r:=QdG h hc a
def Kl (n:Nat)(a:Bool)(b c:jSj):Option (jSj) := if a=true then some b else some c
theorem je {n b c d r}(h:Kl n b c d=some r):Computes cx 61 [B b,Qe c,Qe d] (Qe r):=by
 unfold Kl at h;obtain⟨a,h⟩|⟨a,h⟩:=io h
 ·obtain rfl:=oi h;exact rf [b1] (Qb a QA)
 obtain rfl:=oi h;exact rf [b0] (Qb (Zy a) QA)
def VD (n:Nat)(j:jSj)(k l:jVj)(m d:Int)(e f:Bool)(o p q:Int)(a b c:jVj):Option (jVj) := (Kl n e (⟨#[102,105,108,108,101,100]⟩) (⟨#[101,109,112,116,121]⟩)).bind fun g=>(Kl n f (⟨#[116,114,105,112,112,101,100]⟩) (⟨#[114,101,97,100,121]⟩)).bind fun h=>(Wr n d).bind fun i=>some [.v (.string g),.v (.string h),.v (.string i)]
theorem qu {n p e f g i j k l m o a b c r}(h:VD n p e f g i j k l m o a b c=some r):ComputesO cx 60 [.ptr 0 0 0 0 2,.d (Qe p)] (some (Qa e f g i j k l m o a b c)) (.d (.lst false 1 r)) (Qa e f g i j k l m o a b c) Zj:=by unfold VD at h;have⟨t1,h1,h⟩:=bo h;have⟨t2,h2,h⟩:=bo h;have⟨t3,h3,h⟩:=bo h;cases h;exact(rfO 0 (r:=.d (.lst true 1 [Qe t1,Qe t2,Qe t3])) (cs:=(Qa e f g i j k l m o a b c)) [.ret (Qe t1),.ret (Qe t2),.ret (Qe t3)] (Qb (Yq h3) (Qb (je h2) (Qb (je h1) QA)))).le (.refl _) (.refl _) (.d (.full _ _ _)) (.same _ (.same _ (.same _ (.same _ (.same _ (.same _ (.same _ (.same _ (.same _ (.same _ (.same _ (.same _ (.nil)))))))))))))
def VC (n:Nat)(p:jSj)(d e:jVj)(f g:Int)(h i:Bool)(j k l:Int)(a b c:jVj):Option (jVj) := (WM n d e f g h i j k l a b c).bind fun m=>(Wr n m).bind fun o=>some [.v (.string o)]
theorem qt {n p e f g i j k l m o a b c r}(h:VC n p e f g i j k l m o a b c=some r):ComputesO cx 62 [.ptr 0 0 0 0 2,.d (Qe p)] (some (Qa e f g i j k l m o a b c)) (.d (.lst false 1 r)) (Qa e f g i j k l m o a b c) Zj:=by unfold VC at h;have⟨t1,h1,h⟩:=bo h;have⟨t2,h2,h⟩:=bo h;cases h;exact(rfO 0 (r:=.d (.lst true 1 [Qe t2])) (cs:=(Qa e f g i j k l m o a b c)) [.obj (some 0) (.d (I t1)) (Qa e f g i j k l m o a b c) Zj,.ret (Qe t2)] (Qb (Yq h2) (Qb (Ks h1) QA))).le (.refl _) (.refl _) (.d (.full _ _ _)) (.same _ (.same _ (.same _ (.same _ (.same _ (.same _ (.same _ (.same _ (.same _ (.same _ (.same _ (.same _ (.nil)))))))))))))
theorem QaO {n a b c d e f r}(h:QZ n a b c d e f=some r):Computes cx 68 [.agg [Qe a,Qe b,I c,I d,B e,B f]] (Qe r):=by unfold QZ at h;obtain rfl:=oi h;exact rf [] QA
def Zk (n:Nat)(f g:jVj)(h i:Int)(j k:Bool)(l m o:Int)(d c e:jVj)(b:(Int)⊕Int×jVj):Option ((Int⊕Int×jVj)⊕Unit⊕jVj):=match b with|(.inl b)=>(if b<((c).length:Int) then if 0<=b/\b<((c).length:Int) then((nth (c) (Int.toNat b)).bind QV).bind fun a=>if a.2.2.2.2.2=true then if Qg (b+1) then some (.inl (.inr ((b+1),[.agg [.v (.string a.1),.v (.string a.2.1),I a.2.2.1,I a.2.2.2.1,B a.2.2.2.2.1,B a.2.2.2.2.2]]))) else none else if Qg (b+1) then some (.inl (.inl (b+1))) else none else none else some (.inr (.inl ())))|.inr b=>(if b.1<((c).length:Int) then if 0<=b.1/\b.1<((c).length:Int) then((nth (c) (Int.toNat b.1)).bind QV).bind fun a=>if a.2.2.2.2.2=true then if Wi 56 ((b.2).length+1) then if Qg (b.1+1) then some (.inl (.inr ((b.1+1),(b.2++([.agg [.v (.string a.1),.v (.string a.2.1),I a.2.2.1,I a.2.2.2.1,B a.2.2.2.2.1,B a.2.2.2.2.2]]:jVj))))) else none else none else if Qg (b.1+1) then some (.inl (.inr ((b.1+1),b.2))) else none else none else some (.inr (.inr b.2)))
noncomputable def XS (f g:jVj)(h i:Int)(j k:Bool)(l m n:Int)(b a c:jVj):Lp (Int⊕Int×jVj) (Unit⊕jVj):=⟨fun
 | (.inl sa)=>[(0,.own 30 0),(8,.own 11 0),(9,.d (I ((a).length:Int))),(10,.d (I sa))]
 | (.inr sa)=>[(0,.own 30 0),(8,.own 11 0),(9,.d (I ((a).length:Int))),(10,.d (I sa.1))],fun
 | (.inl sa)=>[(0,.box (.agg [.own 1 0,.own 2 0,.d (I h),.d (I i),.d (B j),.d (B k),.d (I l),.d (I m),.d (I n),.own 10 0,.own 11 0,.own 12 0])),(1,.row 0 5 f),(2,.row 0 5 g),(10,.row 0 1 b),(11,.row 0 6 a),(12,.row 0 7 c),(19,.box (.ptr 0 0 0 0 2)),(27,.box (.d (.lst true 0 []))),(30,.loop true [(6,.fn (.func 153) [] [.ptr 19 0 0 0 0]),(4,.d (.lst true 0 [])),(2,.ptr 27 0 0 0 0),(1,.fn (.func 153) [] [.ptr 19 0 0 0 0]),(0,.d (.lst true 0 []))] [7] (Z3 cx.P 152 0).1 (Z3 cx.P 152 0).2 13)]
 | (.inr sa)=>[(0,.box (.agg [.own 1 0,.own 2 0,.d (I h),.d (I i),.d (B j),.d (B k),.d (I l),.d (I m),.d (I n),.own 10 0,.own 11 0,.own 12 0])),(1,.row 0 5 f),(2,.row 0 5 g),(10,.row 0 1 b),(11,.row 0 6 a),(12,.row 0 7 c),(19,.box (.ptr 0 0 0 0 2)),(27,.box (.own 55 0)),(30,.loop true [(6,.fn (.func 153) [] [.ptr 19 0 0 0 0]),(4,.d (.lst true 0 [])),(2,.ptr 27 0 0 0 0),(1,.fn (.func 153) [] [.ptr 19 0 0 0 0]),(0,.d (.lst true 0 []))] [7] (Z3 cx.P 152 0).1 (Z3 cx.P 152 0).2 13),(55,.row 0 6 sa.2)],fun _=>(.exit 0),fun _=>[],fun
 | (.inl e)=>[(0,.box (.agg [.own 1 0,.own 2 0,.d (I h),.d (I i),.d (B j),.d (B k),.d (I l),.d (I m),.d (I n),.own 10 0,.own 11 0,.own 12 0])),(1,.row 0 5 f),(2,.row 0 5 g),(10,.row 0 1 b),(11,.row 0 6 a),(12,.row 0 7 c),(19,.box (.ptr 0 0 0 0 2)),(27,.box (.d (.lst true 0 []))),(30,.loop true [(6,.fn (.func 153) [] [.ptr 19 0 0 0 0]),(4,.d (.lst true 0 [])),(2,.ptr 27 0 0 0 0),(1,.fn (.func 153) [] [.ptr 19 0 0 0 0]),(0,.d (.lst true 0 []))] [7] (Z3 cx.P 152 0).1 (Z3 cx.P 152 0).2 13)]
 | (.inr e)=>[(0,.box (.agg [.own 1 0,.own 2 0,.d (I h),.d (I i),.d (B j),.d (B k),.d (I l),.d (I m),.d (I n),.own 10 0,.own 11 0,.own 12 0])),(1,.row 0 5 f),(2,.row 0 5 g),(10,.row 0 1 b),(11,.row 0 6 a),(12,.row 0 7 c),(19,.box (.ptr 0 0 0 0 2)),(27,.box (.own 55 0)),(30,.loop true [(6,.fn (.func 153) [] [.ptr 19 0 0 0 0]),(4,.d (.lst true 0 [])),(2,.ptr 27 0 0 0 0),(1,.fn (.func 153) [] [.ptr 19 0 0 0 0]),(0,.d (.lst true 0 []))] [7] (Z3 cx.P 152 0).1 (Z3 cx.P 152 0).2 13),(55,.row 0 6 e)]⟩
theorem UT {n g i j k m p s t u c d e}(f)(r)(h:Zk n g i j k m p s t u c d e f=some r):Rl (Zt cx.P 153 0) 23 31 false (XS g i j k m p s t u c d e) f r:=by
 unfold Zk at h;obtain f|f:=f
 ·obtain⟨a,h⟩|⟨a,h⟩:=io h
  ·have⟨ha2,h⟩:=gd h;have⟨ta3,ha3,h⟩:=bo h;have q:=Qb (Q0 QB ha3) (Qb ha2 (Qb (jDj a) QA));let o(l:jOj):=b1::b1::.el (QF ta3)::l;obtain⟨b,h⟩|⟨b,h⟩:=io h
   ·have⟨ha5,h⟩:=gd h;cases h;exact rn 37 (o [b1,.no,.no,.no]) [] [0,8,9,10] [0,1,2,10,11,12,19,27,30,55] (Qb ha5 (Qb b q))
   have⟨ha5,h⟩:=gd h;cases h;exact rn 37 (o [b0,.no]) [] [0,8,9,10] [0,1,2,10,11,12,19,27,30] (Qb ha5 (Qb (Zy b) q))
  cases h;exact rx 37 [b0] [] [] [0,1,2,10,11,12,19,27,30] (Qb (jEj a) QA)
 ·obtain⟨a,h⟩|⟨a,h⟩:=io h
  ·have⟨ha2,h⟩:=gd h;have⟨ta3,ha3,h⟩:=bo h;have q:=Qb (Q0 QB ha3) (Qb ha2 (Qb (jDj a) QA));let o(l:jOj):=b1::b1::.el (QF ta3)::l;obtain⟨b,h⟩|⟨b,h⟩:=io h
   ·have⟨ha5,h⟩:=gd h;have⟨ha6,h⟩:=gd h;cases h;exact rn 56 (o [b1,b1,.no]) [] [0,8,9,10] [0,1,2,10,11,12,19,27,30,55] (Qb ha6 (Qb (ro 143 ha5) (Qb b q)))
   have⟨ha5,h⟩:=gd h;cases h;exact rn 56 (o [b0,.no]) [] [0,8,9,10] [0,1,2,10,11,12,19,27,30,55] (Qb ha5 (Qb (Zy b) q))
  cases h;exact rx 56 [b0] [] [] [0,1,2,10,11,12,19,27,30,55] (Qb (jEj a) QA)
def Wm (n:Nat)(h i:jVj)(j k:Int)(l m:Bool)(o p q:Int)(e f g c:jVj)(b:(Int×jVj)):Option (Int×jVj⊕jVj) := if b.1<((c).length:Int) then if 0<=b.1/\b.1<((c).length:Int) then((nth (c) (Int.toNat b.1)).bind QV).bind fun a=>(QZ n a.1 a.2.1 a.2.2.1 a.2.2.2.1 a.2.2.2.2.1 a.2.2.2.2.2).bind fun d=>if Wi 16 ((b.2).length+1) then if Qg (b.1+1) then some (.inl ((b.1+1),(b.2++([.v (.string d)]:jVj)))) else none else none else none else some (.inr b.2)
noncomputable def XR (h i:jVj)(j k:Int)(l m:Bool)(n o p:Int)(a b c g:jVj):Lp (Int×jVj) (jVj):=⟨fun f=>[(1,.d (.fn (.func 68) [] [])),(5,.own 96 0),(8,.own 55 0),(9,.d (I ((g).length:Int))),(10,.d (I f.1))],fun f=>[(0,.box (.agg [.own 1 0,.own 2 0,.d (I j),.d (I k),.d (B l),.d (B m),.d (I n),.d (I o),.d (I p),.own 10 0,.own 11 0,.own 12 0])),(1,.row 0 5 h),(2,.row 0 5 i),(10,.row 0 1 a),(11,.row 0 6 b),(12,.row 0 7 c),(19,.box (.ptr 0 0 0 0 2)),(27,.box (.own 55 0)),(30,.dead),(55,.row 0 6 g),(96,.row 0 1 f.2)],fun _=>(.exit 0),fun _=>[(5,.own 96 0)],fun e=>[(0,.box (.agg [.own 1 0,.own 2 0,.d (I j),.d (I k),.d (B l),.d (B m),.d (I n),.d (I o),.d (I p),.own 10 0,.own 11 0,.own 12 0])),(1,.row 0 5 h),(2,.row 0 5 i),(10,.row 0 1 a),(11,.row 0 6 b),(12,.row 0 7 c),(19,.box (.ptr 0 0 0 0 2)),(27,.box (.own 55 0)),(30,.dead),(55,.row 0 6 g),(96,.row 0 1 e)]⟩
theorem XL {n e f g i j k l m o b c d q}(p)(r)(h:Wm n e f g i j k l m o b c d q p=some r):Rl (Zt cx.P 65 0) 22 91 false (XR e f g i j k l m o b c d q) p r:=by
 unfold Wm at h;obtain⟨a,h⟩|⟨a,h⟩:=io h
 ·have⟨ha2,h⟩:=gd h;have⟨ta3,ha3,h⟩:=bo h;have⟨ta4,ha4,h⟩:=bo h;have⟨ha5,h⟩:=gd h;have⟨ha6,h⟩:=gd h;cases h;exact rn 97 [b1,b1,.el (QF ta3),.ret (Qe ta4),b1] [] [1,5,8,9,10] [0,1,2,10,11,12,19,27,30,55,96] (Qb ha6 (Qb (ro 9 ha5) (Qb (QaO ha4) (Qb (Q0 QB ha3) (Qb ha2 (Qb (jDj a) QA))))))
 cases h;exact rx 97 [b0] [] [5] [0,1,2,10,11,12,19,27,30,55,96] (Qb (jEj a) QA)
def VB (n:Nat)(p:jSj)(e f:jVj)(g h:Int)(i j:Bool)(k l m:Int)(a b c:jVj):Option (jVj) := (QU (Zk n e f g h i j k l m a b c) n (.inl 0)).bind fun d=>match d with|.inl d=>(some [])|.inr d=>((QU (Wm n e f g h i j k l m a b c d) n (0,[])).bind fun o=>some o)
theorem qr {n q e f g i j k l m o a b c r}(h:VB n q e f g i j k l m o a b c=some r):ComputesO cx 64 [.ptr 0 0 0 0 2,.d (Qe q)] (some (Qa e f g i j k l m o a b c)) (.d (.lst false 1 r)) (Qa e f g i j k l m o a b c) Zj:=by
 unfold VB at h;have⟨p,h1,h⟩:=bo h;obtain p|p:=p
 ·cases h;exact(rfO 0 (r:=.d (.lst true 0 [])) (cs:=(Qa e f g i j k l m o a b c)) [b1,b1,b1,.lp [] [0,8,9,10] [0,1,2,10,11,12,19,27,30] (.exit 0) [] [(0,.box (.agg [.own 1 0,.own 2 0,.d (I g),.d (I i),.d (B j),.d (B k),.d (I l),.d (I m),.d (I o),.own 10 0,.own 11 0,.own 12 0])),(1,.row 0 5 e),(2,.row 0 5 f),(10,.row 0 1 a),(11,.row 0 6 b),(12,.row 0 7 c),(19,.box (.ptr 0 0 0 0 2)),(27,.box (.d (.lst true 0 []))),(30,.loop true [(6,.fn (.func 153) [] [.ptr 19 0 0 0 0]),(4,.d (.lst true 0 [])),(2,.ptr 27 0 0 0 0),(1,.fn (.func 153) [] [.ptr 19 0 0 0 0]),(0,.d (.lst true 0 []))] [7] (Z3 cx.P 152 0).1 (Z3 cx.P 152 0).2 13)] 89,b1,.no,.no] (Qb (QE UT h1) QA)).le (.refl _) (.refl _) (.d (.nilF)) (.same _ (.same _ (.same _ (.same _ (.same _ (.same _ (.same _ (.same _ (.same _ (.same _ (.same _ (.same _ (.nil)))))))))))))
 have⟨t2,h2,h⟩:=bo h;obtain rfl:=oi h;exact rfO 0 [b1,b1,b1,.lp [] [0,8,9,10] [0,1,2,10,11,12,19,27,30] (.exit 0) [] [(0,.box (.agg [.own 1 0,.own 2 0,.d (I g),.d (I i),.d (B j),.d (B k),.d (I l),.d (I m),.d (I o),.own 10 0,.own 11 0,.own 12 0])),(1,.row 0 5 e),(2,.row 0 5 f),(10,.row 0 1 a),(11,.row 0 6 b),(12,.row 0 7 c),(19,.box (.ptr 0 0 0 0 2)),(27,.box (.own 55 0)),(30,.loop true [(6,.fn (.func 153) [] [.ptr 19 0 0 0 0]),(4,.d (.lst true 0 [])),(2,.ptr 27 0 0 0 0),(1,.fn (.func 153) [] [.ptr 19 0 0 0 0]),(0,.d (.lst true 0 []))] [7] (Z3 cx.P 152 0).1 (Z3 cx.P 152 0).2 13),(55,.row 0 6 p)] 89,b1,.lp [5,1] [1,5,8,9,10] [0,1,2,10,11,12,19,27,30,55,96] (.exit 0) [(5,.own 96 0)] [(0,.box (.agg [.own 1 0,.own 2 0,.d (I g),.d (I i),.d (B j),.d (B k),.d (I l),.d (I m),.d (I o),.own 10 0,.own 11 0,.own 12 0])),(1,.row 0 5 e),(2,.row 0 5 f),(10,.row 0 1 a),(11,.row 0 6 b),(12,.row 0 7 c),(19,.box (.ptr 0 0 0 0 2)),(27,.box (.own 55 0)),(30,.dead),(55,.row 0 6 p),(96,.row 0 1 t2)] 122] (Qb (QE XL h2) (Qb (QE UT h1) QA))
def WK (n:Nat)(d:jVj)(a:(Int×jVj)):Option (Int×jVj⊕jVj) := if a.1<((d).length:Int) then(el V5 d a.1).bind fun b=>(Wr n b).bind fun c=>if Wi 16 ((a.2).length+1) then if Qg (a.1+1) then some (.inl ((a.1+1),(a.2++([.v (.string c)]:jVj)))) else none else none else some (.inr a.2)
noncomputable def ER (b:jVj):Lp (Int×jVj) (jVj):=⟨fun a=>[(1,.d (.fn (.func 35) [] [])),(5,.own 5 0),(8,.d (.lst false 1 b)),(9,.d (I ((b).length:Int))),(10,.d (I a.1))],fun a=>[(5,.row 0 1 a.2)],fun _=>(.exit 0),fun _=>[(5,.own 5 0)],fun e=>[(5,.row 0 1 e)]⟩
theorem EL {n b}(c)(r)(h:WK n b c=some r):Rl (Zt cx.P 70 0) 22 0 false (ER b) c r:=by
 unfold WK at h;obtain⟨a,h⟩|⟨a,h⟩:=io h
 ·have⟨ta2,ha2,h⟩:=bo h;have⟨ta3,ha3,h⟩:=bo h;have⟨ha4,h⟩:=gd h;have⟨ha5,h⟩:=gd h;cases h;exact rn 6 [b1,.el (Zi ta2),.ret (Qe ta3),b1] [] [1,5,8,9,10] [5] (Qb ha5 (Qb (ro 9 ha4) (Qb (Yq ha3) (Q2 QM ha2 (Qb (jDj a) QA)))))
 cases h;exact rx 6 [b0] [] [5] [5] (Qb (jEj a) QA)
def Wu (n:Nat)(a:jVj):Option (jVj) := (QU (WK n a) n (0,[])).bind fun b=>some b
theorem Gn {n a r}(h:Wu n a=some r):Computes cx 70 [.lst false 1 a,.fn (.func 35) [] []] (.lst false 1 r):=by unfold Wu at h;have⟨t1,h1,h⟩:=bo h;obtain rfl:=oi h;exact rf [.lp [5,1] [1,5,8,9,10] [5] (.exit 0) [(5,.own 5 0)] [(5,.row 0 1 t1)] 30] (Qb (QE EL h1) QA)
def VA (n:Nat)(h:jSj)(i j:jVj)(k l:Int)(m o:Bool)(d e f:Int)(a b c:jVj):Option (jVj) := (Wu n ([I d,I e,I f])).bind fun g=>some g
theorem qq {n p i j k l m o e f g a b c r}(h:VA n p i j k l m o e f g a b c=some r):ComputesO cx 69 [.ptr 0 0 0 0 2,.d (Qe p)] (some (Qa i j k l m o e f g a b c)) (.d (.lst false 1 r)) (Qa i j k l m o e f g a b c) Zj:=by unfold VA at h;have⟨t1,h1,h⟩:=bo h;obtain rfl:=oi h;exact rfO 0 [.ret (.lst false 1 t1)] (Qb (((Gn h1).le (.cons (.full _ _ _) (.cons (.refl _) (.nil))) (.refl _)):Computes cx 70 [.lst true 1 [I e,I f,I g],.fn (.func 35) [] []] (.lst false 1 t1)) QA)
def Ye (n:Nat)(b:jSj)(c d e f g:Int)(a:Bool):Option (Bool) := some (!a)
theorem qw {n a b c d e f g r}(h:Ye n a b c d e f g=some r):Computes cx 75 [.agg [Qe a,I b,I c,I d,I e,I f,B g]] (B r):=by unfold Ye at h;cases h;exact rf [] QA
def VF (n:Nat)(a:jSj)(b c d e f:Int)(g:Bool):Option (jVj) := (Za n a b c d e f g).bind fun h=>(Wr n h).bind fun i=>some [.v (.string a),.v (.string i)]
theorem Xy {n a b c d e f g r}(h:VF n a b c d e f g=some r):Computes cx 76 [.agg [Qe a,I b,I c,I d,I e,I f,B g]] (.lst false 1 r):=by unfold VF at h;have⟨t1,h1,h⟩:=bo h;have⟨t2,h2,h⟩:=bo h;cases h;exact(rf (r:=.lst true 1 [Qe a,Qe t2]) [.ret (I t1),.ret (Qe t2)] (Qb (Yq h2) (Qb (WU h1) QA))).le (LEs.refl _) (.full _ _ _)
def WJ (n:Nat)(d:jVj)(b:(Int×jVj)):Option (Int×jVj⊕jVj) := if b.1<((d).length:Int) then(el Z4 d b.1).bind fun a=>(VF n a.1 a.2.1 a.2.2.1 a.2.2.2.1 a.2.2.2.2.1 a.2.2.2.2.2.1 a.2.2.2.2.2.2).bind fun c=>if Wi 24 ((b.2).length+1) then if Qg (b.1+1) then some (.inl ((b.1+1),(b.2++([.lst false 1 c]:jVj)))) else none else none else some (.inr b.2)
noncomputable def EQ (b:jVj):Lp (Int×jVj) (jVj):=⟨fun a=>[(1,.d (.fn (.func 76) [] [])),(5,.own 5 0),(8,.d (.lst false 7 b)),(9,.d (I ((b).length:Int))),(10,.d (I a.1))],fun a=>[(5,.row 0 1 a.2)],fun _=>(.exit 0),fun _=>[(5,.own 5 0)],fun e=>[(5,.row 0 1 e)]⟩
theorem EK {n b}(c)(r)(h:WJ n b c=some r):Rl (Zt cx.P 73 0) 22 0 false (EQ b) c r:=by
 unfold WJ at h;obtain⟨a,h⟩|⟨a,h⟩:=io h
 ·have⟨ta2,ha2,h⟩:=bo h;have⟨ta3,ha3,h⟩:=bo h;have⟨ha4,h⟩:=gd h;have⟨ha5,h⟩:=gd h;cases h;exact rn 6 [b1,.el (Zr ta2),.ret (.lst false 1 ta3),b1] [] [1,5,8,9,10] [5] (Qb ha5 (Qb (ro 42 ha4) (Qb (Xy ha3) (Q2 Zg ha2 (Qb (jDj a) QA)))))
 cases h;exact rx 6 [b0] [] [5] [5] (Qb (jEj a) QA)
def YJ (n:Nat)(a:jVj):Option (jVj) := (QU (WJ n a) n (0,[])).bind fun b=>some b
theorem wl {n a r}(h:YJ n a=some r):Computes cx 73 [.lst false 7 a,.fn (.func 76) [] []] (.lst false 1 r):=by unfold YJ at h;have⟨t1,h1,h⟩:=bo h;obtain rfl:=oi h;exact rf [.lp [5,1] [1,5,8,9,10] [5] (.exit 0) [(5,.own 5 0)] [(5,.row 0 1 t1)] 31] (Qb (QE EK h1) QA)
def Qe0 (x:jVj):D:=.lst false 1 x
def Qfo (d:D):Option (jVj):=jt 1 d
theorem QcV {d:D}{x:jVj}(h:Qfo d=some x):d=Qe0 x:=qK h
def Ws (n:Nat)(c:jVj)(a:(Int×Int)):Option (Int×Int⊕Int) := if a.2<((c).length:Int) then(el Qfo c a.2).bind fun b=>if Qg (a.1+((b).length:Int)) then if(a.1+((b).length:Int))<0 then none else if Qg (a.2+1) then some (.inl ((a.1+((b).length:Int)),(a.2+1))) else none else none else some (.inr a.1)
noncomputable def qG (a:jVj):Lp (Int×Int) (Int):=⟨fun b=>[(0,.d (.lst false 1 a)),(3,.d (I b.1)),(9,.d (.lst false 1 a)),(10,.d (I ((a).length:Int))),(11,.d (I b.2))],fun _=>[],fun _=>(.exit 0),fun e=>[(0,.d (.lst false 1 a)),(3,.d (I e))],fun _=>[]⟩
theorem qC {n c}(d)(r)(h:Ws n c d=some r):Rl (Zt cx.P 72 0) 36 0 false (qG c) d r:=by
 unfold Ws at h;obtain⟨a,h⟩|⟨a,h⟩:=io h
 ·have⟨ta2,ha2,h⟩:=bo h;have⟨ha3,h⟩:=gd h;obtain⟨b,h⟩|⟨b,h⟩:=io h
  ·cases h
  have⟨ha5,h⟩:=gd h;cases h;exact rn 5 [b1,.el (Qe0 ta2),b0] [] [0,3,9,10,11] [] (Qb ha5 (Qb (jEj b) (Qb ha3 (Q2 QcV ha2 (Qb (jDj a) QA)))))
 cases h;exact rx 5 [b0] [] [0,3] [] (Qb (jEj a) QA)
def ZR (n:Nat)(c:jVj)(a:(Int×jVj)):Option (Int×jVj⊕jVj) := if a.1<((c).length:Int) then(el Qfo c a.1).bind fun b=>if Wi 16 ((a.2).length+(b).length) then if Qg (a.1+1) then some (.inl ((a.1+1),(a.2++b))) else none else none else some (.inr a.2)
noncomputable def qF (b:jVj):Lp (Int×jVj) (jVj):=⟨fun a=>[(6,.own 50 0),(25,.d (.lst false 1 b)),(26,.d (I ((b).length:Int))),(27,.d (I a.1))],fun a=>[(50,.row 0 1 a.2)],fun _=>(.exit 2),fun _=>[(6,.own 50 0)],fun e=>[(50,.row 0 1 e)]⟩
theorem Jj {n b}(c)(r)(h:ZR n b c=some r):Rl (Zt cx.P 72 1) 36 0 false (qF b) c r:=by
 unfold ZR at h;obtain⟨a,h⟩|⟨a,h⟩:=io h
 ·have⟨ta2,ha2,h⟩:=bo h;have⟨ha3,h⟩:=gd h;have⟨ha4,h⟩:=gd h;cases h;exact rn 60 [b1,.el (Qe0 ta2),b1] [] [6,25,26,27] [50] (Qb ha4 (Qb (ro 9 ha3) (Q2 QcV ha2 (Qb (jDj a) QA))))
 cases h;exact rx 60 [b0] [] [6] [50] (Qb (jEj a) QA)
def Yd (n:Nat)(b:jVj):Option (jVj) := (QU (Ws n b) n (0,0)).bind fun a=>if a<0 then none else if Qg (a - 0) then if(a - 0)>0 then if 0<(a - 0)/\Wi 16 (Int.toNat (a - 0)) then if(0:Int)<=0/\0<=(((List.replicate (Int.toNat (a - 0)) (.v (.string ⟨#[]⟩):D)):jVj).length:Int) then(QU (ZR n b) n (0,[])).bind fun d=>some d else none else none else(QU (ZR n b) n (0,[])).bind fun c=>some c else none
theorem jc {n a r}(h:Yd n a=some r):Computes cx 72 [.lst false 1 a] (.lst false 1 r):=by
 unfold Yd at h;have⟨t1,h1,h⟩:=bo h;have q:=Qb (QE qC h1) QA;let o(l:jOj):=.lp [] [0,3,9,10,11] [] (.exit 0) [(0,.d (.lst false 1 a)),(3,.d (I t1))] [] 29::b1::b0::l;obtain⟨e,h⟩|⟨e,h⟩:=io h
 ·cases h
 have⟨h3,h⟩:=gd h;have q:=Qb h3 (Qb ((by unfold Qg;omega):Qg 0) (Qb (jEj e) q));obtain⟨c,h⟩|⟨c,h⟩:=io h
 ·have⟨h5,h⟩:=gd h;have⟨h6,h⟩:=gd h;have⟨t7,h7,h⟩:=bo h;obtain rfl:=oi h;exact rf (o [b1,.no,b1,.ix 0,b1,.lp [] [6,25,26,27] [50] (.exit 2) [(6,.own 50 0)] [(50,.row 0 1 t7)] 81]) (Qb (QE Jj h7) (Qb h6 (Qb (⟨h5.1,(Qfv (b:=16) (by kernel_rfl) (by decide) h5.2)⟩:0<(t1 - 0)/\room cx 9 (Int.toNat (t1 - 0))) (Qb (jDj c) q))))
 have⟨t5,h5,h⟩:=bo h;obtain rfl:=oi h;exact rf (o [b0,.lp [6,1] [6,25,26,27] [50] (.exit 2) [(6,.own 50 0)] [(50,.row 0 1 t5)] 81]) (Qb (QE Jj h5) (Qb (jEj c) q))
def Wl (n:Nat)(g h:jVj)(i j:Int)(k l:Bool)(m o p:Int)(e f c:jVj)(b:(Int×jVj)):Option (Int×jVj⊕jVj) := if b.1<((c).length:Int) then if 0<=b.1/\b.1<((c).length:Int) then((nth (c) (Int.toNat b.1)).bind Z4).bind fun a=>(Ye n a.1 a.2.1 a.2.2.1 a.2.2.2.1 a.2.2.2.2.1 a.2.2.2.2.2.1 a.2.2.2.2.2.2).bind fun d=>if d=true then if Wi 64 ((b.2).length+1) then if Qg (b.1+1) then some (.inl ((b.1+1),(b.2++([.agg [.v (.string a.1),I a.2.1,I a.2.2.1,I a.2.2.2.1,I a.2.2.2.2.1,I a.2.2.2.2.2.1,B a.2.2.2.2.2.2]]:jVj)))) else none else none else if Qg (b.1+1) then some (.inl ((b.1+1),b.2)) else none else none else some (.inr b.2)
noncomputable def XQ (g h:jVj)(i j:Int)(k l:Bool)(m n o:Int)(b c a:jVj):Lp (Int×jVj) (jVj):=⟨fun f=>[(1,.d (.fn (.func 75) [] [])),(5,.own 27 0),(8,.own 12 0),(9,.d (I ((a).length:Int))),(10,.d (I f.1))],fun f=>[(0,.box (.agg [.own 1 0,.own 2 0,.d (I i),.d (I j),.d (B k),.d (B l),.d (I m),.d (I n),.d (I o),.own 10 0,.own 11 0,.own 12 0])),(1,.row 0 5 g),(2,.row 0 5 h),(10,.row 0 1 b),(11,.row 0 6 c),(12,.row 0 7 a),(27,.row 0 7 f.2)],fun _=>(.exit 0),fun _=>[(5,.own 27 0)],fun e=>[(0,.box (.agg [.own 1 0,.own 2 0,.d (I i),.d (I j),.d (B k),.d (B l),.d (I m),.d (I n),.d (I o),.own 10 0,.own 11 0,.own 12 0])),(1,.row 0 5 g),(2,.row 0 5 h),(10,.row 0 1 b),(11,.row 0 6 c),(12,.row 0 7 a),(27,.row 0 7 e)]⟩
theorem XK {n f g i j k m p s t c d e}(u)(r)(h:Wl n f g i j k m p s t c d e u=some r):Rl (Zt cx.P 74 0) 23 22 false (XQ f g i j k m p s t c d e) u r:=by
 unfold Wl at h;obtain⟨a,h⟩|⟨a,h⟩:=io h
 ·have⟨ha2,h⟩:=gd h;have⟨ta3,ha3,h⟩:=bo h;have⟨ta4,ha4,h⟩:=bo h;have q:=Qb (qw ha4) (Qb (Q0 Zg ha3) (Qb ha2 (Qb (jDj a) QA)));let o(l:jOj):=b1::b1::.el (Zr ta3)::.ret (B ta4)::l;obtain⟨b,h⟩|⟨b,h⟩:=io h
  ·have⟨ha6,h⟩:=gd h;have⟨ha7,h⟩:=gd h;cases h;exact rn 28 (o [b1,b1]) [] [1,5,8,9,10] [0,1,2,10,11,12,27] (Qb ha7 (Qb (ro 156 ha6) (Qb b q)))
  have⟨ha6,h⟩:=gd h;cases h;exact rn 28 (o [b0]) [] [1,5,8,9,10] [0,1,2,10,11,12,27] (Qb ha6 (Qb (Zy b) q))
 cases h;exact rx 28 [b0] [] [5] [0,1,2,10,11,12,27] (Qb (jEj a) QA)
def Vz (n:Nat)(q:jSj)(d e:jVj)(f g:Int)(h i:Bool)(j k l:Int)(a b c:jVj):Option (jVj) := (QU (Wl n d e f g h i j k l a b c) n (0,[])).bind fun m=>(YJ n m).bind fun o=>(Yd n o).bind fun p=>some p
theorem qp {n p e f g i j k l m o a b c r}(h:Vz n p e f g i j k l m o a b c=some r):ComputesO cx 71 [.ptr 0 0 0 0 2,.d (Qe p)] (some (Qa e f g i j k l m o a b c)) (.d (.lst false 1 r)) (Qa e f g i j k l m o a b c) Zj:=by unfold Vz at h;have⟨t1,h1,h⟩:=bo h;have⟨t2,h2,h⟩:=bo h;have⟨t3,h3,h⟩:=bo h;obtain rfl:=oi h;exact rfO 0 [b1,.lp [5,7] [1,5,8,9,10] [0,1,2,10,11,12,27] (.exit 0) [(5,.own 27 0)] [(0,.box (.agg [.own 1 0,.own 2 0,.d (I g),.d (I i),.d (B j),.d (B k),.d (I l),.d (I m),.d (I o),.own 10 0,.own 11 0,.own 12 0])),(1,.row 0 5 e),(2,.row 0 5 f),(10,.row 0 1 a),(11,.row 0 6 b),(12,.row 0 7 c),(27,.row 0 7 t1)] 54,.ret (.lst false 1 t2),.ret (.lst false 1 t3)] (Qb (jc h3) (Qb (wl h2) (Qb (QE XK h1) QA)))
def Vy (n:Nat)(e:jSj)(f g:jVj)(h i:Int)(j k:Bool)(l m o:Int)(b a c:jVj):Option (jVj) := (Qt n 109 f g h i j k l m o b a c).bind fun p=>(QC n p e).bind fun d=>if 0<=d/\d<((a).length:Int) then((nth (a) (Int.toNat d)).bind QV).bind fun q=>(Wr n q.2.2.2.1).bind fun r=>some [.v (.string r)] else none
theorem qn {n p e f g i j k l m o a b c r}(h:Vy n p e f g i j k l m o a b c=some r):ComputesO cx 77 [.ptr 0 0 0 0 2,.d (Qe p)] (some (Qa e f g i j k l m o a b c)) (.d (.lst false 1 r)) (Qa e f g i j k l m o a b c) Zj:=by unfold Vy at h;have⟨t1,h1,h⟩:=bo h;have⟨t2,h2,h⟩:=bo h;have⟨h3,h⟩:=gd h;have⟨t4,h4,h⟩:=bo h;have⟨t5,h5,h⟩:=bo h;cases h;exact(rfO 0 (r:=.d (.lst true 1 [Qe t5])) (cs:=(Qa e f g i j k l m o a b c)) [b1,.obj (some 0) (.d (.lst false 1 t1)) (Qa e f g i j k l m o a b c) Zj,.ret (I t2),b1,.el (QF t4),.ret (Qe t5)] (Qb (Yq h5) (Qb (Q0 QB h4) (Qb h3 (Qb (QJ h2) (Qb (Qz h1) QA)))))).le (.refl _) (.refl _) (.d (.full _ _ _)) (.same _ (.same _ (.same _ (.same _ (.same _ (.same _ (.same _ (.same _ (.same _ (.same _ (.same _ (.same _ (.nil)))))))))))))
def ZW (n:Nat)(d:jSj)(g h:jVj)(i j:Int)(k l:Bool)(m o p:Int)(e b f:jVj)(a:(Int×Int×Int)):Option (Int×Int×Int⊕Int×Int) := if a.1<((b).length:Int) then if 0<=a.1/\a.1<((b).length:Int) then((nth (b) (Int.toNat a.1)).bind QV).bind fun c=>if(!(c.2.1.toList==d.toList))=true then if Qg (a.1+1) then some (.inl ((a.1+1),a.2.1,a.2.2)) else none else if Qg (a.2.1+1) then if c.2.2.2.2.2=true then if Qg (a.2.2+1) then if Qg (a.1+1) then some (.inl ((a.1+1),(a.2.1+1),(a.2.2+1))) else none else none else if Qg (a.1+1) then some (.inl ((a.1+1),(a.2.1+1),a.2.2)) else none else none else none else some (.inr (a.2.1,a.2.2))
noncomputable def GL (p:jSj)(g h:jVj)(i j:Int)(k l:Bool)(m n o:Int)(b a c:jVj):Lp (Int×Int×Int) (Int×Int):=⟨fun f=>[(1,.d (Qe p)),(4,.ptr 13 0 0 0 0),(5,.ptr 14 0 0 0 0),(11,.own 11 0),(12,.d (I ((a).length:Int))),(13,.d (I f.1))],fun f=>[(0,.box (.agg [.own 1 0,.own 2 0,.d (I i),.d (I j),.d (B k),.d (B l),.d (I m),.d (I n),.d (I o),.own 10 0,.own 11 0,.own 12 0])),(1,.row 0 5 g),(2,.row 0 5 h),(10,.row 0 1 b),(11,.row 0 6 a),(12,.row 0 7 c),(13,.box (.d (.agg [I 0,I 0]))),(14,.box (.d (.agg [I f.2.1,I f.2.2])))],fun _=>(.exit 0),fun _=>[(4,.ptr 13 0 0 0 0),(5,.ptr 14 0 0 0 0)],fun e=>[(0,.box (.agg [.own 1 0,.own 2 0,.d (I i),.d (I j),.d (B k),.d (B l),.d (I m),.d (I n),.d (I o),.own 10 0,.own 11 0,.own 12 0])),(1,.row 0 5 g),(2,.row 0 5 h),(10,.row 0 1 b),(11,.row 0 6 a),(12,.row 0 7 c),(13,.box (.d (.agg [I 0,I 0]))),(14,.box (.d (.agg [I e.1,I e.2])))]⟩
theorem GG {n g i j k m p s t u v d e f}(x)(r)(h:ZW n g i j k m p s t u v d e f x=some r):Rl (Zt cx.P 80 0) 33 13 false (GL g i j k m p s t u v d e f) x r:=by
 unfold ZW at h;obtain⟨a,h⟩|⟨a,h⟩:=io h
 ·have⟨ha2,h⟩:=gd h;have⟨ta3,ha3,h⟩:=bo h;have q:=Qb (Q0 QB ha3) (Qb ha2 (Qb (jDj a) QA));let o(l:jOj):=b1::b1::.el (QF ta3)::l;obtain⟨b,h⟩|⟨b,h⟩:=io h
  ·have⟨ha5,h⟩:=gd h;cases h;exact rn 21 (o [b1]) [] [1,4,5,11,12,13] [0,1,2,10,11,12,13,14] (Qb ha5 (Qb b q))
  have⟨ha5,h⟩:=gd h;have q:=Qb ha5 (Qb (Zy b) q);obtain⟨c,h⟩|⟨c,h⟩:=io h
  ·have⟨ha7,h⟩:=gd h;have⟨ha8,h⟩:=gd h;cases h;exact rn 21 (o [b0,b1]) [] [1,4,5,11,12,13] [0,1,2,10,11,12,13,14] (Qb ha8 (Qb ha7 (Qb c q)))
  have⟨ha7,h⟩:=gd h;cases h;exact rn 21 (o [b0,b0]) [] [1,4,5,11,12,13] [0,1,2,10,11,12,13,14] (Qb ha7 (Qb (Zy c) q))
 cases h;exact rx 21 [b0] [] [4,5] [0,1,2,10,11,12,13,14] (Qb (jEj a) QA)
def Vc (n:Nat)(e:jSj)(f g:jVj)(h i:Int)(j k:Bool)(l m o:Int)(a b c:jVj):Option (Int×Int) := (QU (ZW n e f g h i j k l m o a b c) n (0,0,0)).bind fun d=>some (d.1,d.2)
theorem Ep {n p e f g i j k l m o a b c r}(h:Vc n p e f g i j k l m o a b c=some r):ComputesO cx 80 [.ptr 0 0 0 0 2,.d (Qe p)] (some (Qa e f g i j k l m o a b c)) (.d (.agg [I r.1,I r.2])) (Qa e f g i j k l m o a b c) Zj:=by unfold Vc at h;have⟨t1,h1,h⟩:=bo h;cases h;exact rfO 0 [.lp [] [1,4,5,11,12,13] [0,1,2,10,11,12,13,14] (.exit 0) [(4,.ptr 13 0 0 0 0),(5,.ptr 14 0 0 0 0)] [(0,.box (.agg [.own 1 0,.own 2 0,.d (I g),.d (I i),.d (B j),.d (B k),.d (I l),.d (I m),.d (I o),.own 10 0,.own 11 0,.own 12 0])),(1,.row 0 5 e),(2,.row 0 5 f),(10,.row 0 1 a),(11,.row 0 6 b),(12,.row 0 7 c),(13,.box (.d (.agg [I 0,I 0]))),(14,.box (.d (.agg [I t1.1,I t1.2])))] 55] (Qb (QE GG h1) QA)
def Vx (n:Nat)(e:jSj)(f g:jVj)(h i:Int)(j k:Bool)(l m o:Int)(a b c:jVj):Option (jVj) := (Vc n e f g h i j k l m o a b c).bind fun d=>(Wu n ([I d.1,I d.2])).bind fun p=>some p
theorem qm {n p e f g i j k l m o a b c r}(h:Vx n p e f g i j k l m o a b c=some r):ComputesO cx 79 [.ptr 0 0 0 0 2,.d (Qe p)] (some (Qa e f g i j k l m o a b c)) (.d (.lst false 1 r)) (Qa e f g i j k l m o a b c) Zj:=by unfold Vx at h;have⟨t1,h1,h⟩:=bo h;have⟨t2,h2,h⟩:=bo h;obtain rfl:=oi h;exact rfO 0 [.obj (some 0) (.d (.agg [I t1.1,I t1.2])) (Qa e f g i j k l m o a b c) Zj,.ret (.lst false 1 t2)] (Qb (((Gn h2).le (.cons (.full _ _ _) (.cons (.refl _) (.nil))) (.refl _)):Computes cx 70 [.lst true 1 [I t1.1,I t1.2],.fn (.func 35) [] []] (.lst false 1 t2)) (Qb (Ep h1) QA))
def Qj (n:Nat)(G:jSj)(d f:jVj)(g h:Int)(i j:Bool)(k l m:Int)(a b c:jVj):Option (jSj×Int×jVj×jVj×jRj) := (Qm n (decide ((G.size:Int)>4096)) 26).bind fun L=>(Qm n (G.toList==(⟨#[]⟩:jSj).toList) 25).bind fun M=>(Qi n ([I L,I M])).bind fun K=>if K=0 then(YN n G).bind fun o=>(el Vg o 0).bind fun t=>if t.data.toList=[115,116,97,116,101] then if(0:Int)<=1/\1<=((o).length:Int)/\((o).length:Int)<=((o).length:Int)/\(o=[]\/1=1) then if(((o.drop (Int.toNat 1)):jVj).length:Int)>0 then some (⟨#[]⟩,25,d,f,g,h,i,j,k,l,m,a,b,c) else(VD n (⟨#[]⟩) d f g h i j k l m a b c).bind fun z=>if((z).length:Int)=0 then some (⟨#[110,111,110,101]⟩,0,d,f,g,h,i,j,k,l,m,a,b,c) else(ZI n z (⟨#[32]⟩)).bind fun u=>some (u,0,d,f,g,h,i,j,k,l,m,a,b,c) else none else if t.data.toList=[114,97,116,101] then if(0:Int)<=1/\1<=((o).length:Int)/\((o).length:Int)<=((o).length:Int)/\(o=[]\/1=1) then if(((o.drop (Int.toNat 1)):jVj).length:Int)>0 then some (⟨#[]⟩,25,d,f,g,h,i,j,k,l,m,a,b,c) else(VC n (⟨#[]⟩) d f g h i j k l m a b c).bind fun t11=>if((t11).length:Int)=0 then some (⟨#[110,111,110,101]⟩,0,d,f,g,h,i,j,k,l,m,a,b,c) else(ZI n t11 (⟨#[32]⟩)).bind fun v=>some (v,0,d,f,g,h,i,j,k,l,m,a,b,c) else none else if t.data.toList=[97,105,109,101,100] then if(0:Int)<=1/\1<=((o).length:Int)/\((o).length:Int)<=((o).length:Int)/\(o=[]\/1=1) then if(((o.drop (Int.toNat 1)):jVj).length:Int)>0 then some (⟨#[]⟩,25,d,f,g,h,i,j,k,l,m,a,b,c) else(VB n (⟨#[]⟩) d f g h i j k l m a b c).bind fun u=>if((u).length:Int)=0 then some (⟨#[110,111,110,101]⟩,0,d,f,g,h,i,j,k,l,m,a,b,c) else(ZI n u (⟨#[32]⟩)).bind fun x=>some (x,0,d,f,g,h,i,j,k,l,m,a,b,c) else none else if t.data.toList=[98,111,111,107,115] then if(0:Int)<=1/\1<=((o).length:Int)/\((o).length:Int)<=((o).length:Int)/\(o=[]\/1=1) then if(((o.drop (Int.toNat 1)):jVj).length:Int)>0 then some (⟨#[]⟩,25,d,f,g,h,i,j,k,l,m,a,b,c) else(VA n (⟨#[]⟩) d f g h i j k l m a b c).bind fun v=>if((v).length:Int)=0 then some (⟨#[110,111,110,101]⟩,0,d,f,g,h,i,j,k,l,m,a,b,c) else(ZI n v (⟨#[32]⟩)).bind fun s=>some (s,0,d,f,g,h,i,j,k,l,m,a,b,c) else none else if t.data.toList=[111,102,102,101,114,115] then if(0:Int)<=1/\1<=((o).length:Int)/\((o).length:Int)<=((o).length:Int)/\(o=[]\/1=1) then if(((o.drop (Int.toNat 1)):jVj).length:Int)>0 then some (⟨#[]⟩,25,d,f,g,h,i,j,k,l,m,a,b,c) else(Vz n (⟨#[]⟩) d f g h i j k l m a b c).bind fun x=>if((x).length:Int)=0 then some (⟨#[110,111,110,101]⟩,0,d,f,g,h,i,j,k,l,m,a,b,c) else(ZI n x (⟨#[32]⟩)).bind fun r=>some (r,0,d,f,g,h,i,j,k,l,m,a,b,c) else none else if t.data.toList=[100,105,114,116] then if(0:Int)<=1/\1<=((o).length:Int)/\((o).length:Int)<=((o).length:Int)/\(o=[]\/1=1) then if(((o.drop (Int.toNat 1)):jVj).length:Int)=1 then(el Vg (o.drop (Int.toNat 1)) 0).bind fun s=>if(s.toList==(⟨#[]⟩:jSj).toList)=true then some (⟨#[]⟩,25,d,f,g,h,i,j,k,l,m,a,b,c) else(Qt n 109 d f g h i j k l m a b c).bind fun H=>(Zf n H s).bind fun e=>if e=true then(Vy n s d f g h i j k l m a b c).bind fun q=>if((q).length:Int)=0 then some (⟨#[110,111,110,101]⟩,0,d,f,g,h,i,j,k,l,m,a,b,c) else(ZI n q (⟨#[32]⟩)).bind fun y=>some (y,0,d,f,g,h,i,j,k,l,m,a,b,c) else some (⟨#[]⟩,10,d,f,g,h,i,j,k,l,m,a,b,c) else some (⟨#[]⟩,25,d,f,g,h,i,j,k,l,m,a,b,c) else none else if t.data.toList=[99,111,117,110,116] then if(0:Int)<=1/\1<=((o).length:Int)/\((o).length:Int)<=((o).length:Int)/\(o=[]\/1=1) then if(((o.drop (Int.toNat 1)):jVj).length:Int)=1 then(el Vg (o.drop (Int.toNat 1)) 0).bind fun r=>if(r.toList==(⟨#[]⟩:jSj).toList)=true then some (⟨#[]⟩,25,d,f,g,h,i,j,k,l,m,a,b,c) else(Zf n a r).bind fun e=>if e=true then(Vx n r d f g h i j k l m a b c).bind fun q=>if((q).length:Int)=0 then some (⟨#[110,111,110,101]⟩,0,d,f,g,h,i,j,k,l,m,a,b,c) else(ZI n q (⟨#[32]⟩)).bind fun y=>some (y,0,d,f,g,h,i,j,k,l,m,a,b,c) else some (⟨#[]⟩,10,d,f,g,h,i,j,k,l,m,a,b,c) else some (⟨#[]⟩,25,d,f,g,h,i,j,k,l,m,a,b,c) else none else if ¬(W5 (.string t) tab2).isSome=true then if(W5 (.string t) GB).isSome=true then((W5 (.string t) GB).bind Kt).bind fun r=>if Qg (((d).length:Int)+1) then(Yj n (((d).length:Int)+1) o).bind fun e=>(Qm n (!e.2.2.2.2.2) 25).bind fun J=>(Qm n (decide (((d).length:Int)>=1000)) 5).bind fun q=>(Qi n ([I J,I q])).bind fun A=>if A=0 then(Wv n e.1 e.2.1 e.2.2.1 e.2.2.2.1 e.2.2.2.2.1).bind fun C=>if C=0 then(Qq n e.1 e.2.1 e.2.2.1 e.2.2.2.1 e.2.2.2.2.1 d f g h i j k l m a b c).bind fun E=>if E=0 then(WF n e.1 e.2.1 e.2.2.1 e.2.2.2.1 e.2.2.2.2.1 d f g h i j k l m a b c).bind fun p=>(Wr n e.1).bind fun F=>if(⟨#[100,111,110,101,32]⟩:jSj).size+F.size<=9223372036854775807 then some (((⟨#[100,111,110,101,32]⟩:jSj)++F),0,p.1,p.2.1,p.2.2.1,p.2.2.2.1,p.2.2.2.2.1,p.2.2.2.2.2.1,p.2.2.2.2.2.2.1,p.2.2.2.2.2.2.2.1,p.2.2.2.2.2.2.2.2.1,p.2.2.2.2.2.2.2.2.2.1,p.2.2.2.2.2.2.2.2.2.2.1,p.2.2.2.2.2.2.2.2.2.2.2) else none else some (⟨#[]⟩,E,d,f,g,h,i,j,k,l,m,a,b,c) else some (⟨#[]⟩,C,d,f,g,h,i,j,k,l,m,a,b,c) else some (⟨#[]⟩,A,d,f,g,h,i,j,k,l,m,a,b,c) else none else some (⟨#[]⟩,13,d,f,g,h,i,j,k,l,m,a,b,c) else none else some (⟨#[]⟩,K,d,f,g,h,i,j,k,l,m,a,b,c)
theorem Qo {n O x y z A C E F G H g i j r}(h:Qj n O x y z A C E F G H g i j=some r):ComputesO cx 10 [.ptr 0 0 0 0 0,.d (Qe O)] (some (Qa x y z A C E F G H g i j)) (.d (.tup [Qe r.1,I r.2.1])) (Qa' r.2.2) []:=by
 unfold Qj at h;have⟨t1,h1,h⟩:=bo h;have⟨t2,h2,h⟩:=bo h;have⟨t3,h3,h⟩:=bo h;have q:=Qb (leF (Qv h3)) (Qb (Qs h2) (Qb (Qs h1) QA));let o(l:jOj):=.no::.ret (I t1)::.ret (I t2)::.ret (I t3)::l;obtain⟨N,h⟩|⟨N,h⟩:=io h
 ·have⟨t5,h5,h⟩:=bo h;have⟨t6,h6,h⟩:=bo h;have q:=Q2 Zb h6 (Qb (yy h5) (Qb (nef N) q));let o l:=o (b0::.ret (.lst false 1 t5)::b1::(no 7 (.el (Wj t6)::l)));obtain⟨P,h⟩|⟨P,h⟩:=io h
  ·have⟨M,h⟩:=gd h;have q:=Qb M (Qb (mk2 ⟨#[115,116,97,116,101]⟩ (.tup [.agg [.v (.int .u8 0),.fn (.func 60) [] []],B true]) P) q);let o l:=o (.el (.tup [.agg [.v (.int .u8 0),.fn (.func 60) [] []],B true])::.no::b1::.no::.no::l);obtain⟨J,h⟩|⟨J,h⟩:=io h
   ·cases h;exact rfO 0 (o [b1]) (Qb (jDj J) q)
   have⟨t10,k,h⟩:=bo h;have q:=Qb (qu k) (Qb (jEj J) q);let o l:=o (b0::.obj (some 0) (.d (.lst false 1 t10)) (Qa x y z A C E F G H g i j) Zj::l);obtain⟨f,h⟩|⟨f,h⟩:=io h
   ·cases h;exact rfO 0 (o [b1]) (Qb (eqt f) q)
   have⟨t12,a,h⟩:=bo h;cases h;exact rfO 0 (o [b0,.ret (Qe t12)]) (Qb ((VY a):Computes cx 51 [.lst false 1 t10,Qe ⟨#[32]⟩] (Qe t12)) (Qb (eqf f) q))
  obtain⟨M,h⟩|⟨M,h⟩:=io h
  ·have⟨J,h⟩:=gd h;have q:=Qb J (Qb (mk2 ⟨#[114,97,116,101]⟩ (.tup [.agg [.v (.int .u8 0),.fn (.func 62) [] []],B true]) M) q);let o l:=o (.el (.tup [.agg [.v (.int .u8 0),.fn (.func 62) [] []],B true])::.no::b1::.no::.no::l);obtain⟨k,h⟩|⟨k,h⟩:=io h
   ·cases h;exact rfO 0 (o [b1]) (Qb (jDj k) q)
   have⟨t11,f,h⟩:=bo h;have q:=Qb (qt f) (Qb (jEj k) q);let o l:=o (b0::.obj (some 0) (.d (.lst false 1 t11)) (Qa x y z A C E F G H g i j) Zj::l);obtain⟨a,h⟩|⟨a,h⟩:=io h
   ·cases h;exact rfO 0 (o [b1]) (Qb (eqt a) q)
   have⟨t13,b,h⟩:=bo h;cases h;exact rfO 0 (o [b0,.ret (Qe t13)]) (Qb ((VY b):Computes cx 51 [.lst false 1 t11,Qe ⟨#[32]⟩] (Qe t13)) (Qb (eqf a) q))
  obtain⟨J,h⟩|⟨J,h⟩:=io h
  ·have⟨k,h⟩:=gd h;have q:=Qb k (Qb (mk2 ⟨#[97,105,109,101,100]⟩ (.tup [.agg [.v (.int .u8 0),.fn (.func 64) [] []],B true]) J) q);let o l:=o (.el (.tup [.agg [.v (.int .u8 0),.fn (.func 64) [] []],B true])::.no::b1::.no::.no::l);obtain⟨f,h⟩|⟨f,h⟩:=io h
   ·cases h;exact rfO 0 (o [b1]) (Qb (jDj f) q)
   have⟨t12,a,h⟩:=bo h;have q:=Qb (qr a) (Qb (jEj f) q);let o l:=o (b0::.obj (some 0) (.d (.lst false 1 t12)) (Qa x y z A C E F G H g i j) Zj::l);obtain⟨b,h⟩|⟨b,h⟩:=io h
   ·cases h;exact rfO 0 (o [b1]) (Qb (eqt b) q)
   have⟨t14,c,h⟩:=bo h;cases h;exact rfO 0 (o [b0,.ret (Qe t14)]) (Qb ((VY c):Computes cx 51 [.lst false 1 t12,Qe ⟨#[32]⟩] (Qe t14)) (Qb (eqf b) q))
  obtain⟨k,h⟩|⟨k,h⟩:=io h
  ·have⟨f,h⟩:=gd h;have q:=Qb f (Qb (mk2 ⟨#[98,111,111,107,115]⟩ (.tup [.agg [.v (.int .u8 0),.fn (.func 69) [] []],B true]) k) q);let o l:=o (.el (.tup [.agg [.v (.int .u8 0),.fn (.func 69) [] []],B true])::.no::b1::.no::.no::l);obtain⟨a,h⟩|⟨a,h⟩:=io h
   ·cases h;exact rfO 0 (o [b1]) (Qb (jDj a) q)
   have⟨t13,b,h⟩:=bo h;have q:=Qb (qq b) (Qb (jEj a) q);let o l:=o (b0::.obj (some 0) (.d (.lst false 1 t13)) (Qa x y z A C E F G H g i j) Zj::l);obtain⟨c,h⟩|⟨c,h⟩:=io h
   ·cases h;exact rfO 0 (o [b1]) (Qb (eqt c) q)
   have⟨t15,e,h⟩:=bo h;cases h;exact rfO 0 (o [b0,.ret (Qe t15)]) (Qb ((VY e):Computes cx 51 [.lst false 1 t13,Qe ⟨#[32]⟩] (Qe t15)) (Qb (eqf c) q))
  obtain⟨f,h⟩|⟨f,h⟩:=io h
  ·have⟨a,h⟩:=gd h;have q:=Qb a (Qb (mk2 ⟨#[111,102,102,101,114,115]⟩ (.tup [.agg [.v (.int .u8 0),.fn (.func 71) [] []],B true]) f) q);let o l:=o (.el (.tup [.agg [.v (.int .u8 0),.fn (.func 71) [] []],B true])::.no::b1::.no::.no::l);obtain⟨b,h⟩|⟨b,h⟩:=io h
   ·cases h;exact rfO 0 (o [b1]) (Qb (jDj b) q)
   have⟨t14,c,h⟩:=bo h;have q:=Qb (qp c) (Qb (jEj b) q);let o l:=o (b0::.obj (some 0) (.d (.lst false 1 t14)) (Qa x y z A C E F G H g i j) Zj::l);obtain⟨e,h⟩|⟨e,h⟩:=io h
   ·cases h;exact rfO 0 (o [b1]) (Qb (eqt e) q)
   have⟨t16,m,h⟩:=bo h;cases h;exact rfO 0 (o [b0,.ret (Qe t16)]) (Qb ((VY m):Computes cx 51 [.lst false 1 t14,Qe ⟨#[32]⟩] (Qe t16)) (Qb (eqf e) q))
  obtain⟨a,h⟩|⟨a,h⟩:=io h
  ·have⟨b,h⟩:=gd h;have q:=Qb b (Qb (mk2 ⟨#[100,105,114,116]⟩ (.tup [.agg [.v (.int .u8 109),.fn (.func 77) [] []],B true]) a) q);let o l:=o (.el (.tup [.agg [.v (.int .u8 109),.fn (.func 77) [] []],B true])::.no::b1::.no::.no::l);obtain⟨c,h⟩|⟨c,h⟩:=io h
   ·have⟨t15,e,h⟩:=bo h;have q:=Q2 Zb e (Qb (nef c) q);let o l:=o (b0::.el (Wj t15)::l);obtain⟨m,h⟩|⟨m,h⟩:=io h
    ·cases h;exact rfO 0 (o [b1]) (Qb m q)
    have⟨t17,t,h⟩:=bo h;have⟨t18,h18,h⟩:=bo h;have q:=Qb (Z7 h18) (Qb (Qz t) (Q2 Zb e (Qb (Zy m) q)));let o l:=o (b0::.el (Wj t15)::.obj (some 0) (.d (.lst false 1 t17)) (Qa x y z A C E F G H g i j) Zj::.ret (B t18)::l);obtain⟨p,h⟩|⟨p,h⟩:=io h
    ·have⟨t20,h20,h⟩:=bo h;have q:=Qb (qn h20) (Qb (zV p) q);let o l:=o (b0::.obj (some 0) (.d (.lst false 1 t20)) (Qa x y z A C E F G H g i j) Zj::l);obtain⟨s,h⟩|⟨s,h⟩:=io h
     ·cases h;exact rfO 0 (o [b1]) (Qb (eqt s) q)
     have⟨t22,u,h⟩:=bo h;cases h;exact rfO 0 (o [b0,.ret (Qe t22)]) (Qb ((VY u):Computes cx 51 [.lst false 1 t20,Qe ⟨#[32]⟩] (Qe t22)) (Qb (eqf s) q))
    cases h;exact rfO 0 (o [b1]) (Qb (wG (Zy p)) q)
   cases h;exact rfO 0 (o [b1,.no]) (Qb (net c) q)
  obtain⟨b,h⟩|⟨b,h⟩:=io h
  ·have⟨c,h⟩:=gd h;have q:=Qb c (Qb (mk2 ⟨#[99,111,117,110,116]⟩ (.tup [.agg [.v (.int .u8 115),.fn (.func 79) [] []],B true]) b) q);let o l:=o (.el (.tup [.agg [.v (.int .u8 115),.fn (.func 79) [] []],B true])::.no::b1::.no::.no::l);obtain⟨e,h⟩|⟨e,h⟩:=io h
   ·have⟨t16,m,h⟩:=bo h;have q:=Q2 Zb m (Qb (nef e) q);let o l:=o (b0::.el (Wj t16)::l);obtain⟨t,h⟩|⟨t,h⟩:=io h
    ·cases h;exact rfO 0 (o [b1]) (Qb t q)
    have⟨t18,h18,h⟩:=bo h;have q:=Qb (Z7 h18) (Q2 Zb m (Qb (Zy t) q));let o l:=o (b0::.el (Wj t16)::.ix (-9)::b1::.no::.ix 0::.ret (B t18)::l);obtain⟨p,h⟩|⟨p,h⟩:=io h
    ·have⟨t20,h20,h⟩:=bo h;have q:=Qb (qm h20) (Qb (zV p) q);let o l:=o (b0::.obj (some 0) (.d (.lst false 1 t20)) (Qa x y z A C E F G H g i j) Zj::l);obtain⟨s,h⟩|⟨s,h⟩:=io h
     ·cases h;exact rfO 0 (o [b1]) (Qb (eqt s) q)
     have⟨t22,u,h⟩:=bo h;cases h;exact rfO 0 (o [b0,.ret (Qe t22)]) (Qb ((VY u):Computes cx 51 [.lst false 1 t20,Qe ⟨#[32]⟩] (Qe t22)) (Qb (eqf s) q))
    cases h;exact rfO 0 (o [b1]) (Qb (wG (Zy p)) q)
   cases h;exact rfO 0 (o [b1,.no]) (Qb (net e) q)
  have⟨c,h⟩:=gd h;have q:=Q2 Zb h6 (Qb ((Gb (by kernel_rfl) (mno c)):YX true (.string t6) (.agg [.v (.int .u8 0),.v (.nilFunc)]) tab2=some (.tup [.agg [.v (.int .u8 0),.v (.nilFunc)],B false])) q);let o l:=o (.el (.tup [.agg [.v (.int .u8 0),.v (.nilFunc)],B false])::.no::b1::(no 28 (.el (Wj t6)::l)));obtain⟨e,h⟩|⟨e,h⟩:=io h
  ·have⟨t16,m,h⟩:=bo h;have⟨t,h⟩:=gd h;have⟨t18,h18,h⟩:=bo h;have⟨t19,p,h⟩:=bo h;have⟨t20,h20,h⟩:=bo h;have⟨t21,s,h⟩:=bo h;have q:=Qb (leF (Qv s)) (Qb (Qs h20) (Qb (Qs p) (Qb (QaP h18) (Qb t (Qb ((qU (by kernel_rfl) (Qch XW m)):YX true (.string t6) (.agg [Qe ⟨#[]⟩,I 0,.v (.nilFunc),.v (.nilFunc)]) GB=some (.tup [.agg [Qe t16.1,I t16.2.1,.fn t16.2.2.1.1 t16.2.2.1.2.1 t16.2.2.1.2.2,.fn t16.2.2.2.1 t16.2.2.2.2.1 t16.2.2.2.2.2],B true])) q)))));let o l:=o (.el (.tup [.agg [Qe t16.1,I t16.2.1,.fn t16.2.2.1.1 t16.2.2.1.2.1 t16.2.2.1.2.2,.fn t16.2.2.2.1 t16.2.2.2.2.1 t16.2.2.2.2.2],B true])::.no::.ret (.tup [.agg [I t18.1,Qe t18.2.1,.lst false 1 t18.2.2.1,.lst false 1 t18.2.2.2.1,Qe t18.2.2.2.2.1],B t18.2.2.2.2.2])::.ret (I t19)::.ret (I t20)::.ret (I t21)::l);obtain⟨u,h⟩|⟨u,h⟩:=io h
   ·have⟨t23,h23,h⟩:=bo h;have q:=Qb (UI h23) (Qb (nef u) q);let o l:=o (b0::.ret (I t23)::l);obtain⟨K,h⟩|⟨K,h⟩:=io h
    ·have⟨t25,h25,h⟩:=bo h;have q:=Qb (Yr h25) (Qb (nef K) q);let o l:=o (b0::.obj (some 0) (.d (I t25)) (Qa x y z A C E F G H g i j) Zj::l);obtain⟨L,h⟩|⟨L,h⟩:=io h
     ·have⟨t27,h27,h⟩:=bo h;have⟨t28,h28,h⟩:=bo h;have⟨h29,h⟩:=gd h;cases h;exact rfO 0 (o [b0,.ix (-9),.obj (some 0) (.d (.tup [])) (Qa' t27) [],.ret (Qe t28)]) (Qb h29 (Qb (Yq h28) (Qb (Ut h27) (Qb (nef L) q))))
     cases h;exact rfO 0 (o [b1]) (Qb (net L) q)
    cases h;exact rfO 0 (o [b1]) (Qb (net K) q)
   cases h;exact rfO 0 (o [b1]) (Qb (net u) q)
  cases h;exact rfO 0 (o [.el (.tup [.agg [Qe ⟨#[]⟩,I 0,.v (.nilFunc),.v (.nilFunc)],B false]),.no]) (Qb ((Gb (by kernel_rfl) (mno e)):YX true (.string t6) (.agg [Qe ⟨#[]⟩,I 0,.v (.nilFunc),.v (.nilFunc)]) GB=some (.tup [.agg [Qe ⟨#[]⟩,I 0,.v (.nilFunc),.v (.nilFunc)],B false])) q)
 cases h;exact rfO 0 (o [b1]) (Qb (net N) q)
def ZS (n:Nat)(c f:jVj)(g h:Int)(i j:Bool)(k l m:Int)(o d e:jVj)(b:(Int×jVj)):Option (Int×jVj⊕jVj) := if b.1<((c).length:Int) then if 0<=b.1/\b.1<((c).length:Int) then((nth (c) (Int.toNat b.1)).bind Wc).bind fun a=>if 0<=((a.2.2.1).length:Int)/\((a.2.2.1).length:Int)<=((a.2.2.1).length:Int)/\16*((a.2.2.1).length:Int)<=281474976710656/\((a.2.2.1).length:Int)<=9223372036854775807 then if 0<=((a.2.2.2.1).length:Int)/\((a.2.2.2.1).length:Int)<=((a.2.2.2.1).length:Int)/\8*((a.2.2.2.1).length:Int)<=281474976710656/\((a.2.2.2.1).length:Int)<=9223372036854775807 then if Wi 88 ((b.2).length+1) then if Qg (b.1+1) then some (.inl ((b.1+1),(b.2++([.agg [I a.1,.v (.string a.2.1),.lst false 1 (a.2.2.1.take ((List.replicate (Int.toNat ((a.2.2.1).length:Int)) (.v (.string ⟨#[]⟩):D)):jVj).length++(List.replicate (Int.toNat ((a.2.2.1).length:Int)) (.v (.string ⟨#[]⟩):D)).drop (a.2.2.1).length),.lst false 1 (a.2.2.2.1.take ((List.replicate (Int.toNat ((a.2.2.2.1).length:Int)) (I 0:D)):jVj).length++(List.replicate (Int.toNat ((a.2.2.2.1).length:Int)) (I 0:D)).drop (a.2.2.2.1).length),.v (.string a.2.2.2.2)]]:jVj)))) else none else none else none else none else none else some (.inr b.2)
noncomputable def GH (c g:jVj)(h i:Int)(j k:Bool)(l m n:Int)(o a b:jVj):Lp (Int×jVj) (jVj):=⟨fun f=>[(1,.d (.fn (.func 41) [] [])),(5,.own 28 0),(8,.own 1 0),(9,.d (I ((c).length:Int))),(10,.d (I f.1))],fun f=>[(0,.box (.agg [.own 1 0,.own 2 0,.d (I h),.d (I i),.d (B j),.d (B k),.d (I l),.d (I m),.d (I n),.own 10 0,.own 11 0,.own 12 0])),(1,.row 0 5 c),(2,.row 0 5 g),(10,.row 0 1 o),(11,.row 0 6 a),(12,.row 0 7 b),(28,.row 0 5 f.2)],fun _=>(.exit 0),fun _=>[(5,.own 28 0)],fun e=>[(0,.box (.agg [.own 1 0,.own 2 0,.d (I h),.d (I i),.d (B j),.d (B k),.d (I l),.d (I m),.d (I n),.own 10 0,.own 11 0,.own 12 0])),(1,.row 0 5 c),(2,.row 0 5 g),(10,.row 0 1 o),(11,.row 0 6 a),(12,.row 0 7 b),(28,.row 0 5 e)]⟩
theorem GD {n d e f g i j k l m o b c}(p)(r)(h:ZS n d e f g i j k l m o b c p=some r):Rl (Zt cx.P 40 0) 22 23 false (GH d e f g i j k l m o b c) p r:=by
 unfold ZS at h;obtain⟨a,h⟩|⟨a,h⟩:=io h
 ·have⟨ha2,h⟩:=gd h;have⟨ta3,ha3,h⟩:=bo h;have⟨ha4,h⟩:=gd h;have⟨ha5,h⟩:=gd h;have⟨ha6,h⟩:=gd h;have⟨ha7,h⟩:=gd h;cases h;exact rn 29 [b1,b1,.el (VQ ta3),b1,b1,b1,b1] [] [1,5,8,9,10] [0,1,2,10,11,12,28] (Qb ha7 (Qb (ro 100 ha6) (Qb ha5 (Qb ha4 (Qb (Q0 V6 ha3) (Qb ha2 (Qb (jDj a) QA)))))))
 cases h;exact rx 29 [b0] [] [5] [0,1,2,10,11,12,28] (Qb (jEj a) QA)
def QW (n:Nat)(c d:jVj)(e f:Int)(g h:Bool)(i j k:Int)(l a b:jVj):Option (jVj) := (QU (ZS n c d e f g h i j k l a b) n (0,[])).bind fun m=>some m
theorem Q4 {n c e f g i j k l m o a b r}(h:QW n c e f g i j k l m o a b=some r):ComputesO cx 12 [.ptr 0 0 0 0 0] (some (Qa c e f g i j k l m o a b)) (.d (.lst false 5 r)) (Qa c e f g i j k l m o a b) Zj:=by unfold QW at h;have⟨t1,h1,h⟩:=bo h;obtain rfl:=oi h;exact rfO 0 [.no,b1,.lp [5,5] [1,5,8,9,10] [0,1,2,10,11,12,28] (.exit 0) [(5,.own 28 0)] [(0,.box (.agg [.own 1 0,.own 2 0,.d (I f),.d (I g),.d (B i),.d (B j),.d (I k),.d (I l),.d (I m),.own 10 0,.own 11 0,.own 12 0])),(1,.row 0 5 c),(2,.row 0 5 e),(10,.row 0 1 o),(11,.row 0 6 a),(12,.row 0 7 b),(28,.row 0 5 t1)] 82] (Qb (QE GD h1) QA)
def Zz (n:Nat)  : Option (Bool) :=
 (VH n 9 0 2 ([.agg [I 10,I 3],.agg [I 30,I 1]])).bind fun j =>
 (WO n ([.agg [I 10,I 0]]) ([I 3]) ([I 2]) 20).bind fun k =>
 if j.2.2.2.2=0 then
  if k.2.2=0 then
   (KP n j.1 ([I 2,I 2])).bind fun m =>
   if m=true then
    if j.2.1=80 then
     if k.1=0 then
      if((k.2.1).length:Int)=1 then
       (Qj n (⟨#[115,101,99,116,111,114,32,110,32,48]⟩) ([]) ([]) 0 0 false false 0 0 0 ([]) ([]) ([])).bind fun b =>
       if b.2.1=0 then
        (Qj n (⟨#[109,105,114,114,111,114,32,97,32,110,32,48,32,49,48,48]⟩) b.2.2.1 b.2.2.2.1 b.2.2.2.2.1 b.2.2.2.2.2.1 b.2.2.2.2.2.2.1 b.2.2.2.2.2.2.2.1 b.2.2.2.2.2.2.2.2.1 b.2.2.2.2.2.2.2.2.2.1 b.2.2.2.2.2.2.2.2.2.2.1 b.2.2.2.2.2.2.2.2.2.2.2.1 b.2.2.2.2.2.2.2.2.2.2.2.2.1 b.2.2.2.2.2.2.2.2.2.2.2.2.2).bind fun c =>
        if c.2.1=0 then
         (Qj n (⟨#[102,105,108,108,32,48]⟩) c.2.2.1 c.2.2.2.1 c.2.2.2.2.1 c.2.2.2.2.2.1 c.2.2.2.2.2.2.1 c.2.2.2.2.2.2.2.1 c.2.2.2.2.2.2.2.2.1 c.2.2.2.2.2.2.2.2.2.1 c.2.2.2.2.2.2.2.2.2.2.1 c.2.2.2.2.2.2.2.2.2.2.2.1 c.2.2.2.2.2.2.2.2.2.2.2.2.1 c.2.2.2.2.2.2.2.2.2.2.2.2.2).bind fun d =>
         if d.2.1=0 then
          (Qj n (⟨#[115,117,110,32,48,32,51]⟩) d.2.2.1 d.2.2.2.1 d.2.2.2.2.1 d.2.2.2.2.2.1 d.2.2.2.2.2.2.1 d.2.2.2.2.2.2.2.1 d.2.2.2.2.2.2.2.2.1 d.2.2.2.2.2.2.2.2.2.1 d.2.2.2.2.2.2.2.2.2.2.1 d.2.2.2.2.2.2.2.2.2.2.2.1 d.2.2.2.2.2.2.2.2.2.2.2.2.1 d.2.2.2.2.2.2.2.2.2.2.2.2.2).bind fun e =>
          if e.2.1=0 then
           (Qj n (⟨#[97,105,109,32,97,32,48]⟩) e.2.2.1 e.2.2.2.1 e.2.2.2.2.1 e.2.2.2.2.2.1 e.2.2.2.2.2.2.1 e.2.2.2.2.2.2.2.1 e.2.2.2.2.2.2.2.2.1 e.2.2.2.2.2.2.2.2.2.1 e.2.2.2.2.2.2.2.2.2.2.1 e.2.2.2.2.2.2.2.2.2.2.2.1 e.2.2.2.2.2.2.2.2.2.2.2.2.1 e.2.2.2.2.2.2.2.2.2.2.2.2.2).bind fun f =>
           if f.2.1=0 then
            (Qj n (⟨#[111,102,102,101,114,32,111,32,48,32,49,48,32,50,48,32,51,32,49,48]⟩) f.2.2.1 f.2.2.2.1 f.2.2.2.2.1 f.2.2.2.2.2.1 f.2.2.2.2.2.2.1 f.2.2.2.2.2.2.2.1 f.2.2.2.2.2.2.2.2.1 f.2.2.2.2.2.2.2.2.2.1 f.2.2.2.2.2.2.2.2.2.2.1 f.2.2.2.2.2.2.2.2.2.2.2.1 f.2.2.2.2.2.2.2.2.2.2.2.2.1 f.2.2.2.2.2.2.2.2.2.2.2.2.2).bind fun g =>
            if g.2.1=0 then
             (Qj n (⟨#[100,101,108,105,118,101,114,32,111,32,49,48,32,50]⟩) g.2.2.1 g.2.2.2.1 g.2.2.2.2.1 g.2.2.2.2.2.1 g.2.2.2.2.2.2.1 g.2.2.2.2.2.2.2.1 g.2.2.2.2.2.2.2.2.1 g.2.2.2.2.2.2.2.2.2.1 g.2.2.2.2.2.2.2.2.2.2.1 g.2.2.2.2.2.2.2.2.2.2.2.1 g.2.2.2.2.2.2.2.2.2.2.2.2.1 g.2.2.2.2.2.2.2.2.2.2.2.2.2).bind fun a =>
             if a.2.1=0 then
              (QW n a.2.2.1 a.2.2.2.1 a.2.2.2.2.1 a.2.2.2.2.2.1 a.2.2.2.2.2.2.1 a.2.2.2.2.2.2.2.1 a.2.2.2.2.2.2.2.2.1 a.2.2.2.2.2.2.2.2.2.1 a.2.2.2.2.2.2.2.2.2.2.1 a.2.2.2.2.2.2.2.2.2.2.2.1 a.2.2.2.2.2.2.2.2.2.2.2.2.1 a.2.2.2.2.2.2.2.2.2.2.2.2.2).bind fun l =>
              (Vp n l (⟨#[111]⟩)).bind fun h =>
              (Qj n (⟨#[98,111,111,107,115]⟩) a.2.2.1 a.2.2.2.1 a.2.2.2.2.1 a.2.2.2.2.2.1 a.2.2.2.2.2.2.1 a.2.2.2.2.2.2.2.1 a.2.2.2.2.2.2.2.2.1 a.2.2.2.2.2.2.2.2.2.1 a.2.2.2.2.2.2.2.2.2.2.1 a.2.2.2.2.2.2.2.2.2.2.2.1 a.2.2.2.2.2.2.2.2.2.2.2.2.1 a.2.2.2.2.2.2.2.2.2.2.2.2.2).bind fun i =>
              if h.2=0 then
               if h.1=0 then
                if i.2.1=0 then
                 some (i.1.toList==(⟨#[51,48,48,48,48,48,48,32,49,48,48,48,48,48,48,32,48]⟩:jSj).toList)
                else
                none
               else
               none
              else
              none
             else
             none
            else
            none
           else
           none
          else
          none
         else
         none
        else
        none
       else
       none
      else
      none
     else
     none
    else
    none
   else
   none
  else
  none
 else
 none
theorem W9 {n:Nat}  {r:Bool}(h:Zz n =some r):Computes cx 6 [] (B r):=by
 unfold Zz at h;have⟨t1,h1,h⟩:=bo h;have⟨t2,h2,h⟩:=bo h;obtain⟨m,h⟩|⟨m,h⟩:=io h
 ·obtain⟨o,h⟩|⟨o,h⟩:=io h
  ·have⟨t5,h5,h⟩:=bo h;obtain⟨p,h⟩|⟨p,h⟩:=io h
   ·obtain⟨q,h⟩|⟨q,h⟩:=io h
    ·obtain⟨s,h⟩|⟨s,h⟩:=io h
     ·obtain⟨t,h⟩|⟨t,h⟩:=io h
      ·have⟨t10,h10,h⟩:=bo h;obtain⟨a,h⟩|⟨a,h⟩:=io h
       ·have⟨t12,h12,h⟩:=bo h;obtain⟨b,h⟩|⟨b,h⟩:=io h
        ·have⟨t14,h14,h⟩:=bo h;obtain⟨c,h⟩|⟨c,h⟩:=io h
         ·have⟨t16,h16,h⟩:=bo h;obtain⟨e,h⟩|⟨e,h⟩:=io h
          ·have⟨t18,h18,h⟩:=bo h;obtain⟨f,h⟩|⟨f,h⟩:=io h
           ·have⟨t20,h20,h⟩:=bo h;obtain⟨g,h⟩|⟨g,h⟩:=io h
            ·have⟨t22,h22,h⟩:=bo h;obtain⟨i,h⟩|⟨i,h⟩:=io h
             ·have⟨t24,h24,h⟩:=bo h;have⟨t25,h25,h⟩:=bo h;have⟨t26,h26,h⟩:=bo h;obtain⟨j,h⟩|⟨j,h⟩:=io h
              ·obtain⟨k,h⟩|⟨k,h⟩:=io h
               ·obtain⟨l,h⟩|⟨l,h⟩:=io h
                ·cases h;exact rf [.ret (.tup [.lst false 1 t1.1,.agg [I t1.2.1,I t1.2.2.1,I t1.2.2.2.1],I t1.2.2.2.2]),.ret (.tup [I t2.1,.lst false 2 t2.2.1,I t2.2.2]),b1,b0,b0,.ret (B t5),b0,b0,b0,b0,.no,.no,.no,.no,.obj (some 30) (.d (.tup [Qe t10.1,I t10.2.1])) (Qa' t10.2.2) [],b0,.no,.no,.no,.obj (some 30) (.d (.tup [Qe t12.1,I t12.2.1])) (Qa' t12.2.2) [],b0,.no,.no,.no,.obj (some 30) (.d (.tup [Qe t14.1,I t14.2.1])) (Qa' t14.2.2) [],b0,.no,.no,.no,.obj (some 30) (.d (.tup [Qe t16.1,I t16.2.1])) (Qa' t16.2.2) [],b0,.no,.no,.no,.obj (some 30) (.d (.tup [Qe t18.1,I t18.2.1])) (Qa' t18.2.2) [],b0,.no,.no,.no,.obj (some 30) (.d (.tup [Qe t20.1,I t20.2.1])) (Qa' t20.2.2) [],b0,.no,.no,.no,.obj (some 30) (.d (.tup [Qe t22.1,I t22.2.1])) (Qa' t22.2.2) [],b0,.no,.no,.obj (some 30) (.d (.lst false 5 t24)) (Qa' t22.2.2) Zj,.ret (.tup [I t25.1,I t25.2]),.obj (some 30) (.d (.tup [Qe t26.1,I t26.2.1])) (Qa' t26.2.2) [],b1,b1,b1] (Qb (eqt l) (Qb (eqt k) (Qb (eqt j) (Qb (Qo h26) (Qb (Kc h25) (Qb (Q4 h24) (Qb ((by unfold Qg;omega):Qg 7) (Qb (nef i) (Qb (Qo h22) (Qb ((by unfold Qg;omega):Qg 6) (Qb (nef g) (Qb (Qo h20) (Qb ((by unfold Qg;omega):Qg 5) (Qb (nef f) (Qb (Qo h18) (Qb ((by unfold Qg;omega):Qg 4) (Qb (nef e) (Qb (Qo h16) (Qb ((by unfold Qg;omega):Qg 3) (Qb (nef c) (Qb (Qo h14) (Qb ((by unfold Qg;omega):Qg 2) (Qb (nef b) (Qb (Qo h12) (Qb ((by unfold Qg;omega):Qg 1) (Qb (nef a) (Qb (Qo h10) (Qb (nef t) (Qb (nef s) (Qb (nef q) (Qb (zV p) (Qb (((kl h5).le (.cons (.refl _) (.cons (.full _ _ _) (.nil))) (.refl _)):Computes cx 21 [.lst false 1 t1.1,.lst true 1 [I 2,I 2]] (B t5)) (Qb (nef o) (Qb (nef m) (Qb (((Y8 h2).le (.cons (.full _ _ _) (.cons (.full _ _ _) (.cons (.full _ _ _) (.cons (.refl _) (.nil))))) (.refl _)):Computes cx 15 [.lst true 2 [.agg [I 10,I 0]],.lst true 1 [I 3],.lst true 1 [I 2],I 20] (.tup [I t2.1,.lst false 2 t2.2.1,I t2.2.2])) (Qb (((Jn h1).le (.cons (.refl _) (.cons (.full _ _ _) (.nil))) (.refl _)):Computes cx 7 [.agg [I 9,I 0,I 2],.lst true 2 [.agg [I 10,I 3],.agg [I 30,I 1]]] (.tup [.lst false 1 t1.1,.agg [I t1.2.1,I t1.2.2.1,I t1.2.2.2.1],I t1.2.2.2.2])) QA))))))))))))))))))))))))))))))))))))
                cases h
               cases h
              cases h
             cases h
            cases h
           cases h
          cases h
         cases h
        cases h
       cases h
      cases h
     cases h
    cases h
   cases h
  cases h
 cases h
theorem Gm {n b c d r}(h:Zq n b c d=some r):Computes cx 55 [I b,I c,I d] (I r):=by
 unfold Zq at h;obtain⟨a,h⟩|⟨a,h⟩:=io h
 ·have⟨t2,h2,h⟩:=bo h;obtain rfl:=oi h;exact rf [b1,.ret (I t2)] (Qb (jd h2) (Qb (jDj a) QA))
 have⟨t2,h2,h⟩:=bo h;obtain rfl:=oi h;exact rf [b0,.ret (I t2)] (Qb (jd h2) (Qb (jEj a) QA))
noncomputable def kJ (a:jVj):Lp (Int) (Int⊕Unit):=⟨fun b=>[(0,.d (.lst false 1 a)),(3,.d (I b))],fun _=>[],fun
 | (.inl e)=>.ret
 | (.inr e)=>(.exit 0),fun
 | (.inl e)=>[(2,.d (I e))]
 | (.inr e)=>[],fun _=>[]⟩
theorem XJ {n c}(d)(r)(h:Q6 n c d=some r):Rl (Zt cx.P 54 0) 19 0 false (kJ c) d r:=by
 unfold Q6 at h;obtain⟨a,h⟩|⟨a,h⟩:=io h
 ·have⟨ta2,ha2,h⟩:=bo h;have q:=Q2 QM ha2 (Qb (jDj a) QA);obtain⟨b,h⟩|⟨b,h⟩:=io h
  ·have⟨ha4,h⟩:=gd h;cases h;exact rn 2 [b1,.el (Zi ta2),b0] [] [0,3] [] (Qb ha4 (Qb (nef b) q))
  cases h;exact rx 2 [b1,.el (Zi ta2),b1,.el (Zi ta2)] [] [2] [] (Q2 QM ha2 (Qb (net b) q))
 cases h;exact rx 2 [b0] [] [] [] (Qb (jEj a) QA)
theorem QaN {n b r}(h:Qi n b=some r):Computes cx 54 [.lst false 1 b] (I r):=by
 unfold Qi at h;have⟨a,h1,h⟩:=bo h;obtain a|a:=a
 ·obtain rfl:=oi h;exact rf [.lp [] [0,3] [] .ret [(2,.d (I a))] [] 27] (Qb (QE XJ h1) QA)
 obtain rfl:=oi h;exact rf [.lp [] [0,3] [] (.exit 0) [] [] 27] (Qb (QE XJ h1) QA)
def ZB (n:Nat)(f:jVj)(c:Int):Option (Int⊕Int⊕Unit) := if c<((f).length:Int) then(el UX f c).bind fun a=>(Zq n a.1 (-100000) 100000).bind fun d=>(Zq n a.2 0 30).bind fun e=>(Qi n ([I d,I e])).bind fun b=>if b=0 then if Qg (c+1) then some (.inl (c+1)) else none else some (.inr (.inl b)) else some (.inr (.inr ()))
noncomputable def Xe (a:jVj):Lp (Int) (Int⊕Unit):=⟨fun b=>[(0,.d (.lst false 2 a)),(3,.d (I b))],fun _=>[],fun
 | (.inl e)=>.ret
 | (.inr e)=>(.exit 0),fun
 | (.inl e)=>[(2,.d (I e))]
 | (.inr e)=>[],fun _=>[]⟩
theorem Uy {n c}(d)(r)(h:ZB n c d=some r):Rl (Zt cx.P 19 0) 31 0 false (Xe c) d r:=by
 unfold ZB at h;obtain⟨a,h⟩|⟨a,h⟩:=io h
 ·have⟨ta2,ha2,h⟩:=bo h;have⟨ta3,ha3,h⟩:=bo h;have⟨ta4,ha4,h⟩:=bo h;have⟨ta5,ha5,h⟩:=bo h;have q:=Qb (leF (QaN ha5)) (Qb (Gm ha4) (Q2 Yz ha2 (Qb (Gm ha3) (Q2 Yz ha2 (Qb (jDj a) QA)))));let o(l:jOj):=b1::.el (Ux ta2)::.ret (I ta3)::.el (Ux ta2)::.ret (I ta4)::.ret (I ta5)::l;obtain⟨b,h⟩|⟨b,h⟩:=io h
  ·have⟨ha7,h⟩:=gd h;cases h;exact rn 5 (o [b0]) [] [0,3] [] (Qb ha7 (Qb (nef b) q))
  cases h;exact rx 5 (o [b1]) [] [2] [] (Qb (net b) q)
 cases h;exact rx 5 [b0] [] [] [] (Qb (jEj a) QA)
def Vh (n:Nat)(b:jVj):Option (Int) := if((b).length:Int)>8 then some 5 else(QU (ZB n b) n 0).bind fun a=>match a with|.inl a=>(some a)|.inr a=>(some 0)
theorem ED {n c r}(h:Vh n c=some r):Computes cx 19 [.lst false 2 c] (I r):=by
 unfold Vh at h;obtain⟨b,h⟩|⟨b,h⟩:=io h
 ·obtain rfl:=oi h;exact rf [b1] (Qb (jDj b) QA)
 have q:=Qb (jEj b) QA;have⟨a,h2,h⟩:=bo h;obtain a|a:=a
 ·obtain rfl:=oi h;exact rf [b0,.lp [] [0,3] [] .ret [(2,.d (I a))] [] 40] (Qb (QE Uy h2) q)
 obtain rfl:=oi h;exact rf [b0,.lp [] [0,3] [] (.exit 0) [] [] 40] (Qb (QE Uy h2) q)
def Zm (n:Nat)(c:jVj)(b:(Int×Int×jVj)):Option (Int×Int×jVj⊕Unit⊕Int×jVj) := if b.2.1<((c).length:Int) then(el UX c b.2.1).bind fun a=>if a.1<0 then some (.inr (.inl ())) else if a.1>1000 then some (.inr (.inl ())) else if Qg (b.1+a.2) then if Wi 16 ((b.2.2).length+1) then if Qg (b.2.1+1) then some (.inl ((b.1+a.2),(b.2.1+1),(b.2.2++([.agg [I a.1,I a.2]]:jVj)))) else none else none else none else some (.inr (.inr (b.1,b.2.2)))
noncomputable def Et (b:jVj):Lp (Int×Int×jVj) (Unit⊕Int×jVj):=⟨fun a=>[(4,.d (I a.1)),(5,.own 20 0),(21,.d (.lst false 2 b)),(22,.d (I ((b).length:Int))),(23,.d (I a.2.1))],fun a=>[(20,.row 0 2 a.2.2)],fun
 | (.inl e)=>.ret
 | (.inr e)=>(.exit 0),fun
 | (.inl e)=>[(2,.d (.lst true 0 [])),(3,.d (B false))]
 | (.inr e)=>[(4,.d (I e.1)),(5,.own 20 0)],fun
 | (.inl e)=>[]
 | (.inr e)=>[(20,.row 0 2 e.2)]⟩
theorem Kj {n d}(e)(r)(h:Zm n d e=some r):Rl (Zt cx.P 5 0) 47 0 false (Et d) e r:=by
 unfold Zm at h;obtain⟨a,h⟩|⟨a,h⟩:=io h
 ·have⟨ta2,ha2,h⟩:=bo h;have q:=Q2 Yz ha2 (Qb (jDj a) QA);let o(l:jOj):=b1::.el (Ux ta2)::l;obtain⟨b,h⟩|⟨b,h⟩:=io h
  ·cases h;exact rx 21 (o [b1,.no]) [] [2,3] [] (Qb (jDj b) q)
  have q:=Qb (jEj b) q;obtain⟨c,h⟩|⟨c,h⟩:=io h
  ·cases h;exact rx 21 (o [b0,b1]) [] [2,3] [] (Qb (jDj c) q)
  have⟨ha5,h⟩:=gd h;have⟨ha6,h⟩:=gd h;have⟨ha7,h⟩:=gd h;cases h;exact rn 21 (o [b0,b0,b1]) [] [4,5,21,22,23] [20] (Qb ha7 (Qb (ro 28 ha6) (Qb ha5 (Qb (jEj c) q))))
 cases h;exact rx 21 [b0] [] [4,5] [20] (Qb (jEj a) QA)
def VL (n:Nat)(b:jVj):Option (jVj×Bool) := if((b).length:Int)<1 then some ([],false) else if((b).length:Int)>6 then some ([],false) else(Vh n b).bind fun c=>if c=0 then(QU (Zm n b) n (0,0,[])).bind fun a=>match a with|.inl a=>(some ([],false))|.inr a=>(some (a.2,(decide (a.1<=60)))) else some ([],false)
theorem zo {n f r}(h:VL n f=some r):Computes cx 5 [.lst false 2 f] (.tup [.lst false 2 r.1,B r.2]):=by
 unfold VL at h;obtain⟨b,h⟩|⟨b,h⟩:=io h
 ·cases h;exact(rf (r:=.tup [.lst true 0 [],B false]) [b1,.no,.no] (Qb (jDj b) QA)).le (LEs.refl _) (.tups (.cons (.nilF) (.cons (.refl _) (.nil))))
 have q:=Qb (jEj b) QA;obtain⟨c,h⟩|⟨c,h⟩:=io h
 ·cases h;exact(rf (r:=.tup [.lst true 0 [],B false]) [b0,b1,.no] (Qb (jDj c) q)).le (LEs.refl _) (.tups (.cons (.nilF) (.cons (.refl _) (.nil))))
 have⟨t3,h3,h⟩:=bo h;have q:=Qb (ED h3) (Qb (jEj c) q);let o(l:jOj):=b0::b0::.ret (I t3)::l;obtain⟨e,h⟩|⟨e,h⟩:=io h
 ·have q:=Qb (nef e) q;have⟨a,h5,h⟩:=bo h;obtain a|a:=a
  ·cases h;exact(rf (r:=.tup [.lst true 0 [],B false]) (o [b0,.lp [5,2] [4,5,21,22,23] [20] .ret [(2,.d (.lst true 0 [])),(3,.d (B false))] [] 57]) (Qb (QE Kj h5) q)).le (LEs.refl _) (.tups (.cons (.nilF) (.cons (.refl _) (.nil))))
  cases h;exact rf (o [b0,.lp [5,2] [4,5,21,22,23] [20] (.exit 0) [(4,.d (I a.1)),(5,.own 20 0)] [(20,.row 0 2 a.2)] 57]) (Qb (QE Kj h5) q)
 cases h;exact(rf (r:=.tup [.lst true 0 [],B false]) (o [b1]) (Qb (net e) q)).le (LEs.refl _) (.tups (.cons (.nilF) (.cons (.refl _) (.nil))))
end Go.Proofs.YthdghjjahodkaaaGreatDoor
