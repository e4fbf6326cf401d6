/- Own texts. -/
import Derived.Test.YthdghjjahodkaaaGreatDoorAStr
import Derived.KernelRfl
set_option linter.unusedSimpArgs false
set_option linter.unusedVariables false
set_option linter.unnecessarySimpa false
set_option maxRecDepth 10000
set_option maxHeartbeats 4000000
namespace Go.Proofs.YthdghjjahodkaaaGreatDoor
open Go.SX
def qo (n:Nat)(t1:jVj×Bool)(t4:jVj×Int×Int×Int×Int)(d:(Int×Int×Int×Int×Int×Bool×Bool×Int×Int×Int×jVj×jVj×jVj×jVj×jVj))(u:Int×Int)(f:jSj)(l:Int):Option (Int×Int×Int×Int×Int×Bool×Bool×Int×Int×Int×jVj×jVj×jVj×jVj×jVj⊕Int×Int×Int×Int×Bool×Bool×Int×Int×Int×jVj×jVj×jVj×jVj×jVj) := if Qg l then(el V5 t4.1 d.2.2.1).bind fun j=>if Qg (j - (Zv j l)) then if Qg (d.2.1+(j - (Zv j l))) then(QT n (10*d.2.2.1)).bind fun e=>if(⟨#[115,117,110,32]⟩:jSj).size+e.size<=9223372036854775807 then if((⟨#[115,117,110,32]⟩:jSj)++e).size+(⟨#[32]⟩:jSj).size<=9223372036854775807 then(QT n u.2).bind fun v=>if(((⟨#[115,117,110,32]⟩:jSj)++e)++(⟨#[32]⟩:jSj)).size+v.size<=9223372036854775807 then if(⟨#[111,102,102,101,114,32]⟩:jSj).size+((⟨#[111]⟩:jSj)++f).size<=9223372036854775807 then if((⟨#[111,102,102,101,114,32]⟩:jSj)++((⟨#[111]⟩:jSj)++f)).size+(⟨#[32]⟩:jSj).size<=9223372036854775807 then if(((⟨#[111,102,102,101,114,32]⟩:jSj)++((⟨#[111]⟩:jSj)++f))++(⟨#[32]⟩:jSj)).size+e.size<=9223372036854775807 then if((((⟨#[111,102,102,101,114,32]⟩:jSj)++((⟨#[111]⟩:jSj)++f))++(⟨#[32]⟩:jSj))++e).size+(⟨#[32]⟩:jSj).size<=9223372036854775807 then if Qg ((10*d.2.2.1)+10) then(QT n ((10*d.2.2.1)+10)).bind fun g=>if(((((⟨#[111,102,102,101,114,32]⟩:jSj)++((⟨#[111]⟩:jSj)++f))++(⟨#[32]⟩:jSj))++e)++(⟨#[32]⟩:jSj)).size+g.size<=9223372036854775807 then if((((((⟨#[111,102,102,101,114,32]⟩:jSj)++((⟨#[111]⟩:jSj)++f))++(⟨#[32]⟩:jSj))++e)++(⟨#[32]⟩:jSj))++g).size+(⟨#[32]⟩:jSj).size<=9223372036854775807 then if Qg ((10*d.2.2.1)+20) then(QT n ((10*d.2.2.1)+20)).bind fun k=>if(((((((⟨#[111,102,102,101,114,32]⟩:jSj)++((⟨#[111]⟩:jSj)++f))++(⟨#[32]⟩:jSj))++e)++(⟨#[32]⟩:jSj))++g)++(⟨#[32]⟩:jSj)).size+k.size<=9223372036854775807 then if((((((((⟨#[111,102,102,101,114,32]⟩:jSj)++((⟨#[111]⟩:jSj)++f))++(⟨#[32]⟩:jSj))++e)++(⟨#[32]⟩:jSj))++g)++(⟨#[32]⟩:jSj))++k).size+(⟨#[32]⟩:jSj).size<=9223372036854775807 then(QT n l).bind fun q=>if(((((((((⟨#[111,102,102,101,114,32]⟩:jSj)++((⟨#[111]⟩:jSj)++f))++(⟨#[32]⟩:jSj))++e)++(⟨#[32]⟩:jSj))++g)++(⟨#[32]⟩:jSj))++k)++(⟨#[32]⟩:jSj)).size+q.size<=9223372036854775807 then if((((((((((⟨#[111,102,102,101,114,32]⟩:jSj)++((⟨#[111]⟩:jSj)++f))++(⟨#[32]⟩:jSj))++e)++(⟨#[32]⟩:jSj))++g)++(⟨#[32]⟩:jSj))++k)++(⟨#[32]⟩:jSj))++q).size+(⟨#[32]⟩:jSj).size<=9223372036854775807 then(QT n u.1).bind fun x=>if(((((((((((⟨#[111,102,102,101,114,32]⟩:jSj)++((⟨#[111]⟩:jSj)++f))++(⟨#[32]⟩:jSj))++e)++(⟨#[32]⟩:jSj))++g)++(⟨#[32]⟩:jSj))++k)++(⟨#[32]⟩:jSj))++q)++(⟨#[32]⟩:jSj)).size+x.size<=9223372036854775807 then if(Zv j l)>0 then if(⟨#[100,101,108,105,118,101,114,32]⟩:jSj).size+((⟨#[111]⟩:jSj)++f).size<=9223372036854775807 then if((⟨#[100,101,108,105,118,101,114,32]⟩:jSj)++((⟨#[111]⟩:jSj)++f)).size+(⟨#[32]⟩:jSj).size<=9223372036854775807 then if(((⟨#[100,101,108,105,118,101,114,32]⟩:jSj)++((⟨#[111]⟩:jSj)++f))++(⟨#[32]⟩:jSj)).size+g.size<=9223372036854775807 then if((((⟨#[100,101,108,105,118,101,114,32]⟩:jSj)++((⟨#[111]⟩:jSj)++f))++(⟨#[32]⟩:jSj))++g).size+(⟨#[32]⟩:jSj).size<=9223372036854775807 then(QT n (Zv j l)).bind fun r=>if(((((⟨#[100,101,108,105,118,101,114,32]⟩:jSj)++((⟨#[111]⟩:jSj)++f))++(⟨#[32]⟩:jSj))++g)++(⟨#[32]⟩:jSj)).size+r.size<=9223372036854775807 then(Qj n ((((⟨#[115,117,110,32]⟩:jSj)++e)++(⟨#[32]⟩:jSj))++v) d.2.2.2.2.2.2.2.2.2.2.1 d.2.2.2.2.2.2.2.2.2.2.2.1 d.2.2.2.1 d.2.2.2.2.1 d.2.2.2.2.2.1 d.2.2.2.2.2.2.1 d.2.2.2.2.2.2.2.1 d.2.2.2.2.2.2.2.2.1 d.2.2.2.2.2.2.2.2.2.1 d.2.2.2.2.2.2.2.2.2.2.2.2.1 d.2.2.2.2.2.2.2.2.2.2.2.2.2.1 d.2.2.2.2.2.2.2.2.2.2.2.2.2.2).bind fun c=>if c.2.1=0 then(Qj n ((((((((((((⟨#[111,102,102,101,114,32]⟩:jSj)++((⟨#[111]⟩:jSj)++f))++(⟨#[32]⟩:jSj))++e)++(⟨#[32]⟩:jSj))++g)++(⟨#[32]⟩:jSj))++k)++(⟨#[32]⟩:jSj))++q)++(⟨#[32]⟩:jSj))++x) c.2.2.1 c.2.2.2.1 c.2.2.2.2.1 c.2.2.2.2.2.1 c.2.2.2.2.2.2.1 c.2.2.2.2.2.2.2.1 c.2.2.2.2.2.2.2.2.1 c.2.2.2.2.2.2.2.2.2.1 c.2.2.2.2.2.2.2.2.2.2.1 c.2.2.2.2.2.2.2.2.2.2.2.1 c.2.2.2.2.2.2.2.2.2.2.2.2.1 c.2.2.2.2.2.2.2.2.2.2.2.2.2).bind fun i=>if i.2.1=0 then(Qj n ((((((⟨#[100,101,108,105,118,101,114,32]⟩:jSj)++((⟨#[111]⟩:jSj)++f))++(⟨#[32]⟩:jSj))++g)++(⟨#[32]⟩:jSj))++r) i.2.2.1 i.2.2.2.1 i.2.2.2.2.1 i.2.2.2.2.2.1 i.2.2.2.2.2.2.1 i.2.2.2.2.2.2.2.1 i.2.2.2.2.2.2.2.2.1 i.2.2.2.2.2.2.2.2.2.1 i.2.2.2.2.2.2.2.2.2.2.1 i.2.2.2.2.2.2.2.2.2.2.2.1 i.2.2.2.2.2.2.2.2.2.2.2.2.1 i.2.2.2.2.2.2.2.2.2.2.2.2.2).bind fun b=>if b.2.1=0 then(QW n b.2.2.1 b.2.2.2.1 b.2.2.2.2.1 b.2.2.2.2.2.1 b.2.2.2.2.2.2.1 b.2.2.2.2.2.2.2.1 b.2.2.2.2.2.2.2.2.1 b.2.2.2.2.2.2.2.2.2.1 b.2.2.2.2.2.2.2.2.2.2.1 b.2.2.2.2.2.2.2.2.2.2.2.1 b.2.2.2.2.2.2.2.2.2.2.2.2.1 b.2.2.2.2.2.2.2.2.2.2.2.2.2).bind fun z=>(Wf n z ((⟨#[111]⟩:jSj)++f)).bind fun t=>(Vp n z ((⟨#[111]⟩:jSj)++f)).bind fun o=>(el UX t1.1 d.2.2.1).bind fun A=>if Qg (2*u.1) then(WO n ([.agg [I A.1,I A.2]]) ([I l]) ([I (Zv j l)]) (2*u.1)).bind fun p=>if t.2=0 then if o.2=0 then if p.2.2=0 then if Qg (l - (Zv j l)) then if t.1=(l - (Zv j l)) then if o.1=p.1 then if(!((((p.2.1).length:Int)==1)==(decide (t.1>0))))=true then none else if((p.2.1).length:Int)>1 then none else if((p.2.1).length:Int)=1 then(el UX p.2.1 0).bind fun E=>if((E.1==0)&&((E.2==t.1)&&true))=true then if Qg (d.1+o.1) then if Qg (d.2.2.1+1) then some (.inl ((d.1+o.1),(d.2.1+(j - (Zv j l))),(d.2.2.1+1),b.2.2.2.2.1,b.2.2.2.2.2.1,b.2.2.2.2.2.2.1,b.2.2.2.2.2.2.2.1,b.2.2.2.2.2.2.2.2.1,b.2.2.2.2.2.2.2.2.2.1,b.2.2.2.2.2.2.2.2.2.2.1,b.2.2.1,b.2.2.2.1,b.2.2.2.2.2.2.2.2.2.2.2.1,b.2.2.2.2.2.2.2.2.2.2.2.2.1,b.2.2.2.2.2.2.2.2.2.2.2.2.2)) else none else none else none else if Qg (d.1+o.1) then if Qg (d.2.2.1+1) then some (.inl ((d.1+o.1),(d.2.1+(j - (Zv j l))),(d.2.2.1+1),b.2.2.2.2.1,b.2.2.2.2.2.1,b.2.2.2.2.2.2.1,b.2.2.2.2.2.2.2.1,b.2.2.2.2.2.2.2.2.1,b.2.2.2.2.2.2.2.2.2.1,b.2.2.2.2.2.2.2.2.2.2.1,b.2.2.1,b.2.2.2.1,b.2.2.2.2.2.2.2.2.2.2.2.1,b.2.2.2.2.2.2.2.2.2.2.2.2.1,b.2.2.2.2.2.2.2.2.2.2.2.2.2)) else none else none else none else none else none else none else none else none else none else none else none else none else none else none else none else none else none else(Qj n ((((⟨#[115,117,110,32]⟩:jSj)++e)++(⟨#[32]⟩:jSj))++v) d.2.2.2.2.2.2.2.2.2.2.1 d.2.2.2.2.2.2.2.2.2.2.2.1 d.2.2.2.1 d.2.2.2.2.1 d.2.2.2.2.2.1 d.2.2.2.2.2.2.1 d.2.2.2.2.2.2.2.1 d.2.2.2.2.2.2.2.2.1 d.2.2.2.2.2.2.2.2.2.1 d.2.2.2.2.2.2.2.2.2.2.2.2.1 d.2.2.2.2.2.2.2.2.2.2.2.2.2.1 d.2.2.2.2.2.2.2.2.2.2.2.2.2.2).bind fun h=>if h.2.1=0 then(Qj n ((((((((((((⟨#[111,102,102,101,114,32]⟩:jSj)++((⟨#[111]⟩:jSj)++f))++(⟨#[32]⟩:jSj))++e)++(⟨#[32]⟩:jSj))++g)++(⟨#[32]⟩:jSj))++k)++(⟨#[32]⟩:jSj))++q)++(⟨#[32]⟩:jSj))++x) h.2.2.1 h.2.2.2.1 h.2.2.2.2.1 h.2.2.2.2.2.1 h.2.2.2.2.2.2.1 h.2.2.2.2.2.2.2.1 h.2.2.2.2.2.2.2.2.1 h.2.2.2.2.2.2.2.2.2.1 h.2.2.2.2.2.2.2.2.2.2.1 h.2.2.2.2.2.2.2.2.2.2.2.1 h.2.2.2.2.2.2.2.2.2.2.2.2.1 h.2.2.2.2.2.2.2.2.2.2.2.2.2).bind fun a=>if a.2.1=0 then(QW n a.2.2.1 a.2.2.2.1 a.2.2.2.2.1 a.2.2.2.2.2.1 a.2.2.2.2.2.2.1 a.2.2.2.2.2.2.2.1 a.2.2.2.2.2.2.2.2.1 a.2.2.2.2.2.2.2.2.2.1 a.2.2.2.2.2.2.2.2.2.2.1 a.2.2.2.2.2.2.2.2.2.2.2.1 a.2.2.2.2.2.2.2.2.2.2.2.2.1 a.2.2.2.2.2.2.2.2.2.2.2.2.2).bind fun r=>(Wf n r ((⟨#[111]⟩:jSj)++f)).bind fun s=>(Vp n r ((⟨#[111]⟩:jSj)++f)).bind fun c=>(el UX t1.1 d.2.2.1).bind fun y=>if Qg (2*u.1) then(WO n ([.agg [I y.1,I y.2]]) ([I l]) ([I (Zv j l)]) (2*u.1)).bind fun m=>if s.2=0 then if c.2=0 then if m.2.2=0 then if Qg (l - (Zv j l)) then if s.1=(l - (Zv j l)) then if c.1=m.1 then if(!((((m.2.1).length:Int)==1)==(decide (s.1>0))))=true then none else if((m.2.1).length:Int)>1 then none else if((m.2.1).length:Int)=1 then(el UX m.2.1 0).bind fun C=>if((C.1==0)&&((C.2==s.1)&&true))=true then if Qg (d.1+c.1) then if Qg (d.2.2.1+1) then some (.inl ((d.1+c.1),(d.2.1+(j - (Zv j l))),(d.2.2.1+1),a.2.2.2.2.1,a.2.2.2.2.2.1,a.2.2.2.2.2.2.1,a.2.2.2.2.2.2.2.1,a.2.2.2.2.2.2.2.2.1,a.2.2.2.2.2.2.2.2.2.1,a.2.2.2.2.2.2.2.2.2.2.1,a.2.2.1,a.2.2.2.1,a.2.2.2.2.2.2.2.2.2.2.2.1,a.2.2.2.2.2.2.2.2.2.2.2.2.1,a.2.2.2.2.2.2.2.2.2.2.2.2.2)) else none else none else none else if Qg (d.1+c.1) then if Qg (d.2.2.1+1) then some (.inl ((d.1+c.1),(d.2.1+(j - (Zv j l))),(d.2.2.1+1),a.2.2.2.2.1,a.2.2.2.2.2.1,a.2.2.2.2.2.2.1,a.2.2.2.2.2.2.2.1,a.2.2.2.2.2.2.2.2.1,a.2.2.2.2.2.2.2.2.2.1,a.2.2.2.2.2.2.2.2.2.2.1,a.2.2.1,a.2.2.2.1,a.2.2.2.2.2.2.2.2.2.2.2.1,a.2.2.2.2.2.2.2.2.2.2.2.2.1,a.2.2.2.2.2.2.2.2.2.2.2.2.2)) else none else none else none else none else none else none else none else none else none else none else none else none else none else none else none else none else none else none else none else none else none else none else none else none else none else none else none else none else none else none
def kB (n:Nat)(a0:jVj)(d e f g h i:Int)(t1:jVj×Bool)(t4:jVj×Int×Int×Int×Int)(a:(Int×Int×Int×Int×Int×Bool×Bool×Int×Int×Int×jVj×jVj×jVj×jVj×jVj)):Option (Int×Int×Int×Int×Int×Bool×Bool×Int×Int×Int×jVj×jVj×jVj×jVj×jVj⊕Int×Int×Int×Int×Bool×Bool×Int×Int×Int×jVj×jVj×jVj×jVj×jVj) := if a.2.2.1<((a0).length:Int) then(el UX a0 a.2.2.1).bind fun c=>(QT n a.2.2.1).bind fun b=>if(⟨#[111]⟩:jSj).size+b.size<=9223372036854775807 then if Qg (10*a.2.2.1) then if a.2.2.1=0 then qo n t1 t4 a c b (1+(Int.tmod (IntKind.wrap .i64 d) 30)) else if a.2.2.1=1 then qo n t1 t4 a c b (1+(Int.tmod (IntKind.wrap .i64 e) 30)) else if a.2.2.1=2 then qo n t1 t4 a c b (1+(Int.tmod (IntKind.wrap .i64 f) 30)) else if a.2.2.1=3 then qo n t1 t4 a c b (1+(Int.tmod (IntKind.wrap .i64 g) 30)) else if a.2.2.1=4 then qo n t1 t4 a c b (1+(Int.tmod (IntKind.wrap .i64 h) 30)) else if a.2.2.1=5 then qo n t1 t4 a c b (1+(Int.tmod (IntKind.wrap .i64 i) 30)) else none else none else none else some (.inr (a.1,a.2.1,a.2.2.2.1,a.2.2.2.2.1,a.2.2.2.2.2.1,a.2.2.2.2.2.2.1,a.2.2.2.2.2.2.2.1,a.2.2.2.2.2.2.2.2.1,a.2.2.2.2.2.2.2.2.2.1,a.2.2.2.2.2.2.2.2.2.2.1,a.2.2.2.2.2.2.2.2.2.2.2.1,a.2.2.2.2.2.2.2.2.2.2.2.2.1,a.2.2.2.2.2.2.2.2.2.2.2.2.2.1,a.2.2.2.2.2.2.2.2.2.2.2.2.2.2))
noncomputable def Qk6 (a0:jVj)(b c f g h i:Int)(t1:jVj×Bool)(t4:jVj×Int×Int×Int×Int):Lp (Int×Int×Int×Int×Int×Bool×Bool×Int×Int×Int×jVj×jVj×jVj×jVj×jVj) (Int×Int×Int×Int×Bool×Bool×Int×Int×Int×jVj×jVj×jVj×jVj×jVj):=⟨fun a=>[(0,.d (.lst false 2 a0)),(5,.ptr 0 0 0 0 0),(7,.d (.lst false 2 t1.1)),(9,.d (.lst false 1 t4.1)),(10,.ptr 23 0 0 0 0),(12,.ptr 39 0 0 0 0),(14,.d (I a.1)),(15,.d (I a.2.1)),(87,.d (.lst false 2 a0)),(88,.d (I ((a0).length:Int))),(89,.d (I a.2.2.1))],fun a=>[(0,.box (.d (.agg [.v (.int .u8 b),.v (.int .u8 c),.v (.int .u8 f),.v (.int .u8 g),.v (.int .u8 h),.v (.int .u8 i)]))),(23,.box (.d (.agg [I t4.2.1,I t4.2.2.1,I t4.2.2.2.1]))),(39,.box (.agg [.own 58 0,.own 59 0,.d (I a.2.2.2.1),.d (I a.2.2.2.2.1),.d (B a.2.2.2.2.2.1),.d (B a.2.2.2.2.2.2.1),.d (I a.2.2.2.2.2.2.2.1),.d (I a.2.2.2.2.2.2.2.2.1),.d (I a.2.2.2.2.2.2.2.2.2.1),.own 67 0,.own 68 0,.own 69 0])),(58,.row 0 5 a.2.2.2.2.2.2.2.2.2.2.1),(59,.row 0 5 a.2.2.2.2.2.2.2.2.2.2.2.1),(67,.row 0 1 a.2.2.2.2.2.2.2.2.2.2.2.2.1),(68,.row 0 6 a.2.2.2.2.2.2.2.2.2.2.2.2.2.1),(69,.row 0 7 a.2.2.2.2.2.2.2.2.2.2.2.2.2.2)],fun _=>(.exit 0),fun e=>[(0,.d (.lst false 2 a0)),(10,.ptr 23 0 0 0 0),(12,.ptr 39 0 0 0 0),(14,.d (I e.1)),(15,.d (I e.2.1))],fun e=>[(23,.box (.d (.agg [I t4.2.1,I t4.2.2.1,I t4.2.2.2.1]))),(39,.box (.agg [.own 58 0,.own 59 0,.d (I e.2.2.1),.d (I e.2.2.2.1),.d (B e.2.2.2.2.1),.d (B e.2.2.2.2.2.1),.d (I e.2.2.2.2.2.2.1),.d (I e.2.2.2.2.2.2.2.1),.d (I e.2.2.2.2.2.2.2.2.1),.own 67 0,.own 68 0,.own 69 0])),(58,.row 0 5 e.2.2.2.2.2.2.2.2.2.1),(59,.row 0 5 e.2.2.2.2.2.2.2.2.2.2.1),(67,.row 0 1 e.2.2.2.2.2.2.2.2.2.2.2.1),(68,.row 0 6 e.2.2.2.2.2.2.2.2.2.2.2.2.1),(69,.row 0 7 e.2.2.2.2.2.2.2.2.2.2.2.2.2)]⟩
theorem Qk4 {n a0 a2 a3 a4 a5 a6 a7 t1 t4}(sa)(r)(h:kB n a0 a2 a3 a4 a5 a6 a7 t1 t4 sa=some r):Rl (Zt cx.P 4 0) 352 0 false (Qk6 a0 a2 a3 a4 a5 a6 a7 t1 t4) sa r:=by
 unfold kB at h;obtain⟨a1,h⟩|⟨a1,h⟩:=io h
 ·have⟨ta2,ha2,h⟩:=bo h;have⟨ta3,ha3,h⟩:=bo h;have⟨ha4,h⟩:=gd h;have⟨ha5,h⟩:=gd h;have q:=Qb ha5 (Qb ha4 (Qb (QG ha3) (Q2 Yz ha2 (Qb (jDj a1) QA))));let o(l:jOj):=b1::.el (Ux ta2)::.ret (Qe ta3)::l;obtain⟨a8,h⟩|⟨a8,h⟩:=io h
  ·unfold qo at h;have⟨Z,h⟩:=gd h;have⟨ta8,Y,h⟩:=bo h;have⟨X,h⟩:=gd h;have⟨V,h⟩:=gd h;have⟨ta11,ha11,h⟩:=bo h;have⟨ha12,h⟩:=gd h;have⟨ha13,h⟩:=gd h;have⟨ta14,ha14,h⟩:=bo h;have⟨ha15,h⟩:=gd h;have⟨ha16,h⟩:=gd h;have⟨ha17,h⟩:=gd h;have⟨ha18,h⟩:=gd h;have⟨ha19,h⟩:=gd h;have⟨ha20,h⟩:=gd h;have⟨ta21,ha21,h⟩:=bo h;have⟨ha22,h⟩:=gd h;have⟨ha23,h⟩:=gd h;have⟨ha24,h⟩:=gd h;have⟨ta25,ha25,h⟩:=bo h;have⟨ha26,h⟩:=gd h;have⟨ha27,h⟩:=gd h;have⟨ta28,ha28,h⟩:=bo h;have⟨ha29,h⟩:=gd h;have⟨ha30,h⟩:=gd h;have⟨ta31,ha31,h⟩:=bo h;have⟨ha32,h⟩:=gd h;have q:=Qb ha32 (Qb (QG ha31) (Qb ha30 (Qb ha29 (Qb (QG ha28) (Qb ha27 (Qb ha26 (Qb (QG ha25) (Qb ha24 (Qb ha23 (Qb ha22 (Qb (QG ha21) (Qb ha20 (Qb ha19 (Qb ha18 (Qb (QG ha11) (Qb ha17 (Qb ha16 (Qb ha15 (Qb (QG ha14) (Qb ha13 (Qb ha12 (Qb (QG ha11) (Qb V (Qb X (Q2 QM Y (Q2 QM Y (Qb Z (Qb ((by decide):(30:Int)≠0) (Qb a8 q)))))))))))))))))))))))))))));let o l:=o (.ix 0::.el (Zi ta8)::.el (Zi ta8)::.ret (Qe ta11)::.ret (Qe ta14)::.ret (Qe ta11)::.ret (Qe ta21)::.ret (Qe ta25)::.ret (Qe ta28)::.ret (Qe ta31)::l);obtain⟨T,h⟩|⟨T,h⟩:=io h
   ·have⟨S,h⟩:=gd h;have⟨O,h⟩:=gd h;have⟨L,h⟩:=gd h;have⟨G,h⟩:=gd h;have⟨ta38,v,h⟩:=bo h;have⟨x,h⟩:=gd h;have⟨ta40,y,h⟩:=bo h;have q:=Qb (Qo y) (Qb x (Qb (QG v) (Qb G (Qb L (Qb (QG ha21) (Qb ha20 (Qb O (Qb S (Qb (jDj T) q)))))))));let o l:=o (b1::.ret (Qe ta21)::.ret (Qe ta38)::(no 6 (.obj (some 39) (.d (.tup [Qe ta40.1,I ta40.2.1])) (Qa' ta40.2.2) []::b0::.no::.no::.no::.no::l)));obtain⟨z,h⟩|⟨z,h⟩:=io h
    ·have⟨ta42,A,h⟩:=bo h;have q:=Qb (Qo A) (Qb ((by unfold Qg;omega):Qg 1) (Qb (nef z) q));let o l:=o (.obj (some 39) (.d (.tup [Qe ta42.1,I ta42.2.1])) (Qa' ta42.2.2) []::b0::.no::.no::.no::.no::l);obtain⟨C,h⟩|⟨C,h⟩:=io h
     ·have⟨ta44,E,h⟩:=bo h;have q:=Qb (Qo E) (Qb ((by unfold Qg;omega):Qg 2) (Qb (nef C) q));let o l:=o (.obj (some 39) (.d (.tup [Qe ta44.1,I ta44.2.1])) (Qa' ta44.2.2) []::b0::.no::.no::l);obtain⟨u,h⟩|⟨u,h⟩:=io h
      ·have⟨ta46,g,h⟩:=bo h;have⟨ta47,p,h⟩:=bo h;have⟨ta48,i,h⟩:=bo h;have⟨ta49,j,h⟩:=bo h;have⟨k,h⟩:=gd h;have⟨ta51,s,h⟩:=bo h;have q:=Qb (((Y8 s).le (.cons (.full _ _ _) (.cons (.full _ _ _) (.cons (.full _ _ _) (.cons (.refl _) (.nil))))) (.refl _)):Computes cx 15 [.lst true 2 [.agg [I ta49.1,I ta49.2]],.lst true 1 [I (1+(Int.tmod (IntKind.wrap .i64 a2) 30))],.lst true 1 [I (Zv ta8 (1+(Int.tmod (IntKind.wrap .i64 a2) 30)))],I (2*ta2.1)] (.tup [I ta51.1,.lst false 2 ta51.2.1,I ta51.2.2])) (Qb k (Q2 Yz j (Qb (Kc i) (Qb (Q4 g) (Qb (YY p) (Qb (Q4 g) (Qb ((by unfold Qg;omega):Qg 3) (Qb (nef u) q))))))));let o l:=o (.obj (some 39) (.d (.lst false 5 ta46)) (Qa' ta44.2.2) Zj::.ret (.tup [I ta47.1,I ta47.2])::.obj (some 39) (.d (.lst false 5 ta46)) (Qa' ta44.2.2) Zj::.ret (.tup [I ta48.1,I ta48.2])::.el (Ux ta49)::.ret (.tup [I ta51.1,.lst false 2 ta51.2.1,I ta51.2.2])::b0::b0::b0::b0::b0::b0::b0::l);obtain⟨m,h⟩|⟨m,h⟩:=io h
       ·have q:=Qb (nef m) q;obtain⟨e,h⟩|⟨e,h⟩:=io h
        ·have q:=Qb (nef e) q;obtain⟨a,h⟩|⟨a,h⟩:=io h
         ·have⟨b,h⟩:=gd h;have q:=Qb b (Qb (nef a) q);obtain⟨c,h⟩|⟨c,h⟩:=io h
          ·have q:=Qb (nef c) q;obtain⟨f,h⟩|⟨f,h⟩:=io h
           ·have q:=Qb (nef f) q;obtain⟨t,h⟩|⟨t,h⟩:=io h
            ·cases h
            have q:=Qb (Zy t) q;obtain⟨F,h⟩|⟨F,h⟩:=io h
            ·cases h
            have q:=Qb (jEj F) q;obtain⟨H,h⟩|⟨H,h⟩:=io h
            ·have⟨ta61,J,h⟩:=bo h;obtain⟨K,h⟩|⟨K,h⟩:=io h
             ·have⟨M,h⟩:=gd h;have⟨N,h⟩:=gd h;cases h;exact rn 185 (o [b1,.el (Ux ta61),b0]) [] [0,5,7,9,10,12,14,15,87,88,89] [0,23,39,58,59,67,68,69] (Qb N (Qb M (Qb (zV K) (Q2 Yz J (Qb (eqt H) q)))))
             cases h
            have⟨J,h⟩:=gd h;have⟨K,h⟩:=gd h;cases h;exact rn 185 (o [b0,.no]) [] [0,5,7,9,10,12,14,15,87,88,89] [0,23,39,58,59,67,68,69] (Qb K (Qb J (Qb (eqf H) q)))
           cases h
          cases h
         cases h
        cases h
       cases h
      cases h
     cases h
    cases h
   have⟨ta34,S,h⟩:=bo h;have q:=Qb (Qo S) (Qb (jEj T) q);let o l:=o (b0::.no::.no::.no::.obj (some 39) (.d (.tup [Qe ta34.1,I ta34.2.1])) (Qa' ta34.2.2) []::b0::.no::.no::.no::l);obtain⟨O,h⟩|⟨O,h⟩:=io h
   ·have⟨ta36,L,h⟩:=bo h;have q:=Qb (Qo L) (Qb ((by unfold Qg;omega):Qg 1) (Qb (nef O) q));let o l:=o (.obj (some 39) (.d (.tup [Qe ta36.1,I ta36.2.1])) (Qa' ta36.2.2) []::b0::.no::.no::l);obtain⟨G,h⟩|⟨G,h⟩:=io h
    ·have⟨ta38,v,h⟩:=bo h;have⟨ta39,x,h⟩:=bo h;have⟨ta40,y,h⟩:=bo h;have⟨ta41,z,h⟩:=bo h;have⟨A,h⟩:=gd h;have⟨ta43,C,h⟩:=bo h;have q:=Qb (((Y8 C).le (.cons (.full _ _ _) (.cons (.full _ _ _) (.cons (.full _ _ _) (.cons (.refl _) (.nil))))) (.refl _)):Computes cx 15 [.lst true 2 [.agg [I ta41.1,I ta41.2]],.lst true 1 [I (1+(Int.tmod (IntKind.wrap .i64 a2) 30))],.lst true 1 [I (Zv ta8 (1+(Int.tmod (IntKind.wrap .i64 a2) 30)))],I (2*ta2.1)] (.tup [I ta43.1,.lst false 2 ta43.2.1,I ta43.2.2])) (Qb A (Q2 Yz z (Qb (Kc y) (Qb (Q4 v) (Qb (YY x) (Qb (Q4 v) (Qb ((by unfold Qg;omega):Qg 2) (Qb (nef G) q))))))));let o l:=o (.obj (some 39) (.d (.lst false 5 ta38)) (Qa' ta36.2.2) Zj::.ret (.tup [I ta39.1,I ta39.2])::.obj (some 39) (.d (.lst false 5 ta38)) (Qa' ta36.2.2) Zj::.ret (.tup [I ta40.1,I ta40.2])::.el (Ux ta41)::.ret (.tup [I ta43.1,.lst false 2 ta43.2.1,I ta43.2.2])::b0::b0::b0::b0::b0::b0::b0::l);obtain⟨E,h⟩|⟨E,h⟩:=io h
     ·have q:=Qb (nef E) q;obtain⟨u,h⟩|⟨u,h⟩:=io h
      ·have q:=Qb (nef u) q;obtain⟨g,h⟩|⟨g,h⟩:=io h
       ·have⟨p,h⟩:=gd h;have q:=Qb p (Qb (nef g) q);obtain⟨i,h⟩|⟨i,h⟩:=io h
        ·have q:=Qb (nef i) q;obtain⟨j,h⟩|⟨j,h⟩:=io h
         ·have q:=Qb (nef j) q;obtain⟨k,h⟩|⟨k,h⟩:=io h
          ·cases h
          have q:=Qb (Zy k) q;obtain⟨s,h⟩|⟨s,h⟩:=io h
          ·cases h
          have q:=Qb (jEj s) q;obtain⟨m,h⟩|⟨m,h⟩:=io h
          ·have⟨ta53,e,h⟩:=bo h;obtain⟨a,h⟩|⟨a,h⟩:=io h
           ·have⟨b,h⟩:=gd h;have⟨c,h⟩:=gd h;cases h;exact rn 185 (o [b1,.el (Ux ta53),b0]) [] [0,5,7,9,10,12,14,15,87,88,89] [0,23,39,58,59,67,68,69] (Qb c (Qb b (Qb (zV a) (Q2 Yz e (Qb (eqt m) q)))))
           cases h
          have⟨e,h⟩:=gd h;have⟨a,h⟩:=gd h;cases h;exact rn 185 (o [b0,.no]) [] [0,5,7,9,10,12,14,15,87,88,89] [0,23,39,58,59,67,68,69] (Qb a (Qb e (Qb (eqf m) q)))
         cases h
        cases h
       cases h
      cases h
     cases h
    cases h
   cases h
  obtain⟨Z,h⟩|⟨Z,h⟩:=io h
  ·unfold qo at h;have⟨Y,h⟩:=gd h;have⟨ta9,X,h⟩:=bo h;have⟨V,h⟩:=gd h;have⟨ha11,h⟩:=gd h;have⟨ta12,ha12,h⟩:=bo h;have⟨ha13,h⟩:=gd h;have⟨ha14,h⟩:=gd h;have⟨ta15,ha15,h⟩:=bo h;have⟨ha16,h⟩:=gd h;have⟨ha17,h⟩:=gd h;have⟨ha18,h⟩:=gd h;have⟨ha19,h⟩:=gd h;have⟨ha20,h⟩:=gd h;have⟨ha21,h⟩:=gd h;have⟨ta22,ha22,h⟩:=bo h;have⟨ha23,h⟩:=gd h;have⟨ha24,h⟩:=gd h;have⟨ha25,h⟩:=gd h;have⟨ta26,ha26,h⟩:=bo h;have⟨ha27,h⟩:=gd h;have⟨ha28,h⟩:=gd h;have⟨ta29,ha29,h⟩:=bo h;have⟨ha30,h⟩:=gd h;have⟨ha31,h⟩:=gd h;have⟨ta32,ha32,h⟩:=bo h;have⟨T,h⟩:=gd h;have q:=Qb T (Qb (QG ha32) (Qb ha31 (Qb ha30 (Qb (QG ha29) (Qb ha28 (Qb ha27 (Qb (QG ha26) (Qb ha25 (Qb ha24 (Qb ha23 (Qb (QG ha22) (Qb ha21 (Qb ha20 (Qb ha19 (Qb (QG ha12) (Qb ha18 (Qb ha17 (Qb ha16 (Qb (QG ha15) (Qb ha14 (Qb ha13 (Qb (QG ha12) (Qb ha11 (Qb V (Q2 QM X (Q2 QM X (Qb Y (Qb ((by decide):(30:Int)≠0) (Qb Z q)))))))))))))))))))))))))))));let o l:=o (.ix 1::.el (Zi ta9)::.el (Zi ta9)::.ret (Qe ta12)::.ret (Qe ta15)::.ret (Qe ta12)::.ret (Qe ta22)::.ret (Qe ta26)::.ret (Qe ta29)::.ret (Qe ta32)::l);obtain⟨S,h⟩|⟨S,h⟩:=io h
   ·have⟨O,h⟩:=gd h;have⟨L,h⟩:=gd h;have⟨G,h⟩:=gd h;have⟨v,h⟩:=gd h;have⟨ta39,x,h⟩:=bo h;have⟨y,h⟩:=gd h;have⟨ta41,z,h⟩:=bo h;have q:=Qb (Qo z) (Qb y (Qb (QG x) (Qb v (Qb G (Qb (QG ha22) (Qb ha21 (Qb L (Qb O (Qb (jDj S) q)))))))));let o l:=o (b1::.ret (Qe ta22)::.ret (Qe ta39)::(no 6 (.obj (some 39) (.d (.tup [Qe ta41.1,I ta41.2.1])) (Qa' ta41.2.2) []::b0::.no::.no::.no::.no::l)));obtain⟨A,h⟩|⟨A,h⟩:=io h
    ·have⟨ta43,C,h⟩:=bo h;have q:=Qb (Qo C) (Qb ((by unfold Qg;omega):Qg 1) (Qb (nef A) q));let o l:=o (.obj (some 39) (.d (.tup [Qe ta43.1,I ta43.2.1])) (Qa' ta43.2.2) []::b0::.no::.no::.no::.no::l);obtain⟨E,h⟩|⟨E,h⟩:=io h
     ·have⟨ta45,u,h⟩:=bo h;have q:=Qb (Qo u) (Qb ((by unfold Qg;omega):Qg 2) (Qb (nef E) q));let o l:=o (.obj (some 39) (.d (.tup [Qe ta45.1,I ta45.2.1])) (Qa' ta45.2.2) []::b0::.no::.no::l);obtain⟨g,h⟩|⟨g,h⟩:=io h
      ·have⟨ta47,p,h⟩:=bo h;have⟨ta48,i,h⟩:=bo h;have⟨ta49,j,h⟩:=bo h;have⟨ta50,k,h⟩:=bo h;have⟨s,h⟩:=gd h;have⟨ta52,m,h⟩:=bo h;have q:=Qb (((Y8 m).le (.cons (.full _ _ _) (.cons (.full _ _ _) (.cons (.full _ _ _) (.cons (.refl _) (.nil))))) (.refl _)):Computes cx 15 [.lst true 2 [.agg [I ta50.1,I ta50.2]],.lst true 1 [I (1+(Int.tmod (IntKind.wrap .i64 a3) 30))],.lst true 1 [I (Zv ta9 (1+(Int.tmod (IntKind.wrap .i64 a3) 30)))],I (2*ta2.1)] (.tup [I ta52.1,.lst false 2 ta52.2.1,I ta52.2.2])) (Qb s (Q2 Yz k (Qb (Kc j) (Qb (Q4 p) (Qb (YY i) (Qb (Q4 p) (Qb ((by unfold Qg;omega):Qg 3) (Qb (nef g) q))))))));let o l:=o (.obj (some 39) (.d (.lst false 5 ta47)) (Qa' ta45.2.2) Zj::.ret (.tup [I ta48.1,I ta48.2])::.obj (some 39) (.d (.lst false 5 ta47)) (Qa' ta45.2.2) Zj::.ret (.tup [I ta49.1,I ta49.2])::.el (Ux ta50)::.ret (.tup [I ta52.1,.lst false 2 ta52.2.1,I ta52.2.2])::b0::b0::b0::b0::b0::b0::b0::l);obtain⟨e,h⟩|⟨e,h⟩:=io h
       ·have q:=Qb (nef e) q;obtain⟨a,h⟩|⟨a,h⟩:=io h
        ·have q:=Qb (nef a) q;obtain⟨b,h⟩|⟨b,h⟩:=io h
         ·have⟨c,h⟩:=gd h;have q:=Qb c (Qb (nef b) q);obtain⟨f,h⟩|⟨f,h⟩:=io h
          ·have q:=Qb (nef f) q;obtain⟨t,h⟩|⟨t,h⟩:=io h
           ·have q:=Qb (nef t) q;obtain⟨F,h⟩|⟨F,h⟩:=io h
            ·cases h
            have q:=Qb (Zy F) q;obtain⟨H,h⟩|⟨H,h⟩:=io h
            ·cases h
            have q:=Qb (jEj H) q;obtain⟨J,h⟩|⟨J,h⟩:=io h
            ·have⟨ta62,K,h⟩:=bo h;obtain⟨M,h⟩|⟨M,h⟩:=io h
             ·have⟨N,h⟩:=gd h;have⟨Q,h⟩:=gd h;cases h;exact rn 185 (o [b1,.el (Ux ta62),b0]) [] [0,5,7,9,10,12,14,15,87,88,89] [0,23,39,58,59,67,68,69] (Qb Q (Qb N (Qb (zV M) (Q2 Yz K (Qb (eqt J) q)))))
             cases h
            have⟨K,h⟩:=gd h;have⟨M,h⟩:=gd h;cases h;exact rn 185 (o [b0,.no]) [] [0,5,7,9,10,12,14,15,87,88,89] [0,23,39,58,59,67,68,69] (Qb M (Qb K (Qb (eqf J) q)))
           cases h
          cases h
         cases h
        cases h
       cases h
      cases h
     cases h
    cases h
   have⟨ta35,O,h⟩:=bo h;have q:=Qb (Qo O) (Qb (jEj S) q);let o l:=o (b0::.no::.no::.no::.obj (some 39) (.d (.tup [Qe ta35.1,I ta35.2.1])) (Qa' ta35.2.2) []::b0::.no::.no::.no::l);obtain⟨L,h⟩|⟨L,h⟩:=io h
   ·have⟨ta37,G,h⟩:=bo h;have q:=Qb (Qo G) (Qb ((by unfold Qg;omega):Qg 1) (Qb (nef L) q));let o l:=o (.obj (some 39) (.d (.tup [Qe ta37.1,I ta37.2.1])) (Qa' ta37.2.2) []::b0::.no::.no::l);obtain⟨v,h⟩|⟨v,h⟩:=io h
    ·have⟨ta39,x,h⟩:=bo h;have⟨ta40,y,h⟩:=bo h;have⟨ta41,z,h⟩:=bo h;have⟨ta42,A,h⟩:=bo h;have⟨C,h⟩:=gd h;have⟨ta44,E,h⟩:=bo h;have q:=Qb (((Y8 E).le (.cons (.full _ _ _) (.cons (.full _ _ _) (.cons (.full _ _ _) (.cons (.refl _) (.nil))))) (.refl _)):Computes cx 15 [.lst true 2 [.agg [I ta42.1,I ta42.2]],.lst true 1 [I (1+(Int.tmod (IntKind.wrap .i64 a3) 30))],.lst true 1 [I (Zv ta9 (1+(Int.tmod (IntKind.wrap .i64 a3) 30)))],I (2*ta2.1)] (.tup [I ta44.1,.lst false 2 ta44.2.1,I ta44.2.2])) (Qb C (Q2 Yz A (Qb (Kc z) (Qb (Q4 x) (Qb (YY y) (Qb (Q4 x) (Qb ((by unfold Qg;omega):Qg 2) (Qb (nef v) q))))))));let o l:=o (.obj (some 39) (.d (.lst false 5 ta39)) (Qa' ta37.2.2) Zj::.ret (.tup [I ta40.1,I ta40.2])::.obj (some 39) (.d (.lst false 5 ta39)) (Qa' ta37.2.2) Zj::.ret (.tup [I ta41.1,I ta41.2])::.el (Ux ta42)::.ret (.tup [I ta44.1,.lst false 2 ta44.2.1,I ta44.2.2])::b0::b0::b0::b0::b0::b0::b0::l);obtain⟨u,h⟩|⟨u,h⟩:=io h
     ·have q:=Qb (nef u) q;obtain⟨g,h⟩|⟨g,h⟩:=io h
      ·have q:=Qb (nef g) q;obtain⟨p,h⟩|⟨p,h⟩:=io h
       ·have⟨i,h⟩:=gd h;have q:=Qb i (Qb (nef p) q);obtain⟨j,h⟩|⟨j,h⟩:=io h
        ·have q:=Qb (nef j) q;obtain⟨k,h⟩|⟨k,h⟩:=io h
         ·have q:=Qb (nef k) q;obtain⟨s,h⟩|⟨s,h⟩:=io h
          ·cases h
          have q:=Qb (Zy s) q;obtain⟨m,h⟩|⟨m,h⟩:=io h
          ·cases h
          have q:=Qb (jEj m) q;obtain⟨e,h⟩|⟨e,h⟩:=io h
          ·have⟨ta54,a,h⟩:=bo h;obtain⟨b,h⟩|⟨b,h⟩:=io h
           ·have⟨c,h⟩:=gd h;have⟨f,h⟩:=gd h;cases h;exact rn 185 (o [b1,.el (Ux ta54),b0]) [] [0,5,7,9,10,12,14,15,87,88,89] [0,23,39,58,59,67,68,69] (Qb f (Qb c (Qb (zV b) (Q2 Yz a (Qb (eqt e) q)))))
           cases h
          have⟨a,h⟩:=gd h;have⟨b,h⟩:=gd h;cases h;exact rn 185 (o [b0,.no]) [] [0,5,7,9,10,12,14,15,87,88,89] [0,23,39,58,59,67,68,69] (Qb b (Qb a (Qb (eqf e) q)))
         cases h
        cases h
       cases h
      cases h
     cases h
    cases h
   cases h
  obtain⟨Y,h⟩|⟨Y,h⟩:=io h
  ·unfold qo at h;have⟨X,h⟩:=gd h;have⟨ta10,V,h⟩:=bo h;have⟨ha11,h⟩:=gd h;have⟨ha12,h⟩:=gd h;have⟨ta13,ha13,h⟩:=bo h;have⟨ha14,h⟩:=gd h;have⟨ha15,h⟩:=gd h;have⟨ta16,ha16,h⟩:=bo h;have⟨ha17,h⟩:=gd h;have⟨ha18,h⟩:=gd h;have⟨ha19,h⟩:=gd h;have⟨ha20,h⟩:=gd h;have⟨ha21,h⟩:=gd h;have⟨ha22,h⟩:=gd h;have⟨ta23,ha23,h⟩:=bo h;have⟨ha24,h⟩:=gd h;have⟨ha25,h⟩:=gd h;have⟨ha26,h⟩:=gd h;have⟨ta27,ha27,h⟩:=bo h;have⟨ha28,h⟩:=gd h;have⟨ha29,h⟩:=gd h;have⟨ta30,ha30,h⟩:=bo h;have⟨ha31,h⟩:=gd h;have⟨ha32,h⟩:=gd h;have⟨ta33,T,h⟩:=bo h;have⟨S,h⟩:=gd h;have q:=Qb S (Qb (QG T) (Qb ha32 (Qb ha31 (Qb (QG ha30) (Qb ha29 (Qb ha28 (Qb (QG ha27) (Qb ha26 (Qb ha25 (Qb ha24 (Qb (QG ha23) (Qb ha22 (Qb ha21 (Qb ha20 (Qb (QG ha13) (Qb ha19 (Qb ha18 (Qb ha17 (Qb (QG ha16) (Qb ha15 (Qb ha14 (Qb (QG ha13) (Qb ha12 (Qb ha11 (Q2 QM V (Q2 QM V (Qb X (Qb ((by decide):(30:Int)≠0) (Qb Y q)))))))))))))))))))))))))))));let o l:=o (.ix 2::.el (Zi ta10)::.el (Zi ta10)::.ret (Qe ta13)::.ret (Qe ta16)::.ret (Qe ta13)::.ret (Qe ta23)::.ret (Qe ta27)::.ret (Qe ta30)::.ret (Qe ta33)::l);obtain⟨O,h⟩|⟨O,h⟩:=io h
   ·have⟨L,h⟩:=gd h;have⟨G,h⟩:=gd h;have⟨v,h⟩:=gd h;have⟨x,h⟩:=gd h;have⟨ta40,y,h⟩:=bo h;have⟨z,h⟩:=gd h;have⟨ta42,A,h⟩:=bo h;have q:=Qb (Qo A) (Qb z (Qb (QG y) (Qb x (Qb v (Qb (QG ha23) (Qb ha22 (Qb G (Qb L (Qb (jDj O) q)))))))));let o l:=o (b1::.ret (Qe ta23)::.ret (Qe ta40)::(no 6 (.obj (some 39) (.d (.tup [Qe ta42.1,I ta42.2.1])) (Qa' ta42.2.2) []::b0::.no::.no::.no::.no::l)));obtain⟨C,h⟩|⟨C,h⟩:=io h
    ·have⟨ta44,E,h⟩:=bo h;have q:=Qb (Qo E) (Qb ((by unfold Qg;omega):Qg 1) (Qb (nef C) q));let o l:=o (.obj (some 39) (.d (.tup [Qe ta44.1,I ta44.2.1])) (Qa' ta44.2.2) []::b0::.no::.no::.no::.no::l);obtain⟨u,h⟩|⟨u,h⟩:=io h
     ·have⟨ta46,g,h⟩:=bo h;have q:=Qb (Qo g) (Qb ((by unfold Qg;omega):Qg 2) (Qb (nef u) q));let o l:=o (.obj (some 39) (.d (.tup [Qe ta46.1,I ta46.2.1])) (Qa' ta46.2.2) []::b0::.no::.no::l);obtain⟨p,h⟩|⟨p,h⟩:=io h
      ·have⟨ta48,i,h⟩:=bo h;have⟨ta49,j,h⟩:=bo h;have⟨ta50,k,h⟩:=bo h;have⟨ta51,s,h⟩:=bo h;have⟨m,h⟩:=gd h;have⟨ta53,e,h⟩:=bo h;have q:=Qb (((Y8 e).le (.cons (.full _ _ _) (.cons (.full _ _ _) (.cons (.full _ _ _) (.cons (.refl _) (.nil))))) (.refl _)):Computes cx 15 [.lst true 2 [.agg [I ta51.1,I ta51.2]],.lst true 1 [I (1+(Int.tmod (IntKind.wrap .i64 a4) 30))],.lst true 1 [I (Zv ta10 (1+(Int.tmod (IntKind.wrap .i64 a4) 30)))],I (2*ta2.1)] (.tup [I ta53.1,.lst false 2 ta53.2.1,I ta53.2.2])) (Qb m (Q2 Yz s (Qb (Kc k) (Qb (Q4 i) (Qb (YY j) (Qb (Q4 i) (Qb ((by unfold Qg;omega):Qg 3) (Qb (nef p) q))))))));let o l:=o (.obj (some 39) (.d (.lst false 5 ta48)) (Qa' ta46.2.2) Zj::.ret (.tup [I ta49.1,I ta49.2])::.obj (some 39) (.d (.lst false 5 ta48)) (Qa' ta46.2.2) Zj::.ret (.tup [I ta50.1,I ta50.2])::.el (Ux ta51)::.ret (.tup [I ta53.1,.lst false 2 ta53.2.1,I ta53.2.2])::b0::b0::b0::b0::b0::b0::b0::l);obtain⟨a,h⟩|⟨a,h⟩:=io h
       ·have q:=Qb (nef a) q;obtain⟨b,h⟩|⟨b,h⟩:=io h
        ·have q:=Qb (nef b) q;obtain⟨c,h⟩|⟨c,h⟩:=io h
         ·have⟨f,h⟩:=gd h;have q:=Qb f (Qb (nef c) q);obtain⟨t,h⟩|⟨t,h⟩:=io h
          ·have q:=Qb (nef t) q;obtain⟨F,h⟩|⟨F,h⟩:=io h
           ·have q:=Qb (nef F) q;obtain⟨H,h⟩|⟨H,h⟩:=io h
            ·cases h
            have q:=Qb (Zy H) q;obtain⟨J,h⟩|⟨J,h⟩:=io h
            ·cases h
            have q:=Qb (jEj J) q;obtain⟨K,h⟩|⟨K,h⟩:=io h
            ·have⟨ta63,M,h⟩:=bo h;obtain⟨N,h⟩|⟨N,h⟩:=io h
             ·have⟨Q,h⟩:=gd h;have⟨U,h⟩:=gd h;cases h;exact rn 185 (o [b1,.el (Ux ta63),b0]) [] [0,5,7,9,10,12,14,15,87,88,89] [0,23,39,58,59,67,68,69] (Qb U (Qb Q (Qb (zV N) (Q2 Yz M (Qb (eqt K) q)))))
             cases h
            have⟨M,h⟩:=gd h;have⟨N,h⟩:=gd h;cases h;exact rn 185 (o [b0,.no]) [] [0,5,7,9,10,12,14,15,87,88,89] [0,23,39,58,59,67,68,69] (Qb N (Qb M (Qb (eqf K) q)))
           cases h
          cases h
         cases h
        cases h
       cases h
      cases h
     cases h
    cases h
   have⟨ta36,L,h⟩:=bo h;have q:=Qb (Qo L) (Qb (jEj O) q);let o l:=o (b0::.no::.no::.no::.obj (some 39) (.d (.tup [Qe ta36.1,I ta36.2.1])) (Qa' ta36.2.2) []::b0::.no::.no::.no::l);obtain⟨G,h⟩|⟨G,h⟩:=io h
   ·have⟨ta38,v,h⟩:=bo h;have q:=Qb (Qo v) (Qb ((by unfold Qg;omega):Qg 1) (Qb (nef G) q));let o l:=o (.obj (some 39) (.d (.tup [Qe ta38.1,I ta38.2.1])) (Qa' ta38.2.2) []::b0::.no::.no::l);obtain⟨x,h⟩|⟨x,h⟩:=io h
    ·have⟨ta40,y,h⟩:=bo h;have⟨ta41,z,h⟩:=bo h;have⟨ta42,A,h⟩:=bo h;have⟨ta43,C,h⟩:=bo h;have⟨E,h⟩:=gd h;have⟨ta45,u,h⟩:=bo h;have q:=Qb (((Y8 u).le (.cons (.full _ _ _) (.cons (.full _ _ _) (.cons (.full _ _ _) (.cons (.refl _) (.nil))))) (.refl _)):Computes cx 15 [.lst true 2 [.agg [I ta43.1,I ta43.2]],.lst true 1 [I (1+(Int.tmod (IntKind.wrap .i64 a4) 30))],.lst true 1 [I (Zv ta10 (1+(Int.tmod (IntKind.wrap .i64 a4) 30)))],I (2*ta2.1)] (.tup [I ta45.1,.lst false 2 ta45.2.1,I ta45.2.2])) (Qb E (Q2 Yz C (Qb (Kc A) (Qb (Q4 y) (Qb (YY z) (Qb (Q4 y) (Qb ((by unfold Qg;omega):Qg 2) (Qb (nef x) q))))))));let o l:=o (.obj (some 39) (.d (.lst false 5 ta40)) (Qa' ta38.2.2) Zj::.ret (.tup [I ta41.1,I ta41.2])::.obj (some 39) (.d (.lst false 5 ta40)) (Qa' ta38.2.2) Zj::.ret (.tup [I ta42.1,I ta42.2])::.el (Ux ta43)::.ret (.tup [I ta45.1,.lst false 2 ta45.2.1,I ta45.2.2])::b0::b0::b0::b0::b0::b0::b0::l);obtain⟨g,h⟩|⟨g,h⟩:=io h
     ·have q:=Qb (nef g) q;obtain⟨p,h⟩|⟨p,h⟩:=io h
      ·have q:=Qb (nef p) q;obtain⟨i,h⟩|⟨i,h⟩:=io h
       ·have⟨j,h⟩:=gd h;have q:=Qb j (Qb (nef i) q);obtain⟨k,h⟩|⟨k,h⟩:=io h
        ·have q:=Qb (nef k) q;obtain⟨s,h⟩|⟨s,h⟩:=io h
         ·have q:=Qb (nef s) q;obtain⟨m,h⟩|⟨m,h⟩:=io h
          ·cases h
          have q:=Qb (Zy m) q;obtain⟨e,h⟩|⟨e,h⟩:=io h
          ·cases h
          have q:=Qb (jEj e) q;obtain⟨a,h⟩|⟨a,h⟩:=io h
          ·have⟨ta55,b,h⟩:=bo h;obtain⟨c,h⟩|⟨c,h⟩:=io h
           ·have⟨f,h⟩:=gd h;have⟨t,h⟩:=gd h;cases h;exact rn 185 (o [b1,.el (Ux ta55),b0]) [] [0,5,7,9,10,12,14,15,87,88,89] [0,23,39,58,59,67,68,69] (Qb t (Qb f (Qb (zV c) (Q2 Yz b (Qb (eqt a) q)))))
           cases h
          have⟨b,h⟩:=gd h;have⟨c,h⟩:=gd h;cases h;exact rn 185 (o [b0,.no]) [] [0,5,7,9,10,12,14,15,87,88,89] [0,23,39,58,59,67,68,69] (Qb c (Qb b (Qb (eqf a) q)))
         cases h
        cases h
       cases h
      cases h
     cases h
    cases h
   cases h
  obtain⟨X,h⟩|⟨X,h⟩:=io h
  ·unfold qo at h;have⟨V,h⟩:=gd h;have⟨ta11,ha11,h⟩:=bo h;have⟨ha12,h⟩:=gd h;have⟨ha13,h⟩:=gd h;have⟨ta14,ha14,h⟩:=bo h;have⟨ha15,h⟩:=gd h;have⟨ha16,h⟩:=gd h;have⟨ta17,ha17,h⟩:=bo h;have⟨ha18,h⟩:=gd h;have⟨ha19,h⟩:=gd h;have⟨ha20,h⟩:=gd h;have⟨ha21,h⟩:=gd h;have⟨ha22,h⟩:=gd h;have⟨ha23,h⟩:=gd h;have⟨ta24,ha24,h⟩:=bo h;have⟨ha25,h⟩:=gd h;have⟨ha26,h⟩:=gd h;have⟨ha27,h⟩:=gd h;have⟨ta28,ha28,h⟩:=bo h;have⟨ha29,h⟩:=gd h;have⟨ha30,h⟩:=gd h;have⟨ta31,ha31,h⟩:=bo h;have⟨ha32,h⟩:=gd h;have⟨T,h⟩:=gd h;have⟨ta34,S,h⟩:=bo h;have⟨O,h⟩:=gd h;have q:=Qb O (Qb (QG S) (Qb T (Qb ha32 (Qb (QG ha31) (Qb ha30 (Qb ha29 (Qb (QG ha28) (Qb ha27 (Qb ha26 (Qb ha25 (Qb (QG ha24) (Qb ha23 (Qb ha22 (Qb ha21 (Qb (QG ha14) (Qb ha20 (Qb ha19 (Qb ha18 (Qb (QG ha17) (Qb ha16 (Qb ha15 (Qb (QG ha14) (Qb ha13 (Qb ha12 (Q2 QM ha11 (Q2 QM ha11 (Qb V (Qb ((by decide):(30:Int)≠0) (Qb X q)))))))))))))))))))))))))))));let o l:=o (.ix 3::.el (Zi ta11)::.el (Zi ta11)::.ret (Qe ta14)::.ret (Qe ta17)::.ret (Qe ta14)::.ret (Qe ta24)::.ret (Qe ta28)::.ret (Qe ta31)::.ret (Qe ta34)::l);obtain⟨L,h⟩|⟨L,h⟩:=io h
   ·have⟨G,h⟩:=gd h;have⟨v,h⟩:=gd h;have⟨x,h⟩:=gd h;have⟨y,h⟩:=gd h;have⟨ta41,z,h⟩:=bo h;have⟨A,h⟩:=gd h;have⟨ta43,C,h⟩:=bo h;have q:=Qb (Qo C) (Qb A (Qb (QG z) (Qb y (Qb x (Qb (QG ha24) (Qb ha23 (Qb v (Qb G (Qb (jDj L) q)))))))));let o l:=o (b1::.ret (Qe ta24)::.ret (Qe ta41)::(no 6 (.obj (some 39) (.d (.tup [Qe ta43.1,I ta43.2.1])) (Qa' ta43.2.2) []::b0::.no::.no::.no::.no::l)));obtain⟨E,h⟩|⟨E,h⟩:=io h
    ·have⟨ta45,u,h⟩:=bo h;have q:=Qb (Qo u) (Qb ((by unfold Qg;omega):Qg 1) (Qb (nef E) q));let o l:=o (.obj (some 39) (.d (.tup [Qe ta45.1,I ta45.2.1])) (Qa' ta45.2.2) []::b0::.no::.no::.no::.no::l);obtain⟨g,h⟩|⟨g,h⟩:=io h
     ·have⟨ta47,p,h⟩:=bo h;have q:=Qb (Qo p) (Qb ((by unfold Qg;omega):Qg 2) (Qb (nef g) q));let o l:=o (.obj (some 39) (.d (.tup [Qe ta47.1,I ta47.2.1])) (Qa' ta47.2.2) []::b0::.no::.no::l);obtain⟨i,h⟩|⟨i,h⟩:=io h
      ·have⟨ta49,j,h⟩:=bo h;have⟨ta50,k,h⟩:=bo h;have⟨ta51,s,h⟩:=bo h;have⟨ta52,m,h⟩:=bo h;have⟨e,h⟩:=gd h;have⟨ta54,a,h⟩:=bo h;have q:=Qb (((Y8 a).le (.cons (.full _ _ _) (.cons (.full _ _ _) (.cons (.full _ _ _) (.cons (.refl _) (.nil))))) (.refl _)):Computes cx 15 [.lst true 2 [.agg [I ta52.1,I ta52.2]],.lst true 1 [I (1+(Int.tmod (IntKind.wrap .i64 a5) 30))],.lst true 1 [I (Zv ta11 (1+(Int.tmod (IntKind.wrap .i64 a5) 30)))],I (2*ta2.1)] (.tup [I ta54.1,.lst false 2 ta54.2.1,I ta54.2.2])) (Qb e (Q2 Yz m (Qb (Kc s) (Qb (Q4 j) (Qb (YY k) (Qb (Q4 j) (Qb ((by unfold Qg;omega):Qg 3) (Qb (nef i) q))))))));let o l:=o (.obj (some 39) (.d (.lst false 5 ta49)) (Qa' ta47.2.2) Zj::.ret (.tup [I ta50.1,I ta50.2])::.obj (some 39) (.d (.lst false 5 ta49)) (Qa' ta47.2.2) Zj::.ret (.tup [I ta51.1,I ta51.2])::.el (Ux ta52)::.ret (.tup [I ta54.1,.lst false 2 ta54.2.1,I ta54.2.2])::b0::b0::b0::b0::b0::b0::b0::l);obtain⟨b,h⟩|⟨b,h⟩:=io h
       ·have q:=Qb (nef b) q;obtain⟨c,h⟩|⟨c,h⟩:=io h
        ·have q:=Qb (nef c) q;obtain⟨f,h⟩|⟨f,h⟩:=io h
         ·have⟨t,h⟩:=gd h;have q:=Qb t (Qb (nef f) q);obtain⟨F,h⟩|⟨F,h⟩:=io h
          ·have q:=Qb (nef F) q;obtain⟨H,h⟩|⟨H,h⟩:=io h
           ·have q:=Qb (nef H) q;obtain⟨J,h⟩|⟨J,h⟩:=io h
            ·cases h
            have q:=Qb (Zy J) q;obtain⟨K,h⟩|⟨K,h⟩:=io h
            ·cases h
            have q:=Qb (jEj K) q;obtain⟨M,h⟩|⟨M,h⟩:=io h
            ·have⟨ta64,N,h⟩:=bo h;obtain⟨Q,h⟩|⟨Q,h⟩:=io h
             ·have⟨U,h⟩:=gd h;have⟨W,h⟩:=gd h;cases h;exact rn 185 (o [b1,.el (Ux ta64),b0]) [] [0,5,7,9,10,12,14,15,87,88,89] [0,23,39,58,59,67,68,69] (Qb W (Qb U (Qb (zV Q) (Q2 Yz N (Qb (eqt M) q)))))
             cases h
            have⟨N,h⟩:=gd h;have⟨Q,h⟩:=gd h;cases h;exact rn 185 (o [b0,.no]) [] [0,5,7,9,10,12,14,15,87,88,89] [0,23,39,58,59,67,68,69] (Qb Q (Qb N (Qb (eqf M) q)))
           cases h
          cases h
         cases h
        cases h
       cases h
      cases h
     cases h
    cases h
   have⟨ta37,G,h⟩:=bo h;have q:=Qb (Qo G) (Qb (jEj L) q);let o l:=o (b0::.no::.no::.no::.obj (some 39) (.d (.tup [Qe ta37.1,I ta37.2.1])) (Qa' ta37.2.2) []::b0::.no::.no::.no::l);obtain⟨v,h⟩|⟨v,h⟩:=io h
   ·have⟨ta39,x,h⟩:=bo h;have q:=Qb (Qo x) (Qb ((by unfold Qg;omega):Qg 1) (Qb (nef v) q));let o l:=o (.obj (some 39) (.d (.tup [Qe ta39.1,I ta39.2.1])) (Qa' ta39.2.2) []::b0::.no::.no::l);obtain⟨y,h⟩|⟨y,h⟩:=io h
    ·have⟨ta41,z,h⟩:=bo h;have⟨ta42,A,h⟩:=bo h;have⟨ta43,C,h⟩:=bo h;have⟨ta44,E,h⟩:=bo h;have⟨u,h⟩:=gd h;have⟨ta46,g,h⟩:=bo h;have q:=Qb (((Y8 g).le (.cons (.full _ _ _) (.cons (.full _ _ _) (.cons (.full _ _ _) (.cons (.refl _) (.nil))))) (.refl _)):Computes cx 15 [.lst true 2 [.agg [I ta44.1,I ta44.2]],.lst true 1 [I (1+(Int.tmod (IntKind.wrap .i64 a5) 30))],.lst true 1 [I (Zv ta11 (1+(Int.tmod (IntKind.wrap .i64 a5) 30)))],I (2*ta2.1)] (.tup [I ta46.1,.lst false 2 ta46.2.1,I ta46.2.2])) (Qb u (Q2 Yz E (Qb (Kc C) (Qb (Q4 z) (Qb (YY A) (Qb (Q4 z) (Qb ((by unfold Qg;omega):Qg 2) (Qb (nef y) q))))))));let o l:=o (.obj (some 39) (.d (.lst false 5 ta41)) (Qa' ta39.2.2) Zj::.ret (.tup [I ta42.1,I ta42.2])::.obj (some 39) (.d (.lst false 5 ta41)) (Qa' ta39.2.2) Zj::.ret (.tup [I ta43.1,I ta43.2])::.el (Ux ta44)::.ret (.tup [I ta46.1,.lst false 2 ta46.2.1,I ta46.2.2])::b0::b0::b0::b0::b0::b0::b0::l);obtain⟨p,h⟩|⟨p,h⟩:=io h
     ·have q:=Qb (nef p) q;obtain⟨i,h⟩|⟨i,h⟩:=io h
      ·have q:=Qb (nef i) q;obtain⟨j,h⟩|⟨j,h⟩:=io h
       ·have⟨k,h⟩:=gd h;have q:=Qb k (Qb (nef j) q);obtain⟨s,h⟩|⟨s,h⟩:=io h
        ·have q:=Qb (nef s) q;obtain⟨m,h⟩|⟨m,h⟩:=io h
         ·have q:=Qb (nef m) q;obtain⟨e,h⟩|⟨e,h⟩:=io h
          ·cases h
          have q:=Qb (Zy e) q;obtain⟨a,h⟩|⟨a,h⟩:=io h
          ·cases h
          have q:=Qb (jEj a) q;obtain⟨b,h⟩|⟨b,h⟩:=io h
          ·have⟨ta56,c,h⟩:=bo h;obtain⟨f,h⟩|⟨f,h⟩:=io h
           ·have⟨t,h⟩:=gd h;have⟨F,h⟩:=gd h;cases h;exact rn 185 (o [b1,.el (Ux ta56),b0]) [] [0,5,7,9,10,12,14,15,87,88,89] [0,23,39,58,59,67,68,69] (Qb F (Qb t (Qb (zV f) (Q2 Yz c (Qb (eqt b) q)))))
           cases h
          have⟨c,h⟩:=gd h;have⟨f,h⟩:=gd h;cases h;exact rn 185 (o [b0,.no]) [] [0,5,7,9,10,12,14,15,87,88,89] [0,23,39,58,59,67,68,69] (Qb f (Qb c (Qb (eqf b) q)))
         cases h
        cases h
       cases h
      cases h
     cases h
    cases h
   cases h
  obtain⟨V,h⟩|⟨V,h⟩:=io h
  ·unfold qo at h;have⟨ha11,h⟩:=gd h;have⟨ta12,ha12,h⟩:=bo h;have⟨ha13,h⟩:=gd h;have⟨ha14,h⟩:=gd h;have⟨ta15,ha15,h⟩:=bo h;have⟨ha16,h⟩:=gd h;have⟨ha17,h⟩:=gd h;have⟨ta18,ha18,h⟩:=bo h;have⟨ha19,h⟩:=gd h;have⟨ha20,h⟩:=gd h;have⟨ha21,h⟩:=gd h;have⟨ha22,h⟩:=gd h;have⟨ha23,h⟩:=gd h;have⟨ha24,h⟩:=gd h;have⟨ta25,ha25,h⟩:=bo h;have⟨ha26,h⟩:=gd h;have⟨ha27,h⟩:=gd h;have⟨ha28,h⟩:=gd h;have⟨ta29,ha29,h⟩:=bo h;have⟨ha30,h⟩:=gd h;have⟨ha31,h⟩:=gd h;have⟨ta32,ha32,h⟩:=bo h;have⟨T,h⟩:=gd h;have⟨S,h⟩:=gd h;have⟨ta35,O,h⟩:=bo h;have⟨L,h⟩:=gd h;have q:=Qb L (Qb (QG O) (Qb S (Qb T (Qb (QG ha32) (Qb ha31 (Qb ha30 (Qb (QG ha29) (Qb ha28 (Qb ha27 (Qb ha26 (Qb (QG ha25) (Qb ha24 (Qb ha23 (Qb ha22 (Qb (QG ha15) (Qb ha21 (Qb ha20 (Qb ha19 (Qb (QG ha18) (Qb ha17 (Qb ha16 (Qb (QG ha15) (Qb ha14 (Qb ha13 (Q2 QM ha12 (Q2 QM ha12 (Qb ha11 (Qb ((by decide):(30:Int)≠0) (Qb V q)))))))))))))))))))))))))))));let o l:=o (.ix 4::.el (Zi ta12)::.el (Zi ta12)::.ret (Qe ta15)::.ret (Qe ta18)::.ret (Qe ta15)::.ret (Qe ta25)::.ret (Qe ta29)::.ret (Qe ta32)::.ret (Qe ta35)::l);obtain⟨G,h⟩|⟨G,h⟩:=io h
   ·have⟨v,h⟩:=gd h;have⟨x,h⟩:=gd h;have⟨y,h⟩:=gd h;have⟨z,h⟩:=gd h;have⟨ta42,A,h⟩:=bo h;have⟨C,h⟩:=gd h;have⟨ta44,E,h⟩:=bo h;have q:=Qb (Qo E) (Qb C (Qb (QG A) (Qb z (Qb y (Qb (QG ha25) (Qb ha24 (Qb x (Qb v (Qb (jDj G) q)))))))));let o l:=o (b1::.ret (Qe ta25)::.ret (Qe ta42)::(no 6 (.obj (some 39) (.d (.tup [Qe ta44.1,I ta44.2.1])) (Qa' ta44.2.2) []::b0::.no::.no::.no::.no::l)));obtain⟨u,h⟩|⟨u,h⟩:=io h
    ·have⟨ta46,g,h⟩:=bo h;have q:=Qb (Qo g) (Qb ((by unfold Qg;omega):Qg 1) (Qb (nef u) q));let o l:=o (.obj (some 39) (.d (.tup [Qe ta46.1,I ta46.2.1])) (Qa' ta46.2.2) []::b0::.no::.no::.no::.no::l);obtain⟨p,h⟩|⟨p,h⟩:=io h
     ·have⟨ta48,i,h⟩:=bo h;have q:=Qb (Qo i) (Qb ((by unfold Qg;omega):Qg 2) (Qb (nef p) q));let o l:=o (.obj (some 39) (.d (.tup [Qe ta48.1,I ta48.2.1])) (Qa' ta48.2.2) []::b0::.no::.no::l);obtain⟨j,h⟩|⟨j,h⟩:=io h
      ·have⟨ta50,k,h⟩:=bo h;have⟨ta51,s,h⟩:=bo h;have⟨ta52,m,h⟩:=bo h;have⟨ta53,e,h⟩:=bo h;have⟨a,h⟩:=gd h;have⟨ta55,b,h⟩:=bo h;have q:=Qb (((Y8 b).le (.cons (.full _ _ _) (.cons (.full _ _ _) (.cons (.full _ _ _) (.cons (.refl _) (.nil))))) (.refl _)):Computes cx 15 [.lst true 2 [.agg [I ta53.1,I ta53.2]],.lst true 1 [I (1+(Int.tmod (IntKind.wrap .i64 a6) 30))],.lst true 1 [I (Zv ta12 (1+(Int.tmod (IntKind.wrap .i64 a6) 30)))],I (2*ta2.1)] (.tup [I ta55.1,.lst false 2 ta55.2.1,I ta55.2.2])) (Qb a (Q2 Yz e (Qb (Kc m) (Qb (Q4 k) (Qb (YY s) (Qb (Q4 k) (Qb ((by unfold Qg;omega):Qg 3) (Qb (nef j) q))))))));let o l:=o (.obj (some 39) (.d (.lst false 5 ta50)) (Qa' ta48.2.2) Zj::.ret (.tup [I ta51.1,I ta51.2])::.obj (some 39) (.d (.lst false 5 ta50)) (Qa' ta48.2.2) Zj::.ret (.tup [I ta52.1,I ta52.2])::.el (Ux ta53)::.ret (.tup [I ta55.1,.lst false 2 ta55.2.1,I ta55.2.2])::b0::b0::b0::b0::b0::b0::b0::l);obtain⟨c,h⟩|⟨c,h⟩:=io h
       ·have q:=Qb (nef c) q;obtain⟨f,h⟩|⟨f,h⟩:=io h
        ·have q:=Qb (nef f) q;obtain⟨t,h⟩|⟨t,h⟩:=io h
         ·have⟨F,h⟩:=gd h;have q:=Qb F (Qb (nef t) q);obtain⟨H,h⟩|⟨H,h⟩:=io h
          ·have q:=Qb (nef H) q;obtain⟨J,h⟩|⟨J,h⟩:=io h
           ·have q:=Qb (nef J) q;obtain⟨K,h⟩|⟨K,h⟩:=io h
            ·cases h
            have q:=Qb (Zy K) q;obtain⟨M,h⟩|⟨M,h⟩:=io h
            ·cases h
            have q:=Qb (jEj M) q;obtain⟨N,h⟩|⟨N,h⟩:=io h
            ·have⟨ta65,Q,h⟩:=bo h;obtain⟨U,h⟩|⟨U,h⟩:=io h
             ·have⟨W,h⟩:=gd h;have⟨ha68,h⟩:=gd h;cases h;exact rn 185 (o [b1,.el (Ux ta65),b0]) [] [0,5,7,9,10,12,14,15,87,88,89] [0,23,39,58,59,67,68,69] (Qb ha68 (Qb W (Qb (zV U) (Q2 Yz Q (Qb (eqt N) q)))))
             cases h
            have⟨Q,h⟩:=gd h;have⟨U,h⟩:=gd h;cases h;exact rn 185 (o [b0,.no]) [] [0,5,7,9,10,12,14,15,87,88,89] [0,23,39,58,59,67,68,69] (Qb U (Qb Q (Qb (eqf N) q)))
           cases h
          cases h
         cases h
        cases h
       cases h
      cases h
     cases h
    cases h
   have⟨ta38,v,h⟩:=bo h;have q:=Qb (Qo v) (Qb (jEj G) q);let o l:=o (b0::.no::.no::.no::.obj (some 39) (.d (.tup [Qe ta38.1,I ta38.2.1])) (Qa' ta38.2.2) []::b0::.no::.no::.no::l);obtain⟨x,h⟩|⟨x,h⟩:=io h
   ·have⟨ta40,y,h⟩:=bo h;have q:=Qb (Qo y) (Qb ((by unfold Qg;omega):Qg 1) (Qb (nef x) q));let o l:=o (.obj (some 39) (.d (.tup [Qe ta40.1,I ta40.2.1])) (Qa' ta40.2.2) []::b0::.no::.no::l);obtain⟨z,h⟩|⟨z,h⟩:=io h
    ·have⟨ta42,A,h⟩:=bo h;have⟨ta43,C,h⟩:=bo h;have⟨ta44,E,h⟩:=bo h;have⟨ta45,u,h⟩:=bo h;have⟨g,h⟩:=gd h;have⟨ta47,p,h⟩:=bo h;have q:=Qb (((Y8 p).le (.cons (.full _ _ _) (.cons (.full _ _ _) (.cons (.full _ _ _) (.cons (.refl _) (.nil))))) (.refl _)):Computes cx 15 [.lst true 2 [.agg [I ta45.1,I ta45.2]],.lst true 1 [I (1+(Int.tmod (IntKind.wrap .i64 a6) 30))],.lst true 1 [I (Zv ta12 (1+(Int.tmod (IntKind.wrap .i64 a6) 30)))],I (2*ta2.1)] (.tup [I ta47.1,.lst false 2 ta47.2.1,I ta47.2.2])) (Qb g (Q2 Yz u (Qb (Kc E) (Qb (Q4 A) (Qb (YY C) (Qb (Q4 A) (Qb ((by unfold Qg;omega):Qg 2) (Qb (nef z) q))))))));let o l:=o (.obj (some 39) (.d (.lst false 5 ta42)) (Qa' ta40.2.2) Zj::.ret (.tup [I ta43.1,I ta43.2])::.obj (some 39) (.d (.lst false 5 ta42)) (Qa' ta40.2.2) Zj::.ret (.tup [I ta44.1,I ta44.2])::.el (Ux ta45)::.ret (.tup [I ta47.1,.lst false 2 ta47.2.1,I ta47.2.2])::b0::b0::b0::b0::b0::b0::b0::l);obtain⟨i,h⟩|⟨i,h⟩:=io h
     ·have q:=Qb (nef i) q;obtain⟨j,h⟩|⟨j,h⟩:=io h
      ·have q:=Qb (nef j) q;obtain⟨k,h⟩|⟨k,h⟩:=io h
       ·have⟨s,h⟩:=gd h;have q:=Qb s (Qb (nef k) q);obtain⟨m,h⟩|⟨m,h⟩:=io h
        ·have q:=Qb (nef m) q;obtain⟨e,h⟩|⟨e,h⟩:=io h
         ·have q:=Qb (nef e) q;obtain⟨a,h⟩|⟨a,h⟩:=io h
          ·cases h
          have q:=Qb (Zy a) q;obtain⟨b,h⟩|⟨b,h⟩:=io h
          ·cases h
          have q:=Qb (jEj b) q;obtain⟨c,h⟩|⟨c,h⟩:=io h
          ·have⟨ta57,f,h⟩:=bo h;obtain⟨t,h⟩|⟨t,h⟩:=io h
           ·have⟨F,h⟩:=gd h;have⟨H,h⟩:=gd h;cases h;exact rn 185 (o [b1,.el (Ux ta57),b0]) [] [0,5,7,9,10,12,14,15,87,88,89] [0,23,39,58,59,67,68,69] (Qb H (Qb F (Qb (zV t) (Q2 Yz f (Qb (eqt c) q)))))
           cases h
          have⟨f,h⟩:=gd h;have⟨t,h⟩:=gd h;cases h;exact rn 185 (o [b0,.no]) [] [0,5,7,9,10,12,14,15,87,88,89] [0,23,39,58,59,67,68,69] (Qb t (Qb f (Qb (eqf c) q)))
         cases h
        cases h
       cases h
      cases h
     cases h
    cases h
   cases h
  have⟨ha11,h⟩:=gd h;unfold qo at h;have⟨ha12,h⟩:=gd h;have⟨ta13,ha13,h⟩:=bo h;have⟨ha14,h⟩:=gd h;have⟨ha15,h⟩:=gd h;have⟨ta16,ha16,h⟩:=bo h;have⟨ha17,h⟩:=gd h;have⟨ha18,h⟩:=gd h;have⟨ta19,ha19,h⟩:=bo h;have⟨ha20,h⟩:=gd h;have⟨ha21,h⟩:=gd h;have⟨ha22,h⟩:=gd h;have⟨ha23,h⟩:=gd h;have⟨ha24,h⟩:=gd h;have⟨ha25,h⟩:=gd h;have⟨ta26,ha26,h⟩:=bo h;have⟨ha27,h⟩:=gd h;have⟨ha28,h⟩:=gd h;have⟨ha29,h⟩:=gd h;have⟨ta30,ha30,h⟩:=bo h;have⟨ha31,h⟩:=gd h;have⟨ha32,h⟩:=gd h;have⟨ta33,T,h⟩:=bo h;have⟨S,h⟩:=gd h;have⟨O,h⟩:=gd h;have⟨ta36,L,h⟩:=bo h;have⟨G,h⟩:=gd h;have q:=Qb G (Qb (QG L) (Qb O (Qb S (Qb (QG T) (Qb ha32 (Qb ha31 (Qb (QG ha30) (Qb ha29 (Qb ha28 (Qb ha27 (Qb (QG ha26) (Qb ha25 (Qb ha24 (Qb ha23 (Qb (QG ha16) (Qb ha22 (Qb ha21 (Qb ha20 (Qb (QG ha19) (Qb ha18 (Qb ha17 (Qb (QG ha16) (Qb ha15 (Qb ha14 (Q2 QM ha13 (Q2 QM ha13 (Qb ha12 (Qb ((by decide):(30:Int)≠0) (Qb ha11 q)))))))))))))))))))))))))))));let o l:=o (.ix 5::.el (Zi ta13)::.el (Zi ta13)::.ret (Qe ta16)::.ret (Qe ta19)::.ret (Qe ta16)::.ret (Qe ta26)::.ret (Qe ta30)::.ret (Qe ta33)::.ret (Qe ta36)::l);obtain⟨v,h⟩|⟨v,h⟩:=io h
  ·have⟨x,h⟩:=gd h;have⟨y,h⟩:=gd h;have⟨z,h⟩:=gd h;have⟨A,h⟩:=gd h;have⟨ta43,C,h⟩:=bo h;have⟨E,h⟩:=gd h;have⟨ta45,u,h⟩:=bo h;have q:=Qb (Qo u) (Qb E (Qb (QG C) (Qb A (Qb z (Qb (QG ha26) (Qb ha25 (Qb y (Qb x (Qb (jDj v) q)))))))));let o l:=o (b1::.ret (Qe ta26)::.ret (Qe ta43)::(no 6 (.obj (some 39) (.d (.tup [Qe ta45.1,I ta45.2.1])) (Qa' ta45.2.2) []::b0::.no::.no::.no::.no::l)));obtain⟨g,h⟩|⟨g,h⟩:=io h
   ·have⟨ta47,p,h⟩:=bo h;have q:=Qb (Qo p) (Qb ((by unfold Qg;omega):Qg 1) (Qb (nef g) q));let o l:=o (.obj (some 39) (.d (.tup [Qe ta47.1,I ta47.2.1])) (Qa' ta47.2.2) []::b0::.no::.no::.no::.no::l);obtain⟨i,h⟩|⟨i,h⟩:=io h
    ·have⟨ta49,j,h⟩:=bo h;have q:=Qb (Qo j) (Qb ((by unfold Qg;omega):Qg 2) (Qb (nef i) q));let o l:=o (.obj (some 39) (.d (.tup [Qe ta49.1,I ta49.2.1])) (Qa' ta49.2.2) []::b0::.no::.no::l);obtain⟨k,h⟩|⟨k,h⟩:=io h
     ·have⟨ta51,s,h⟩:=bo h;have⟨ta52,m,h⟩:=bo h;have⟨ta53,e,h⟩:=bo h;have⟨ta54,a,h⟩:=bo h;have⟨b,h⟩:=gd h;have⟨ta56,c,h⟩:=bo h;have q:=Qb (((Y8 c).le (.cons (.full _ _ _) (.cons (.full _ _ _) (.cons (.full _ _ _) (.cons (.refl _) (.nil))))) (.refl _)):Computes cx 15 [.lst true 2 [.agg [I ta54.1,I ta54.2]],.lst true 1 [I (1+(Int.tmod (IntKind.wrap .i64 a7) 30))],.lst true 1 [I (Zv ta13 (1+(Int.tmod (IntKind.wrap .i64 a7) 30)))],I (2*ta2.1)] (.tup [I ta56.1,.lst false 2 ta56.2.1,I ta56.2.2])) (Qb b (Q2 Yz a (Qb (Kc e) (Qb (Q4 s) (Qb (YY m) (Qb (Q4 s) (Qb ((by unfold Qg;omega):Qg 3) (Qb (nef k) q))))))));let o l:=o (.obj (some 39) (.d (.lst false 5 ta51)) (Qa' ta49.2.2) Zj::.ret (.tup [I ta52.1,I ta52.2])::.obj (some 39) (.d (.lst false 5 ta51)) (Qa' ta49.2.2) Zj::.ret (.tup [I ta53.1,I ta53.2])::.el (Ux ta54)::.ret (.tup [I ta56.1,.lst false 2 ta56.2.1,I ta56.2.2])::b0::b0::b0::b0::b0::b0::b0::l);obtain⟨f,h⟩|⟨f,h⟩:=io h
      ·have q:=Qb (nef f) q;obtain⟨t,h⟩|⟨t,h⟩:=io h
       ·have q:=Qb (nef t) q;obtain⟨F,h⟩|⟨F,h⟩:=io h
        ·have⟨H,h⟩:=gd h;have q:=Qb H (Qb (nef F) q);obtain⟨J,h⟩|⟨J,h⟩:=io h
         ·have q:=Qb (nef J) q;obtain⟨K,h⟩|⟨K,h⟩:=io h
          ·have q:=Qb (nef K) q;obtain⟨M,h⟩|⟨M,h⟩:=io h
           ·cases h
           have q:=Qb (Zy M) q;obtain⟨N,h⟩|⟨N,h⟩:=io h
           ·cases h
           have q:=Qb (jEj N) q;obtain⟨Q,h⟩|⟨Q,h⟩:=io h
           ·have⟨ta66,U,h⟩:=bo h;obtain⟨W,h⟩|⟨W,h⟩:=io h
            ·have⟨ha68,h⟩:=gd h;have⟨ha69,h⟩:=gd h;cases h;exact rn 185 (o [b1,.el (Ux ta66),b0]) [] [0,5,7,9,10,12,14,15,87,88,89] [0,23,39,58,59,67,68,69] (Qb ha69 (Qb ha68 (Qb (zV W) (Q2 Yz U (Qb (eqt Q) q)))))
            cases h
           have⟨U,h⟩:=gd h;have⟨W,h⟩:=gd h;cases h;exact rn 185 (o [b0,.no]) [] [0,5,7,9,10,12,14,15,87,88,89] [0,23,39,58,59,67,68,69] (Qb W (Qb U (Qb (eqf Q) q)))
          cases h
         cases h
        cases h
       cases h
      cases h
     cases h
    cases h
   cases h
  have⟨ta39,x,h⟩:=bo h;have q:=Qb (Qo x) (Qb (jEj v) q);let o l:=o (b0::.no::.no::.no::.obj (some 39) (.d (.tup [Qe ta39.1,I ta39.2.1])) (Qa' ta39.2.2) []::b0::.no::.no::.no::l);obtain⟨y,h⟩|⟨y,h⟩:=io h
  ·have⟨ta41,z,h⟩:=bo h;have q:=Qb (Qo z) (Qb ((by unfold Qg;omega):Qg 1) (Qb (nef y) q));let o l:=o (.obj (some 39) (.d (.tup [Qe ta41.1,I ta41.2.1])) (Qa' ta41.2.2) []::b0::.no::.no::l);obtain⟨A,h⟩|⟨A,h⟩:=io h
   ·have⟨ta43,C,h⟩:=bo h;have⟨ta44,E,h⟩:=bo h;have⟨ta45,u,h⟩:=bo h;have⟨ta46,g,h⟩:=bo h;have⟨p,h⟩:=gd h;have⟨ta48,i,h⟩:=bo h;have q:=Qb (((Y8 i).le (.cons (.full _ _ _) (.cons (.full _ _ _) (.cons (.full _ _ _) (.cons (.refl _) (.nil))))) (.refl _)):Computes cx 15 [.lst true 2 [.agg [I ta46.1,I ta46.2]],.lst true 1 [I (1+(Int.tmod (IntKind.wrap .i64 a7) 30))],.lst true 1 [I (Zv ta13 (1+(Int.tmod (IntKind.wrap .i64 a7) 30)))],I (2*ta2.1)] (.tup [I ta48.1,.lst false 2 ta48.2.1,I ta48.2.2])) (Qb p (Q2 Yz g (Qb (Kc u) (Qb (Q4 C) (Qb (YY E) (Qb (Q4 C) (Qb ((by unfold Qg;omega):Qg 2) (Qb (nef A) q))))))));let o l:=o (.obj (some 39) (.d (.lst false 5 ta43)) (Qa' ta41.2.2) Zj::.ret (.tup [I ta44.1,I ta44.2])::.obj (some 39) (.d (.lst false 5 ta43)) (Qa' ta41.2.2) Zj::.ret (.tup [I ta45.1,I ta45.2])::.el (Ux ta46)::.ret (.tup [I ta48.1,.lst false 2 ta48.2.1,I ta48.2.2])::b0::b0::b0::b0::b0::b0::b0::l);obtain⟨j,h⟩|⟨j,h⟩:=io h
    ·have q:=Qb (nef j) q;obtain⟨k,h⟩|⟨k,h⟩:=io h
     ·have q:=Qb (nef k) q;obtain⟨s,h⟩|⟨s,h⟩:=io h
      ·have⟨m,h⟩:=gd h;have q:=Qb m (Qb (nef s) q);obtain⟨e,h⟩|⟨e,h⟩:=io h
       ·have q:=Qb (nef e) q;obtain⟨a,h⟩|⟨a,h⟩:=io h
        ·have q:=Qb (nef a) q;obtain⟨b,h⟩|⟨b,h⟩:=io h
         ·cases h
         have q:=Qb (Zy b) q;obtain⟨c,h⟩|⟨c,h⟩:=io h
         ·cases h
         have q:=Qb (jEj c) q;obtain⟨f,h⟩|⟨f,h⟩:=io h
         ·have⟨ta58,t,h⟩:=bo h;obtain⟨F,h⟩|⟨F,h⟩:=io h
          ·have⟨H,h⟩:=gd h;have⟨J,h⟩:=gd h;cases h;exact rn 185 (o [b1,.el (Ux ta58),b0]) [] [0,5,7,9,10,12,14,15,87,88,89] [0,23,39,58,59,67,68,69] (Qb J (Qb H (Qb (zV F) (Q2 Yz t (Qb (eqt f) q)))))
          cases h
         have⟨t,h⟩:=gd h;have⟨F,h⟩:=gd h;cases h;exact rn 185 (o [b0,.no]) [] [0,5,7,9,10,12,14,15,87,88,89] [0,23,39,58,59,67,68,69] (Qb F (Qb t (Qb (eqf f) q)))
        cases h
       cases h
      cases h
     cases h
    cases h
   cases h
  cases h
 cases h;exact rx 185 [b0] [] [0,10,12,14,15] [23,39,58,59,67,68,69] (Qb (jEj a1) QA)
def kE (n:Nat)(a0:jVj)(t4:jVj×Int×Int×Int×Int)(e:Int×Int×Int×Int×Bool×Bool×Int×Int×Int×jVj×jVj×jVj×jVj×jVj)(a:(Int×Int×Int×Bool×Bool×Int×Int×Int×jVj×jVj×jVj×jVj×jVj)):Option (Int×Int×Int×Bool×Bool×Int×Int×Int×jVj×jVj×jVj×jVj×jVj⊕Int×Int×Bool×Bool×Int×Int×Int×jVj×jVj×jVj×jVj×jVj) := if a.1<((a0).length:Int) then(QT n a.1).bind fun c=>if(⟨#[98,105,108,108,32,111]⟩:jSj).size+c.size<=9223372036854775807 then if((⟨#[98,105,108,108,32,111]⟩:jSj)++c).size+(⟨#[32]⟩:jSj).size<=9223372036854775807 then(QT n ((10*((a0).length:Int))+10)).bind fun d=>if(((⟨#[98,105,108,108,32,111]⟩:jSj)++c)++(⟨#[32]⟩:jSj)).size+d.size<=9223372036854775807 then(Qj n ((((⟨#[98,105,108,108,32,111]⟩:jSj)++c)++(⟨#[32]⟩:jSj))++d) a.2.2.2.2.2.2.2.2.1 a.2.2.2.2.2.2.2.2.2.1 a.2.1 a.2.2.1 a.2.2.2.1 a.2.2.2.2.1 a.2.2.2.2.2.1 a.2.2.2.2.2.2.1 a.2.2.2.2.2.2.2.1 a.2.2.2.2.2.2.2.2.2.2.1 a.2.2.2.2.2.2.2.2.2.2.2.1 a.2.2.2.2.2.2.2.2.2.2.2.2).bind fun b=>if b.2.1=0 then if Qg (a.1+1) then some (.inl ((a.1+1),b.2.2.2.2.1,b.2.2.2.2.2.1,b.2.2.2.2.2.2.1,b.2.2.2.2.2.2.2.1,b.2.2.2.2.2.2.2.2.1,b.2.2.2.2.2.2.2.2.2.1,b.2.2.2.2.2.2.2.2.2.2.1,b.2.2.1,b.2.2.2.1,b.2.2.2.2.2.2.2.2.2.2.2.1,b.2.2.2.2.2.2.2.2.2.2.2.2.1,b.2.2.2.2.2.2.2.2.2.2.2.2.2)) else none else none else none else none else none else some (.inr (a.2.1,a.2.2.1,a.2.2.2.1,a.2.2.2.2.1,a.2.2.2.2.2.1,a.2.2.2.2.2.2.1,a.2.2.2.2.2.2.2.1,a.2.2.2.2.2.2.2.2.1,a.2.2.2.2.2.2.2.2.2.1,a.2.2.2.2.2.2.2.2.2.2.1,a.2.2.2.2.2.2.2.2.2.2.2.1,a.2.2.2.2.2.2.2.2.2.2.2.2))
noncomputable def Qk5 (a0:jVj)(t4:jVj×Int×Int×Int×Int)(b:Int×Int×Int×Int×Bool×Bool×Int×Int×Int×jVj×jVj×jVj×jVj×jVj):Lp (Int×Int×Int×Bool×Bool×Int×Int×Int×jVj×jVj×jVj×jVj×jVj) (Int×Int×Bool×Bool×Int×Int×Int×jVj×jVj×jVj×jVj×jVj):=⟨fun a=>[(10,.ptr 23 0 0 0 0),(12,.ptr 39 0 0 0 0),(14,.d (I b.1)),(15,.d (I b.2.1)),(34,.d (I ((10*((a0).length:Int))+10))),(284,.d (I ((a0).length:Int))),(285,.d (I a.1))],fun a=>[(23,.box (.d (.agg [I t4.2.1,I t4.2.2.1,I t4.2.2.2.1]))),(39,.box (.agg [.own 58 0,.own 59 0,.d (I a.2.1),.d (I a.2.2.1),.d (B a.2.2.2.1),.d (B a.2.2.2.2.1),.d (I a.2.2.2.2.2.1),.d (I a.2.2.2.2.2.2.1),.d (I a.2.2.2.2.2.2.2.1),.own 67 0,.own 68 0,.own 69 0])),(58,.row 0 5 a.2.2.2.2.2.2.2.2.1),(59,.row 0 5 a.2.2.2.2.2.2.2.2.2.1),(67,.row 0 1 a.2.2.2.2.2.2.2.2.2.2.1),(68,.row 0 6 a.2.2.2.2.2.2.2.2.2.2.2.1),(69,.row 0 7 a.2.2.2.2.2.2.2.2.2.2.2.2)],fun _=>(.exit 4),fun _=>[(10,.ptr 23 0 0 0 0),(12,.ptr 39 0 0 0 0),(14,.d (I b.1)),(15,.d (I b.2.1))],fun e=>[(23,.box (.d (.agg [I t4.2.1,I t4.2.2.1,I t4.2.2.2.1]))),(39,.box (.agg [.own 58 0,.own 59 0,.d (I e.1),.d (I e.2.1),.d (B e.2.2.1),.d (B e.2.2.2.1),.d (I e.2.2.2.2.1),.d (I e.2.2.2.2.2.1),.d (I e.2.2.2.2.2.2.1),.own 67 0,.own 68 0,.own 69 0])),(58,.row 0 5 e.2.2.2.2.2.2.2.1),(59,.row 0 5 e.2.2.2.2.2.2.2.2.1),(67,.row 0 1 e.2.2.2.2.2.2.2.2.2.1),(68,.row 0 6 e.2.2.2.2.2.2.2.2.2.2.1),(69,.row 0 7 e.2.2.2.2.2.2.2.2.2.2.2)]⟩
theorem Qk3 {n a0 t4 c}(e)(r)(h:kE n a0 t4 c e=some r):Rl (Zt cx.P 4 2) 352 0 false (Qk5 a0 t4 c) e r:=by
 unfold kE at h;obtain⟨a,h⟩|⟨a,h⟩:=io h
 ·have⟨ta2,ha2,h⟩:=bo h;have⟨ha3,h⟩:=gd h;have⟨ha4,h⟩:=gd h;have⟨ta5,ha5,h⟩:=bo h;have⟨ha6,h⟩:=gd h;have⟨ta7,ha7,h⟩:=bo h;obtain⟨b,h⟩|⟨b,h⟩:=io h
  ·have⟨ha9,h⟩:=gd h;cases h;exact rn 499 [b1,.ret (Qe ta2),.ret (Qe ta5),.obj (some 39) (.d (.tup [Qe ta7.1,I ta7.2.1])) (Qa' ta7.2.2) [],b0] [] [10,12,14,15,34,284,285] [23,39,58,59,67,68,69] (Qb ha9 (Qb (nef b) (Qb (Qo ha7) (Qb ha6 (Qb (QG ha5) (Qb ha4 (Qb ha3 (Qb (QG ha2) (Qb (jDj a) QA)))))))))
  cases h
 cases h;exact rx 499 [b0] [] [10,12,14,15] [23,39,58,59,67,68,69] (Qb (jEj a) QA)
def QkP (n:Nat)(a0:jVj)(p q r s t u v:Int):Option (Bool) := (VL n a0).bind fun t1=>if t1.2=true then if Wi 16 (0+(t1.1).length) then(VH n 60 0 (Int.tmod (IntKind.wrap .i64 p) 31) t1.1).bind fun t4=>(Qj n (⟨#[115,101,99,116,111,114,32,110,32,48]⟩) ([]) ([]) 0 0 false false 0 0 0 ([]) ([]) ([])).bind fun f=>if f.2.1=0 then(Qj n (⟨#[109,105,114,114,111,114,32,97,32,110,32,48,32,49,48,48]⟩) f.2.2.1 f.2.2.2.1 f.2.2.2.2.1 f.2.2.2.2.2.1 f.2.2.2.2.2.2.1 f.2.2.2.2.2.2.2.1 f.2.2.2.2.2.2.2.2.1 f.2.2.2.2.2.2.2.2.2.1 f.2.2.2.2.2.2.2.2.2.2.1 f.2.2.2.2.2.2.2.2.2.2.2.1 f.2.2.2.2.2.2.2.2.2.2.2.2.1 f.2.2.2.2.2.2.2.2.2.2.2.2.2).bind fun g=>if g.2.1=0 then(Qj n (⟨#[102,105,108,108,32,48]⟩) g.2.2.1 g.2.2.2.1 g.2.2.2.2.1 g.2.2.2.2.2.1 g.2.2.2.2.2.2.1 g.2.2.2.2.2.2.2.1 g.2.2.2.2.2.2.2.2.1 g.2.2.2.2.2.2.2.2.2.1 g.2.2.2.2.2.2.2.2.2.2.1 g.2.2.2.2.2.2.2.2.2.2.2.1 g.2.2.2.2.2.2.2.2.2.2.2.2.1 g.2.2.2.2.2.2.2.2.2.2.2.2.2).bind fun h=>if h.2.1=0 then(Qj n (⟨#[97,105,109,32,97,32,48]⟩) h.2.2.1 h.2.2.2.1 h.2.2.2.2.1 h.2.2.2.2.2.1 h.2.2.2.2.2.2.1 h.2.2.2.2.2.2.2.1 h.2.2.2.2.2.2.2.2.1 h.2.2.2.2.2.2.2.2.2.1 h.2.2.2.2.2.2.2.2.2.2.1 h.2.2.2.2.2.2.2.2.2.2.2.1 h.2.2.2.2.2.2.2.2.2.2.2.2.1 h.2.2.2.2.2.2.2.2.2.2.2.2.2).bind fun c=>if c.2.1=0 then if t4.2.2.2.2=0 then if((t4.1).length:Int)=((a0).length:Int) then if t4.2.2.2.1=0 then(QU (kB n a0 q r s t u v t1 t4) n (0,0,0,c.2.2.2.2.1,c.2.2.2.2.2.1,c.2.2.2.2.2.2.1,c.2.2.2.2.2.2.2.1,c.2.2.2.2.2.2.2.2.1,c.2.2.2.2.2.2.2.2.2.1,c.2.2.2.2.2.2.2.2.2.2.1,c.2.2.1,c.2.2.2.1,c.2.2.2.2.2.2.2.2.2.2.2.1,c.2.2.2.2.2.2.2.2.2.2.2.2.1,c.2.2.2.2.2.2.2.2.2.2.2.2.2)).bind fun b=>if Qg (10*((a0).length:Int)) then if Qg ((10*((a0).length:Int))+10) then(QT n (10*((a0).length:Int))).bind fun j=>if(⟨#[112,97,114,107,32,97,32]⟩:jSj).size+j.size<=9223372036854775807 then(Qj n ((⟨#[112,97,114,107,32,97,32]⟩:jSj)++j) b.2.2.2.2.2.2.2.2.2.1 b.2.2.2.2.2.2.2.2.2.2.1 b.2.2.1 b.2.2.2.1 b.2.2.2.2.1 b.2.2.2.2.2.1 b.2.2.2.2.2.2.1 b.2.2.2.2.2.2.2.1 b.2.2.2.2.2.2.2.2.1 b.2.2.2.2.2.2.2.2.2.2.2.1 b.2.2.2.2.2.2.2.2.2.2.2.2.1 b.2.2.2.2.2.2.2.2.2.2.2.2.2).bind fun d=>if d.2.1=0 then(QU (kE n a0 t4 b) n (0,d.2.2.2.2.1,d.2.2.2.2.2.1,d.2.2.2.2.2.2.1,d.2.2.2.2.2.2.2.1,d.2.2.2.2.2.2.2.2.1,d.2.2.2.2.2.2.2.2.2.1,d.2.2.2.2.2.2.2.2.2.2.1,d.2.2.1,d.2.2.2.1,d.2.2.2.2.2.2.2.2.2.2.2.1,d.2.2.2.2.2.2.2.2.2.2.2.2.1,d.2.2.2.2.2.2.2.2.2.2.2.2.2)).bind fun a=>(QW n a.2.2.2.2.2.2.2.1 a.2.2.2.2.2.2.2.2.1 a.1 a.2.1 a.2.2.1 a.2.2.2.1 a.2.2.2.2.1 a.2.2.2.2.2.1 a.2.2.2.2.2.2.1 a.2.2.2.2.2.2.2.2.2.1 a.2.2.2.2.2.2.2.2.2.2.1 a.2.2.2.2.2.2.2.2.2.2.2).bind fun l=>(QkT n l).bind fun i=>(QkL n a.2.2.2.2.2.2.2.1 a.2.2.2.2.2.2.2.2.1 a.1 a.2.1 a.2.2.1 a.2.2.2.1 a.2.2.2.2.1 a.2.2.2.2.2.1 a.2.2.2.2.2.2.1 a.2.2.2.2.2.2.2.2.2.1 a.2.2.2.2.2.2.2.2.2.2.1 a.2.2.2.2.2.2.2.2.2.2.2).bind fun k=>(Qk0 n k).bind fun e=>if i.2.2.2.2.2.2.2.2.2.2.2=0 then if i.2.2.2.2.2.2.1=b.1 then if Qg (t4.2.2.1+b.2.1) then if Qg ((t4.2.2.1+b.2.1)*1000000) then if i.2.2.2.2.2.1=((t4.2.2.1+b.2.1)*1000000) then if e.1=0 then(QkL n e.2.1 e.2.2.1 e.2.2.2.1 e.2.2.2.2.1 e.2.2.2.2.2.1 e.2.2.2.2.2.2.1 e.2.2.2.2.2.2.2.1 e.2.2.2.2.2.2.2.2.1 e.2.2.2.2.2.2.2.2.2.1 e.2.2.2.2.2.2.2.2.2.2.1 e.2.2.2.2.2.2.2.2.2.2.2.1 e.2.2.2.2.2.2.2.2.2.2.2.2).bind fun m=>if(m.toList==k.toList)=true then(Zz n).bind fun o=>some o else none else none else none else none else none else none else none else none else none else none else none else none else none else none else if t4.2.2.2.2=0 then if((t4.1).length:Int)=((a0).length:Int) then if t4.2.2.2.1=0 then none else none else none else none else if t4.2.2.2.2=0 then if((t4.1).length:Int)=((a0).length:Int) then if t4.2.2.2.1=0 then none else none else none else none else if t4.2.2.2.2=0 then if((t4.1).length:Int)=((a0).length:Int) then if t4.2.2.2.1=0 then none else none else none else none else if t4.2.2.2.2=0 then if((t4.1).length:Int)=((a0).length:Int) then if t4.2.2.2.1=0 then none else none else none else none else none else(Zz n).bind fun x=>some x
theorem Qk9 {n a0 z A C E F G H r}(h:QkP n a0 z A C E F G H=some r):Computes cx 4 [.lst false 2 a0,.v (.int .u8 z),.agg [.v (.int .u8 A),.v (.int .u8 C),.v (.int .u8 E),.v (.int .u8 F),.v (.int .u8 G),.v (.int .u8 H)]] (B r):=by
 unfold QkP at h;have⟨t1,h1,h⟩:=bo h;have q:=Qb (zo h1) QA;let o(l:jOj):=.ret (.tup [.lst false 2 t1.1,B t1.2])::l;obtain⟨y,h⟩|⟨y,h⟩:=io h
 ·have⟨h3,h⟩:=gd h;have⟨t4,h4,h⟩:=bo h;have⟨t5,h5,h⟩:=bo h;obtain⟨J,h⟩|⟨J,h⟩:=io h
  ·have⟨t7,x,h⟩:=bo h;obtain⟨u,h⟩|⟨u,h⟩:=io h
   ·have⟨t9,i,h⟩:=bo h;obtain⟨c,h⟩|⟨c,h⟩:=io h
    ·have⟨t11,b,h⟩:=bo h;obtain⟨e,h⟩|⟨e,h⟩:=io h
     ·obtain⟨a,h⟩|⟨a,h⟩:=io h
      ·obtain⟨f,h⟩|⟨f,h⟩:=io h
       ·obtain⟨g,h⟩|⟨g,h⟩:=io h
        ·have⟨t16,h16,h⟩:=bo h;have⟨h17,h⟩:=gd h;have⟨h18,h⟩:=gd h;have⟨t19,h19,h⟩:=bo h;have⟨h20,h⟩:=gd h;have⟨t21,h21,h⟩:=bo h;obtain⟨j,h⟩|⟨j,h⟩:=io h
         ·have⟨t23,h23,h⟩:=bo h;have⟨t24,h24,h⟩:=bo h;have⟨t25,h25,h⟩:=bo h;have⟨t26,h26,h⟩:=bo h;have⟨t27,h27,h⟩:=bo h;obtain⟨k,h⟩|⟨k,h⟩:=io h
          ·obtain⟨m,h⟩|⟨m,h⟩:=io h
           ·have⟨h30,h⟩:=gd h;have⟨h31,h⟩:=gd h;obtain⟨p,h⟩|⟨p,h⟩:=io h
            ·obtain⟨s,h⟩|⟨s,h⟩:=io h
             ·have⟨t34,h34,h⟩:=bo h;obtain⟨t,h⟩|⟨t,h⟩:=io h
              ·have⟨t36,h36,h⟩:=bo h;obtain rfl:=oi h;exact rf (o [b0,.ix (-8),b1,.ret (.tup [.lst false 1 t4.1,.agg [I t4.2.1,I t4.2.2.1,I t4.2.2.2.1],I t4.2.2.2.2]),b1,b1,.no,.no,.no,.no,.obj (some 39) (.d (.tup [Qe t5.1,I t5.2.1])) (Qa' t5.2.2) [],b0,.no,.no,.no,.obj (some 39) (.d (.tup [Qe t7.1,I t7.2.1])) (Qa' t7.2.2) [],b0,.no,.no,.no,.obj (some 39) (.d (.tup [Qe t9.1,I t9.2.1])) (Qa' t9.2.2) [],b0,.no,.no,.no,.obj (some 39) (.d (.tup [Qe t11.1,I t11.2.1])) (Qa' t11.2.2) [],b0,.no,.no,b0,b0,b0,.no,.lp [] [0,5,7,9,10,12,14,15,87,88,89] [0,23,39,58,59,67,68,69] (.exit 0) [(0,.d (.lst false 2 a0)),(10,.ptr 23 0 0 0 0),(12,.ptr 39 0 0 0 0),(14,.d (I t16.1)),(15,.d (I t16.2.1))] [(23,.box (.d (.agg [I t4.2.1,I t4.2.2.1,I t4.2.2.2.1]))),(39,.box (.agg [.own 58 0,.own 59 0,.d (I t16.2.2.1),.d (I t16.2.2.2.1),.d (B t16.2.2.2.2.1),.d (B t16.2.2.2.2.2.1),.d (I t16.2.2.2.2.2.2.1),.d (I t16.2.2.2.2.2.2.2.1),.d (I t16.2.2.2.2.2.2.2.2.1),.own 67 0,.own 68 0,.own 69 0])),(58,.row 0 5 t16.2.2.2.2.2.2.2.2.2.1),(59,.row 0 5 t16.2.2.2.2.2.2.2.2.2.2.1),(67,.row 0 1 t16.2.2.2.2.2.2.2.2.2.2.2.1),(68,.row 0 6 t16.2.2.2.2.2.2.2.2.2.2.2.2.1),(69,.row 0 7 t16.2.2.2.2.2.2.2.2.2.2.2.2.2)] 465,.ret (Qe t19),.obj (some 39) (.d (.tup [Qe t21.1,I t21.2.1])) (Qa' t21.2.2) [],b0,.lp [] [10,12,14,15,34,284,285] [23,39,58,59,67,68,69] (.exit 4) [(10,.ptr 23 0 0 0 0),(12,.ptr 39 0 0 0 0),(14,.d (I t16.1)),(15,.d (I t16.2.1))] [(23,.box (.d (.agg [I t4.2.1,I t4.2.2.1,I t4.2.2.2.1]))),(39,.box (.agg [.own 58 0,.own 59 0,.d (I t23.1),.d (I t23.2.1),.d (B t23.2.2.1),.d (B t23.2.2.2.1),.d (I t23.2.2.2.2.1),.d (I t23.2.2.2.2.2.1),.d (I t23.2.2.2.2.2.2.1),.own 67 0,.own 68 0,.own 69 0])),(58,.row 0 5 t23.2.2.2.2.2.2.2.1),(59,.row 0 5 t23.2.2.2.2.2.2.2.2.1),(67,.row 0 1 t23.2.2.2.2.2.2.2.2.2.1),(68,.row 0 6 t23.2.2.2.2.2.2.2.2.2.2.1),(69,.row 0 7 t23.2.2.2.2.2.2.2.2.2.2.2)] 543,.obj (some 39) (.d (.lst false 5 t24)) (Qa t23.2.2.2.2.2.2.2.1 t23.2.2.2.2.2.2.2.2.1 t23.1 t23.2.1 t23.2.2.1 t23.2.2.2.1 t23.2.2.2.2.1 t23.2.2.2.2.2.1 t23.2.2.2.2.2.2.1 t23.2.2.2.2.2.2.2.2.2.1 t23.2.2.2.2.2.2.2.2.2.2.1 t23.2.2.2.2.2.2.2.2.2.2.2) Zj,.ret (.tup [.agg [I t25.1,I t25.2.1,B t25.2.2.1,B t25.2.2.2.1,I t25.2.2.2.2.1,I t25.2.2.2.2.2.1,I t25.2.2.2.2.2.2.1,.lst false 1 t25.2.2.2.2.2.2.2.1,.lst false 6 t25.2.2.2.2.2.2.2.2.1,.lst false 7 t25.2.2.2.2.2.2.2.2.2.1],I t25.2.2.2.2.2.2.2.2.2.2.1,I t25.2.2.2.2.2.2.2.2.2.2.2]),.obj (some 39) (.d (Qe t26)) (Qa t23.2.2.2.2.2.2.2.1 t23.2.2.2.2.2.2.2.2.1 t23.1 t23.2.1 t23.2.2.1 t23.2.2.2.1 t23.2.2.2.2.1 t23.2.2.2.2.2.1 t23.2.2.2.2.2.2.1 t23.2.2.2.2.2.2.2.2.2.1 t23.2.2.2.2.2.2.2.2.2.2.1 t23.2.2.2.2.2.2.2.2.2.2.2) Zj,.obj none (.tup [.ptr 0 0 0 0 0,.d (I t27.1)]) (Qa' t27.2) [],b1,b1,b1,b1,.no,.obj (some 562) (.d (Qe t34)) (Qa' t27.2) Zj,.obj (some 39) (.d (Qe t26)) (Qa t23.2.2.2.2.2.2.2.1 t23.2.2.2.2.2.2.2.2.1 t23.1 t23.2.1 t23.2.2.1 t23.2.2.2.1 t23.2.2.2.2.1 t23.2.2.2.2.2.1 t23.2.2.2.2.2.2.1 t23.2.2.2.2.2.2.2.2.2.1 t23.2.2.2.2.2.2.2.2.2.2.1 t23.2.2.2.2.2.2.2.2.2.2.2) Zj,b1,.ret (B t36)]) (Qb (W9 h36) (Qb t (Qb (QkY h26) (Qb (QkY h34) (Qb (eqt s) (Qb (eqt p) (Qb h31 (Qb h30 (Qb (eqt m) (Qb (eqt k) (Qb (QlC h27) (Qb (QkY h26) (Qb (Qlt h25) (Qb (Q4 h24) (Qb (QE Qk3 h23) (Qb (nef j) (Qb (Qo h21) (Qb h20 (Qb (QG h19) (Qb h17 (Qb h18 (Qb h17 (Qb (QE Qk4 h16) (Qb (nef g) (Qb (nef f) (Qb (nef a) (Qb ((by unfold Qg;omega):Qg 4) (Qb (nef e) (Qb (Qo b) (Qb ((by unfold Qg;omega):Qg 3) (Qb (nef c) (Qb (Qo i) (Qb ((by unfold Qg;omega):Qg 2) (Qb (nef u) (Qb (Qo x) (Qb ((by unfold Qg;omega):Qg 1) (Qb (nef J) (Qb (Qo h5) (Qb (Jn h4) (Qb (ro 28 h3) (Qb ((by decide):(31:Int)≠0) (Qb (zV y) q))))))))))))))))))))))))))))))))))))))))))
              cases h
             cases h
            cases h
           cases h
          cases h
         cases h
        cases h
       cases h
      cases h
     by_cases a:t4.2.2.2.2=0
     ·replace h:=U7 h a;by_cases f:((t4.1).length:Int)=((a0).length:Int)
      ·replace h:=U7 h f;by_cases g:t4.2.2.2.1=0
       ·replace h:=U7 h g;cases h
       ·replace h:=U8 h g;cases h
      ·replace h:=U8 h f;cases h
     ·replace h:=U8 h a;cases h
    by_cases b:t4.2.2.2.2=0
    ·replace h:=U7 h b;by_cases e:((t4.1).length:Int)=((a0).length:Int)
     ·replace h:=U7 h e;by_cases a:t4.2.2.2.1=0
      ·replace h:=U7 h a;cases h
      ·replace h:=U8 h a;cases h
     ·replace h:=U8 h e;cases h
    ·replace h:=U8 h b;cases h
   by_cases i:t4.2.2.2.2=0
   ·replace h:=U7 h i;by_cases c:((t4.1).length:Int)=((a0).length:Int)
    ·replace h:=U7 h c;by_cases b:t4.2.2.2.1=0
     ·replace h:=U7 h b;cases h
     ·replace h:=U8 h b;cases h
    ·replace h:=U8 h c;cases h
   ·replace h:=U8 h i;cases h
  by_cases x:t4.2.2.2.2=0
  ·replace h:=U7 h x;by_cases u:((t4.1).length:Int)=((a0).length:Int)
   ·replace h:=U7 h u;by_cases i:t4.2.2.2.1=0
    ·replace h:=U7 h i;cases h
    ·replace h:=U8 h i;cases h
   ·replace h:=U8 h u;cases h
  ·replace h:=U8 h x;cases h
 have⟨t3,h3,h⟩:=bo h;obtain rfl:=oi h;exact rf (o [b1,.ret (B t3)]) (Qb (W9 h3) (Qb (wG (Zy y)) q))
set_option maxRecDepth 20000
abbrev Qmb:=Int×Int×Int×Int×Int×Bool×Bool×Int×Int×Int×jVj×jVj×jVj×jVj×jVj
def stF (mo kpt:Int)(i:Nat)(c:List Ev)(r:Reg):Qmb:=(mo,kpt,(i:Int),r.tick,r.level,r.filled,r.tripped,r.light,r.heat,r.money,c.map Q5,c.map Q5,r.sectors.map Sd,r.mirrors.map Q1,r.offers.map Zs)
theorem Ql3 {b s mo i:Int}{t:Int×jVj×Int}{X:Option (Qmb⊕Int×Int×Int×Int×Bool×Bool×Int×Int×Int×jVj×jVj×jVj×jVj×jVj)}(c:t=if s>0 then(b,[.agg [I 0,I s]],0) else(b,[],0))(l:0<=s/\s<=100)(g : -1000000<=b/\b<=1000000)(k : -10000000<=mo/\mo<=10000000)(j:0<=i/\i<=10) :
  (if(0:Int)=0 then if(0:Int)=0 then if t.2.2=0 then if Qg s then if s=s then if b=t.1 then
   if(!((((t.2.1).length:Int)==1)==(decide (s>0))))=true then none else if((t.2.1).length:Int)>1 then none else if((t.2.1).length:Int)=1 then
    (el UX t.2.1 0).bind fun a=>if((a.1==0)&&((a.2==s)&&true))=true then if Qg (mo+b) then if Qg (i+1) then X else none else none else none
   else if Qg (mo+b) then if Qg (i+1) then X else none else none
  else none else none else none else none else none else none)=X:=by
 have d:Qg (mo+b):=VU (by omega);have e:Qg (i+1):=VU (by omega);have f:Qg s:=VU (by omega);by_cases h:s>0
 ·rw[jTj h] at c;subst c;rw[jTj rfl,jTj rfl,jTj rfl,jTj f,jTj rfl,jTj rfl];refine Eq.trans (jFj (show ¬(!(((1:Int)==1)==decide (s>0)))=true by rw[jDj h];decide)) ?_;refine Eq.trans (jFj (show ¬(1:Int)>1 by decide)) ?_;refine Eq.trans (jTj (show(1:Int)=1 from rfl)) ?_;rw[show el UX [.agg [I 0,I s]] 0=some (0,s) from rfl,jBj,jTj (by simp),jTj d,jTj e]
 ·rw[jFj h] at c;subst c;rw[jTj rfl,jTj rfl,jTj rfl,jTj f,jTj rfl,jTj rfl];refine Eq.trans (jFj (show ¬(!(((0:Int)==1)==decide (s>0)))=true by rw[jEj h];decide)) ?_;refine Eq.trans (jFj (show ¬(0:Int)>1 by decide)) ?_;refine Eq.trans (jFj (show ¬(0:Int)=1 by decide)) ?_;rw[jTj d,jTj e]
theorem of_B {n:Nat}(G:3000<=n){qs:List Qr}(hq:OkP qs)(Z:qs.length<=6){t1:jVj×Bool}(T:t1.1=qs.map Vf){t4:jVj×Int×Int×Int×Int}{ds:List Int}(U:t4.1=ds.map I){i:Nat}{x:Qr}(E:qs[i]?=some x){d:Int}(V:ds[i]?=some d)(W:0<=d/\d<=30){lv kpt mo e:Int}(X:1<=e/\e<=30)(hk:0<=kpt)(a0:0<=lv/\lv+kpt<=60)(Y:d<=lv+x.2)(a4 : -1000000<=mo/\mo<=1000000){c:List Ev}{r:Reg}(h:OfI i (lv+kpt) mo c r) :
  ∃F L v,(v=Zv d e)/\OfI (i+1) (lv+kpt+x.2 - v) (mo+(x.1*v - 2*x.1*(e - v))) F L/\qo n t1 t4 (stF mo kpt i c r) x (mkS (Lib.itoa (i:Int))) e=some (.inl (stF (mo+(x.1*v - 2*x.1*(e - v))) (kpt+(d - v)) (i+1) F L)):=by
 have hi:=(jGj E).1;obtain⟨M,x2⟩:=hq x (jgj E);obtain⟨⟨v1,v2⟩,v3⟩:=UB d e;generalize H:Zv d e=v at v1 v2 v3;have v0:0<=v:=by omega
 have k:∀a:Int,0<=a/\a<=999999999->QT n a=some (mkS (Lib.itoa a)):=fun a ha=>Qhn G (by omega) (by omega);have o:el V5 t4.1 (i:Int)=some d:=by rw[U];exact Ei V
 have p:el UX t1.1 (i:Int)=some x:=by rw[T];exact UG unQ E
 have l0:=Jm (a:=10*(i:Int)) (by omega);have l1:=Jm (a:=x.2) (by omega);have l2:=Jm (a:=(i:Int)) (by omega);have l3:=Jm (a:=10*(i:Int)+10) (by omega);have l4:=Jm (a:=10*(i:Int)+20) (by omega);have l5:=Jm (a:=e) (by omega);have l6:=Jm (a:=x.1) (by omega);have l7:=Jm (a:=v) (by omega);have nx:Qg ((i:Int)+1):=VU (by omega);have t:(⟨#[111]⟩:jSj)++mkS (Lib.itoa (i:Int))=mkS (onm i):=Qmz i;have b1:0<=x.1*v/\x.1*v<=1000*30:=jI M ⟨v0,by omega⟩;have b2:0<=2*x.1*(e - v)/\2*x.1*(e - v)<=2000*30:=jI (g:=2*x.1) ⟨by omega,by omega⟩ ⟨by omega,by omega⟩;have u:=Qeq (n:=n) (by omega) (x:=x) (by omega) (e:=e) (d:=v) (f:=2*x.1) (by omega) (by omega) (by omega);have j : WO n [.agg [I x.1,I x.2]] [I e] [I v] (2*x.1)=some (if e - v>0 then(x.1*v - 2*x.1*(e - v),[.agg [I 0,I (e - v)]],0) else(x.1*v,[],0)):=u;have C:(if e - v>0 then(x.1*v - 2*x.1*(e - v),[(.agg [I 0,I (e - v)]:D)],(0:Int)) else(x.1*v,[],0))=if e - v>0 then(x.1*v - 2*x.1*(e - v),[.agg [I 0,I (e - v)]],0) else(x.1*v - 2*x.1*(e - v),[],0):=by
  by_cases h:e - v>0
  ·rw[jTj h,jTj h]
  ·have P:e - v=0:=by omega
   rw[jFj h,jFj h,P,Int.mul_zero,Int.sub_zero]
 rw[C] at j;generalize l:x.1*v - 2*x.1*(e - v)=b at *;obtain⟨c1,r1,N,r2,⟨m1,J⟩,⟨m2,K⟩,Q,S⟩:=Qmh G (by omega) (by omega) h x2 X M (v:=v) (by omega) (by omega) (Qjz (10*(i:Int)) x.2) (Qfs i (10*(i:Int)) (10*(i:Int)+10) (10*(i:Int)+20) e x.1) (Qa5 i (10*(i:Int)+10) v);by_cases y:v>0
 ·obtain⟨O,r3,⟨m3,q3⟩,q,z,A,m⟩:=S y;rw[l] at q m;refine⟨O,r3,v,rfl,by rw[l];exact q,?_⟩;rw[l];unfold stF qo;dsimp only;rw[jTj (VU (by omega)),o,jBj,H,jTj (VU (by omega)),jTj (VU (by omega)),k (10*(i:Int)) (by omega),jBj,jTj (by simp only[ByteArray.size_append,QQ,Qp,List.length_cons,List.length_nil];omega),jTj (by simp only[ByteArray.size_append,QQ,Qp,List.length_cons,List.length_nil];omega),k x.2 (by omega),jBj,jTj (by simp only[ByteArray.size_append,QQ,Qp,List.length_cons,List.length_nil];omega),jTj (by simp only[ByteArray.size_append,QQ,Qp,List.length_cons,List.length_nil];omega),jTj (by simp only[ByteArray.size_append,QQ,Qp,List.length_cons,List.length_nil];omega),jTj (by simp only[ByteArray.size_append,QQ,Qp,List.length_cons,List.length_nil];omega),jTj (by simp only[ByteArray.size_append,QQ,Qp,List.length_cons,List.length_nil];omega),jTj (VU (by omega)),k (10*(i:Int)+10) (by omega),jBj,jTj (by simp only[ByteArray.size_append,QQ,Qp,List.length_cons,List.length_nil];omega),jTj (by simp only[ByteArray.size_append,QQ,Qp,List.length_cons,List.length_nil];omega),jTj (VU (by omega)),k (10*(i:Int)+20) (by omega),jBj,jTj (by simp only[ByteArray.size_append,QQ,Qp,List.length_cons,List.length_nil];omega),jTj (by simp only[ByteArray.size_append,QQ,Qp,List.length_cons,List.length_nil];omega),k e (by omega),jBj,jTj (by simp only[ByteArray.size_append,QQ,Qp,List.length_cons,List.length_nil];omega),jTj (by simp only[ByteArray.size_append,QQ,Qp,List.length_cons,List.length_nil];omega),k x.1 (by omega),jBj,jTj (by simp only[ByteArray.size_append,QQ,Qp,List.length_cons,List.length_nil];omega),jTj y,jTj (by simp only[ByteArray.size_append,QQ,Qp,List.length_cons,List.length_nil];omega),jTj (by simp only[ByteArray.size_append,QQ,Qp,List.length_cons,List.length_nil];omega),jTj (by simp only[ByteArray.size_append,QQ,Qp,List.length_cons,List.length_nil];omega),jTj (by simp only[ByteArray.size_append,QQ,Qp,List.length_cons,List.length_nil];omega),k v (by omega),jBj,jTj (by simp only[ByteArray.size_append,QQ,Qp,List.length_cons,List.length_nil];omega),J,jBj];dsimp only[VJ,Wd];rw[jTj rfl,K,jBj];dsimp only[VJ,Wd];rw[jTj rfl,q3,jBj];dsimp only[VJ,Wd];rw[jTj rfl,z,jBj,t,A,jBj,m,jBj,p,jBj,jTj (VU (by omega)),j,jBj];dsimp only;exact Ql3 (b:=b) (s:=e - v) (mo:=mo) (i:=(i:Int)) rfl (by omega) (by omega) (by omega) (by omega)
 ·obtain⟨q,z,A,m⟩:=Q y;rw[l] at q m;refine⟨N,r2,v,rfl,by rw[l];exact q,?_⟩;rw[l];unfold stF qo;dsimp only;rw[jTj (VU (by omega)),o,jBj,H,jTj (VU (by omega)),jTj (VU (by omega)),k (10*(i:Int)) (by omega),jBj,jTj (by simp only[ByteArray.size_append,QQ,Qp,List.length_cons,List.length_nil];omega),jTj (by simp only[ByteArray.size_append,QQ,Qp,List.length_cons,List.length_nil];omega),k x.2 (by omega),jBj,jTj (by simp only[ByteArray.size_append,QQ,Qp,List.length_cons,List.length_nil];omega),jTj (by simp only[ByteArray.size_append,QQ,Qp,List.length_cons,List.length_nil];omega),jTj (by simp only[ByteArray.size_append,QQ,Qp,List.length_cons,List.length_nil];omega),jTj (by simp only[ByteArray.size_append,QQ,Qp,List.length_cons,List.length_nil];omega),jTj (by simp only[ByteArray.size_append,QQ,Qp,List.length_cons,List.length_nil];omega),jTj (VU (by omega)),k (10*(i:Int)+10) (by omega),jBj,jTj (by simp only[ByteArray.size_append,QQ,Qp,List.length_cons,List.length_nil];omega),jTj (by simp only[ByteArray.size_append,QQ,Qp,List.length_cons,List.length_nil];omega),jTj (VU (by omega)),k (10*(i:Int)+20) (by omega),jBj,jTj (by simp only[ByteArray.size_append,QQ,Qp,List.length_cons,List.length_nil];omega),jTj (by simp only[ByteArray.size_append,QQ,Qp,List.length_cons,List.length_nil];omega),k e (by omega),jBj,jTj (by simp only[ByteArray.size_append,QQ,Qp,List.length_cons,List.length_nil];omega),jTj (by simp only[ByteArray.size_append,QQ,Qp,List.length_cons,List.length_nil];omega),k x.1 (by omega),jBj,jTj (by simp only[ByteArray.size_append,QQ,Qp,List.length_cons,List.length_nil];omega),jFj y,J,jBj];dsimp only[VJ,Wd];rw[jTj rfl,K,jBj];dsimp only[VJ,Wd];rw[jTj rfl,z,jBj,t,A,jBj,m,jBj,p,jBj,jTj (VU (by omega)),j,jBj];dsimp only;exact Ql3 (b:=b) (s:=e - v) (mo:=mo) (i:=(i:Int)) rfl (by omega) (by omega) (by omega) (by omega)
def enA (a:Int):Int:=1+Int.tmod (IntKind.wrap .i64 a) 30
theorem Qlx {a:Int}(h:0<=a/\a<=255):1<=enA a/\enA a<=30:=by unfold enA;rw[Qem (i64 (by omega) (by omega)),Int.tmod_eq_emod_of_nonneg h.1];omega
theorem QmB {n:Nat}(u:3000<=n){a0:jVj}{b d f g h j:Int}(l:0<=b/\b<=255)(m:0<=d/\d<=255)(o:0<=f/\f<=255)(p:0<=g/\g<=255)(q:0<=h/\h<=255)(s:0<=j/\j<=255){i:Nat}(t:i<6)(k:(i:Int)<(a0.length:Int)){x:Qr}(v:el UX a0 (i:Int)=some x)(t1:jVj×Bool)(t4:jVj×Int×Int×Int×Int)(mo kpt:Int)(c:List Ev)(r:Reg) :
  ∃e,(1<=e/\e<=30)/\kB n a0 b d f g h j t1 t4 (stF mo kpt i c r)=qo n t1 t4 (stF mo kpt i c r) x (mkS (Lib.itoa (i:Int))) e:=by
 have z:=Qhn u (a:=(i:Int)) (by omega) (by omega);have l2:=Jm (a:=(i:Int)) (by omega);have L:∀X,(if(⟨#[111]⟩:jSj).size+(mkS (Lib.itoa (i:Int))).size<=9223372036854775807 then if Qg (10*(i:Int)) then X else none else none)=(X:Option (Qmb⊕Int×Int×Int×Int×Bool×Bool×Int×Int×Int×jVj×jVj×jVj×jVj×jVj)):=fun X=>by rw[jTj (by simp only[QQ,Qp,List.length_cons,List.length_nil];omega),jTj (VU (by omega))]
 unfold kB;have y:(stF mo kpt i c r).2.2.1=(i:Int):=rfl;rw[y,jTj k,v,jBj,z,jBj,L];match i,t with
 | 0,_=>exact⟨_,Qlx l,by rw[jTj (by decide)];rfl⟩
 | 1,_=>exact⟨_,Qlx m,by rw[jFj (by decide),jTj (by decide)];rfl⟩
 | 2,_=>exact⟨_,Qlx o,by rw[jFj (by decide),jFj (by decide),jTj (by decide)];rfl⟩
 | 3,_=>exact⟨_,Qlx p,by rw[jFj (by decide),jFj (by decide),jFj (by decide),jTj (by decide)];rfl⟩
 | 4,_=>exact⟨_,Qlx q,by rw[jFj (by decide),jFj (by decide),jFj (by decide),jFj (by decide),jTj (by decide)];rfl⟩
 | 5,_=>exact⟨_,Qlx s,by rw[jFj (by decide),jFj (by decide),jFj (by decide),jFj (by decide),jFj (by decide),jTj (by decide)];rfl⟩
theorem Qd6:Zz 5000=some true:=by kernel_rfl
abbrev QkG:=Int×Int×Int×Bool×Bool×Int×Int×Int×jVj×jVj×jVj×jVj×jVj
def stT (i:Nat)(c:List Ev)(r:Reg):QkG:=((i:Int),r.tick,r.level,r.filled,r.tripped,r.light,r.heat,r.money,c.map Q5,c.map Q5,r.sectors.map Sd,r.mirrors.map Q1,r.offers.map Zs)
def exT (c:List Ev)(r:Reg):Int×Int×Bool×Bool×Int×Int×Int×jVj×jVj×jVj×jVj×jVj:=(r.tick,r.level,r.filled,r.tripped,r.light,r.heat,r.money,c.map Q5,c.map Q5,r.sectors.map Sd,r.mirrors.map Q1,r.offers.map Zs)
def evO:List Ev:=[evK 0 .sector [[110]] [0],evK 1 .mirror [[97],[110]] [0,100],evK 2 .fill [] [0],evK 3 .aim [[97]] [0]]
def K4 (k:Nat):Reg:=QN (evO.take k)
def DidO (s:jSj)(k:Nat):Prop:=∃m:jSj,Qj 5000 s ((evO.take k).map Q5) ((evO.take k).map Q5) (K4 k).tick (K4 k).level (K4 k).filled (K4 k).tripped (K4 k).light (K4 k).heat (K4 k).money ((K4 k).sectors.map Sd) ((K4 k).mirrors.map Q1) ((K4 k).offers.map Zs)=some (m,0,VJ ((evO.take (k+1)).map Q5) ((evO.take (k+1)).map Q5) (K4 (k+1)))
theorem Qj2:∃m:jSj,Qj 5000 ⟨#[115,101,99,116,111,114,32,110,32,48]⟩ [] [] 0 0 false false 0 0 0 [] [] []=some (m,0,VJ ((evO.take 1).map Q5) ((evO.take 1).map Q5) (K4 1)):=⟨mkS [100,111,110,101,32,49],by kernel_rfl⟩
theorem Qj1:DidO ⟨#[109,105,114,114,111,114,32,97,32,110,32,48,32,49,48,48]⟩ 1:=⟨mkS [100,111,110,101,32,50],by kernel_rfl⟩
theorem Qj0:DidO ⟨#[102,105,108,108,32,48]⟩ 2:=⟨mkS [100,111,110,101,32,51],by kernel_rfl⟩
theorem QjZ:DidO ⟨#[97,105,109,32,97,32,48]⟩ 3:=⟨mkS [100,111,110,101,32,52],by kernel_rfl⟩
theorem Qku:K4 4=G5 0 0 true false 0 0 0 []:=by kernel_rfl
theorem Qh4:JD evO (K4 4) 4 0 0 true false 0 0 0 []:=by
 have b:(0:Int)<=0/\(0:Int)<=9999:=by decide
 have d:=wL Qjd (by decide) (k:=.sector) (by decide) (ns:=[[110]]) (vs:=[0]) ⟨rfl,rfl,nm_1 (by decide),vl_1 b⟩ (by kernel_rfl);have e:=wL d (by decide) (k:=.mirror) (by decide) (ns:=[[97],[110]]) (vs:=[0,100]) ⟨rfl,rfl,fun w a=>by
  obtain rfl|a:=List.mem_cons.1 a
  ·decide
  ·rw[List.mem_singleton.1 a];decide,vl_2 b (by decide)⟩ (by kernel_rfl)
 have f:=wL e (by decide) (k:=.fill) (by decide) (ns:=[]) (vs:=[0]) ⟨rfl,rfl,fun w a=>(by cases a),vl_1 b⟩ (by kernel_rfl);have c:=wL f (by decide) (k:=.aim) (by decide) (ns:=[[97]]) (vs:=[0]) ⟨rfl,rfl,nm_1 (by decide),vl_1 b⟩ (by kernel_rfl);have g:=c.reg;rw[<-g] at c;exact⟨c,rfl,Qku⟩
theorem Qmx (k:Ki):5*kn k+5*kv k<=30:=by cases k<;>decide
theorem Qmv {e:Ev}{k:Ki}(a:Good e k)(j:SmE e):(recL e).length<=52:=by
 have g:=ub 4 (e.2.2.1.map dat) fun w f=>by obtain⟨s,d,rfl⟩:=List.mem_map.1 f;have:=j.1 s d;show s.data.toList.length<=4;rw[dlen];exact this
 have h:=ub 4 (e.2.2.2.1.map Lib.itoa) fun w f=>by obtain⟨v,o,rfl⟩:=List.mem_map.1 f;have:=j.2 v o;rw[Ed this.1];exact(qi v.toNat).2.2.2.2 4 (by decide) (by omega)
 have l:=QhZ k;have p:=Qmx k;have i:=a.num;have q:(Lib.itoa e.1).length<=4:=by rw[Ed (by omega)];exact(qi e.1.toNat).2.2.2.2 4 (by decide) (by omega)
 have r:(dat e.2.1).length<=7:=by rw[show dat e.2.1=kw k from a.kind];exact l
 have n:Qf5 e=Lib.itoa e.1++(32::dat e.2.1++Lib.joinTail [32] (e.2.2.1.map dat)++Lib.joinTail [32] (e.2.2.2.1.map Lib.itoa)):=by unfold Qf5 VX;rw[Lib.join_cons];simp[Lib.joinTail]
 have b:=a.names;have c:=a.vals;rw[jlj] at g h;have m:=Qli (Qf5 e);unfold recL;rw[jaj,jaj,List.length_cons,m,n];simp only[jaj,List.length_cons,List.length_nil];rw[b] at g;rw[c] at h;omega
theorem Ql7:∀{l:List Ev},AllG l->(∀e,e∈l->SmE e)->(l.flatMap recL).length<=52*l.length
 | [],_,_=>by simp
 | e::l,h,hs=>by obtain⟨k,b⟩:=h e jMj;have c:=Qmv b (hs e jMj);have d:=Ql7 (l:=l) (fun x a=>h x (jmj _ a)) fun x a=>hs x (jmj _ a);rw[List.flatMap_cons,jaj,List.length_cons];omega
theorem QlP:∀(l a:List Ev) (i:Nat) (c:List Ev),rep i a l=.inr c->Numd i l
 | [],a,i,c,h=>trivial
 | e::l,a,i,c,h=>by
  unfold rep at h;by_cases b:Uk i a e=0
  ·rw[jTj b] at h;obtain⟨k,f,d,_⟩:=jY b;exact⟨d,QlP l _ _ c h⟩
  ·rw[jFj b] at h;cases h
theorem Qmk {n:Nat}(d:3000<=n){c:List Ev}{r:Reg}(h:Jrn c r)(x:c.length<=38):∃s:jSj,(∀(e:jVj) (f g:Int) (i j:Bool) (k m o:Int) (p a b:jVj),QkL n (c.map Q5) e f g i j k m o p a b=some s)/\Qk0 n s=some (0,c.map Q5,c.map Q5,Wd r)/\(s.toList==s.toList)=true:=by have q:=Ql7 h.good h.sml;have v:=Ql1 (l:=c) (t:=[]) h.good (QlP _ _ _ _ h.rep) (by simp);rw[List.append_nil,jTj rfl] at v;have u:=EZ (n:=n) (by omega) c (by omega) (QfU d h);rw[h.rep] at u;refine⟨mkS (c.flatMap recL),fun e f g i j k m o p a b=>Qme d c (by omega) h.good _ _ _ _ _ _ _ _ _ _ _,?_,by simp⟩;unfold Qk0;rw[QlK d (by omega),jBj,v];dsimp only;rw[jTj rfl,u.1,jBj];dsimp only;rw[jTj rfl,h.reg]
def exF (mo kpt:Int)(c:List Ev)(r:Reg):Int×Int×Int×Int×Bool×Bool×Int×Int×Int×jVj×jVj×jVj×jVj×jVj:=(mo,kpt,r.tick,r.level,r.filled,r.tripped,r.light,r.heat,r.money,c.map Q5,c.map Q5,r.sectors.map Sd,r.mirrors.map Q1,r.offers.map Zs)
theorem QlQ {n:Nat}(L:3000<=n){qs:List Qr}(q:OkP qs)(j:qs.length<=6){t1:jVj×Bool}(W:t1.1=qs.map Vf){t4:jVj×Int×Int×Int×Int}{ds:List Int}(X:t4.1=ds.map I){z A C E F G:Int}(O:0<=z/\z<=255)(P:0<=A/\A<=255)(Q:0<=C/\C<=255)(S:0<=E/\E<=255)(T:0<=F/\F<=255)(U:0<=G/\G<=255){m:Int}(hm:0<=m/\m<=30){left:Int} :
  ∀(a:List Qr) (i:Nat) (lv kpt mo:Int) (c:List Ev) (r:Reg) (k:Nat),qs.drop i=a->i<=qs.length->Feas m a lv (ds.drop i) left->0<=lv->0<=kpt->lv+kpt+KL a<=60->(-(100000*(i:Int))<=mo/\mo<=100000*(i:Int))->OfI i (lv+kpt) mo c r->a.length<k ->
   ∃p s b o,OfI qs.length (left+b) o p s/\(0<=left+b/\left+b<=60)/\QU (kB n (qs.map Vf) z A C E F G t1 t4) k (stF mo kpt i c r)=some (exF o b p s)
 | _,_,_,_,_,_,_,0,_,_,_,_,_,_,_,_,h=>absurd h (by omega)
 | [],i,lv,kpt,mo,c,r,k+1,hd,hi,d,h0,hk0,hs,_,hT,_=>by
  have a9:=List.drop_eq_nil_iff.1 hd;have K:i=qs.length:=by omega
  subst K;unfold KL at hs;obtain⟨_,rfl⟩:=d;refine⟨c,r,kpt,mo,hT,by omega,ZP ?_⟩;unfold stF kB;dsimp only;rw[jFj (show ¬(qs.length:Int)<((qs.map Vf).length:Int) by rw[jlj];omega)];rfl
 | x::a,i,lv,kpt,mo,c,r,k+1,hd,hi,d,h0,hk0,hs,hmo,hT,hk=>by
  have l:qs[i]?=some x:=by have:=congrArg List.head? hd;rwa [List.head?_drop] at this
  have f : qs.drop (i+1)=a:=by rw[<-List.drop_drop,hd];rfl
  have b8:=(jGj l).1;obtain⟨u,t,Y,u0,um,ul,d⟩:=d;have J:ds[i]?=some u:=by have:=congrArg List.head? Y;rwa [List.head?_drop] at this
  have H:ds.drop (i+1)=t:=by rw[<-List.drop_drop,Y];rfl
  have M:=q x (jgj l);have b9:=yO (qs:=a) fun y Z=>Qbb q y (by rw[<-f] at Z;exact List.mem_of_mem_drop Z);unfold KL at hs;obtain⟨e,he,hL⟩:=QmB L (a0:=qs.map Vf) O P Q S T U (i:=i) (by omega) (ZF l) (UG unQ l) t1 t4 mo kpt c r;obtain⟨p,s,v,hv,V,g2⟩:=of_B L q j W X l J (lv:=lv) (kpt:=kpt) (mo:=mo) (e:=e) ⟨u0,by omega⟩ he hk0 ⟨h0,by omega⟩ ul (by omega) hT;obtain⟨⟨v1,v2⟩,v3⟩:=UB u e;rw[<-hv] at v1 v2 v3;have a1:0<=x.1*v/\x.1*v<=1000*30:=jI M.1 ⟨by omega,by omega⟩;have a8:0<=2*x.1*(e - v)/\2*x.1*(e - v)<=2000*30:=jI (g:=2*x.1) ⟨by omega,by omega⟩ ⟨by omega,by omega⟩;rw[<-H] at d;have e1:lv+kpt+x.2 - v=(lv+x.2 - u)+(kpt+(u - v)):=by omega
  rw[e1] at V;obtain⟨c2,r2,N,mo2,k1,k2,k3⟩:=QlQ L q j W X O P Q S T U hm a (i+1) (lv+x.2 - u) (kpt+(u - v)) _ p s k f (by omega) d (by omega) (by omega) (by omega) (by omega) V (by simpa using hk);exact⟨c2,r2,N,mo2,k1,k2,(W8 (hL.trans g2)).trans k3⟩
theorem Qmt (i:Nat)(a:Int):(((⟨#[98,105,108,108,32,111]⟩:jSj)++mkS (Lib.itoa (i:Int)))++(⟨#[32]⟩:jSj))++mkS (Lib.itoa a)=mkS (Vs .bill [onm i] [a]) :=
 EV (by simp[ByteArray.data_append,mkS,Vs,kw,onm,Lib.join_cons,Lib.joinTail])
theorem Qms (a:Int):(⟨#[112,97,114,107,32,97,32]⟩:jSj)++mkS (Lib.itoa a)=mkS (Vs .park [[97]] [a]) :=
 EV (by simp[ByteArray.data_append,mkS,Vs,kw,Lib.join_cons,Lib.joinTail])
theorem Qly {n:Nat}(l:3000<=n){a0:jVj}{L:Nat}(o:L<=6)(g:a0.length=L)(t4:jVj×Int×Int×Int×Int)(d:Int×Int×Int×Int×Bool×Bool×Int×Int×Int×jVj×jVj×jVj×jVj×jVj){lv mo:Int}(b:0<=lv/\lv<=60) :
  ∀(m j:Nat) (c:List Ev) (r:Reg) (k:Nat),j+m=L->BlI L j lv mo c r->m<k->∃f i,BlI L L lv mo f i/\QU (kE n a0 t4 d) k (stT j c r)=some (exT f i)
 | _,_,_,_,0,_,_,h=>absurd h (by omega)
 | 0,j,c,r,k+1,hj,hB,_=>by
  have e:j=L:=by omega
  subst e;refine⟨c,r,hB,ZP ?_⟩;unfold stT kE;dsimp only;rw[g,jFj (by omega)];rfl
 | m+1,j,c,r,k+1,hj,hB,hk=>by obtain⟨f,i,⟨y,u⟩,s⟩:=Qmj l o (by omega) b hB (Qmt j (10*(L:Int)+10));obtain⟨q,v,k1,t⟩:=Qly l o g t4 d b m (j+1) f i k (by omega) s (by omega);refine⟨q,v,k1,(W8 ?_).trans t⟩;have p:∀a:Int,0<=a/\a<=999999999->QT n a=some (mkS (Lib.itoa a)):=fun a g=>Qhn l (by omega) (by omega);have l0:=Jm (a:=(j:Int)) (by omega);have x:=Jm (a:=10*(L:Int)+10) (by omega);unfold stT kE;dsimp only;rw[g,jTj (by omega),p (j:Int) (by omega),jBj,jTj (by simp only[QQ,Qp,List.length_cons,List.length_nil];omega),jTj (by simp only[ByteArray.size_append,QQ,Qp,List.length_cons,List.length_nil];omega),p (10*(L:Int)+10) (by omega),jBj,jTj (by simp only[ByteArray.size_append,QQ,Qp,List.length_cons,List.length_nil];omega),u,jBj];dsimp only[VJ,Wd];rw[jTj rfl,jTj (VU (by omega))];rfl
theorem Ql2:OfI 0 (0+0) 0 evO (K4 4):=by refine⟨4,0,0,0,0,[],Qh4,by omega,by decide,by decide,rfl,⟨by decide,by decide⟩,⟨rfl,fun j o h=>by simp at h⟩,rfl⟩
theorem Qlf (qs:List Qr)(o E F G H J K:Int)(b1:0<=o/\o<=255)(b2:0<=E/\E<=255)(b3:0<=F/\F<=255)(b4:0<=G/\G<=255)(b5:0<=H/\H<=255)(b6:0<=J/\J<=255)(b7:0<=K/\K<=255):QkP 5000 (qs.map Vf) o E F G H J K=some true:=by
 have q:3000<=5000:=by decide
 obtain⟨t1,ht,Y⟩:=Qdl (n:=5000) (by decide) qs;unfold QkP;rw[ht,jBj];by_cases Q:t1.2=true;case neg=>rw[jFj Q,Qd6];rfl
 obtain⟨e1,O⟩:=Y Q;obtain⟨f,c⟩:=O.len;have L:=O.ok;have b9:=O.sum;have w1:IntKind.wrap .i64 o=o:=Qem (i64 (by omega) (by omega));have hL:((qs.map Vf).length:Int)=(qs.length:Int):=by rw[jlj]
 obtain⟨m,hm,h⟩:∃m:Int,Int.tmod (IntKind.wrap .i64 o) 31=m/\0<=m/\m<=30:=by rw[w1,Int.tmod_eq_emod_of_nonneg b1.1];exact⟨o % 31,rfl,by omega,by omega⟩
 have X:qs≠[]:=fun e=>by rw[e] at f;simp at f
 have P:=yj (n:=5000) (by decide) (S:=60) (m:=m) (lv:=0) (by decide) (by decide) h (Qbb L) (by omega) X;obtain⟨p,r⟩:=Qeg (S:=60) h.1 (Qbb L) (lv:=0) (Int.le_refl 0) (by omega);have C:=wo (S:=60) (m:=m) (by decide) h _ (Qbb L) 0 (by decide) (by decide);obtain⟨ds,d,left,sp,hB⟩:∃ds d left sp,bst 60 m qs 0=(ds,d,left,sp):=⟨_,_,_,_,rfl⟩
 rw[hB] at P p r C;have u:ds.length=qs.length:=C.len;dsimp only at P p r;subst r;obtain⟨M,r1,kpt,mo,hT,h5,W⟩:=QlQ (n:=5000) q L c (t1:=t1) e1 (t4:=(ds.map I,d,left,0,0)) (ds:=ds) rfl b2 b3 b4 b5 b6 b7 h (left:=left) qs 0 0 0 0 evO (K4 4) 5000 rfl (Nat.zero_le _) p (Int.le_refl 0) (Int.le_refl 0) (by omega) (by decide) Ql2 (by omega);obtain⟨N,g,⟨m5,q5⟩,hK⟩:=Qmi q c h5 hT (Qms (10*(qs.length:Int)));obtain⟨s,b,hE,U⟩:=Qly (n:=5000) q (a0:=qs.map Vf) c (jlj _) (ds.map I,d,left,0,0) (exF mo kpt M r1) h5 qs.length 0 N g 5000 (by omega) hK (by omega);obtain⟨z,t,l,li,mm,os,k,j2,j3,j4,j5,j6⟩:=hE.ex;have a9:=j5.len;rw[List.drop_eq_nil_of_le (by omega)] at j6;have a8 : mm=mo:=by have:mm+0=mo:=j6;omega
 have V:s.length<=38:=by rw[k.2.1];omega
 obtain⟨sl,j,Z,T⟩:=Qmk q k.1 V;have hev:=uF q k.1 (by omega) (s.map Q5) b.tick b.level b.filled b.tripped b.light b.heat b.money (b.sectors.map Sd) (b.mirrors.map Q1) (b.offers.map Zs);have y:=QlW (n:=5000) (by decide) s (by omega) (QfU q k.1);rw[k.1.rep] at y;have A : QkT 5000 (s.map Q5)=some (b.tick,b.level,b.filled,b.tripped,b.light,b.heat,b.money,b.sectors.map Sd,b.mirrors.map Q1,b.offers.map Zs,0,0):=by rw[y,<-k.1.reg];rfl
 have x:b.money=mo:=by rw[k.2.2];exact a8
 have b8:b.heat=1000000*(left+kpt):=by rw[k.2.2];rfl
 have tx:∀a:Int,0<=a/\a<=999999999->QT 5000 a=some (mkS (Lib.itoa a)):=fun a ha=>Qhn q (by omega) (by omega);have l0:=Jm (a:=10*(qs.length:Int)) (by omega);obtain⟨m1,q1⟩:=Qj2;obtain⟨m2,q2⟩:=Qj1;obtain⟨m3,q3⟩:=Qj0;obtain⟨m4,q4⟩:=QjZ;have v : QU (kB 5000 (qs.map Vf) E F G H J K t1 (ds.map I,d,left,0,0)) 5000 (0,0,0,(K4 4).tick,(K4 4).level,(K4 4).filled,(K4 4).tripped,(K4 4).light,(K4 4).heat,(K4 4).money,(evO.take 4).map Q5,(evO.take 4).map Q5,(K4 4).sectors.map Sd,(K4 4).mirrors.map Q1,(K4 4).offers.map Zs)=some (exF mo kpt M r1):=W;have i : QU (kE 5000 (qs.map Vf) (ds.map I,d,left,0,0) (exF mo kpt M r1)) 5000 (0,g.tick,g.level,g.filled,g.tripped,g.light,g.heat,g.money,N.map Q5,N.map Q5,g.sectors.map Sd,g.mirrors.map Q1,g.offers.map Zs)=some (exT s b):=U;rw[jTj Q,hL,e1,jTj (Qdd (by decide) (by rw[jlj];omega)),hm,P,jBj,q1,jBj];dsimp only[VJ,Wd];rw[jTj rfl,q2,jBj];dsimp only[VJ,Wd];rw[jTj rfl,q3,jBj];dsimp only[VJ,Wd];rw[jTj rfl,q4,jBj];dsimp only[VJ,Wd];rw[jTj rfl,jTj rfl,jTj (show((ds.map I).length:Int)=(qs.length:Int) by rw[jlj,u]),jTj rfl,v,jBj];rw[jTj (VU (by omega)),jTj (VU (by omega)),tx (10*(qs.length:Int)) (by omega),jBj,jTj (by simp only[QQ,Qp,List.length_cons,List.length_nil];omega)];unfold exF at i ⊢;dsimp only;rw[q5,jBj];dsimp only[VJ,Wd];rw[jTj rfl,i,jBj];dsimp only[exT];rw[hev,jBj,A,jBj,j,jBj,Z,jBj];dsimp only[Wd];rw[jTj rfl,jTj x,jTj (VU (by omega)),jTj (VU (by omega)),jTj (by omega),jTj rfl,j,jBj,jTj T,Qd6];rfl
theorem Qla (l:jVj)(T:okAs [(false,[.lst true [.int .i64,.int .i64]]),(false,[.int .u8]),(true,[.int .u8,.int .u8,.int .u8,.int .u8,.int .u8,.int .u8])] l):Computes cx 4 l (.v (.bool true)):=by
 obtain⟨d1,U,rfl,X,b⟩:=QeA T;obtain⟨a,rfl,l0,J⟩:=Qkz (QhJ X);obtain⟨a0,rfl,b0⟩:=QhU (enc:=fun x:Int×Int=>(.agg [.v (.int .i64 x.1),.v (.int .i64 x.2)]:D)) (p:=fun x:Int×Int=>(Qg x.1)/\(Qg x.2)) (es:=a) (fun e S=>by obtain⟨cs,rfl,q⟩:=J e S;obtain⟨d2,r2,rfl,Y,q2⟩:=QhH q;obtain⟨x0,rfl,b0⟩:=ok_i Y;obtain⟨d3,r3,rfl,Z,q3⟩:=QhH q2;obtain⟨x1,rfl,b1⟩:=ok_i Z;rw[Qkx q3];exact⟨(x0,x1),rfl,⟨QjF b0,QjF b1⟩⟩)
 rw[jlj] at l0;obtain⟨d4,V,rfl,p4,c⟩:=QeA b;obtain⟨m,rfl,K⟩:=ok_i (QhJ p4);have b1:=u8_b K;obtain⟨d5,W,rfl,p5,d⟩:=QeA c;obtain⟨G,rfl,q6⟩:=QmA p5;obtain⟨d7,r7,rfl,p7,q7⟩:=QhH q6;obtain⟨n,rfl,L⟩:=ok_i p7;have y:=u8_b L;obtain⟨d8,r8,rfl,p8,q8⟩:=QhH q7;obtain⟨o,rfl,M⟩:=ok_i p8;have z:=u8_b M;obtain⟨d9,r9,rfl,p9,q9⟩:=QhH q8;obtain⟨r,rfl,N⟩:=ok_i p9;have A:=u8_b N;obtain⟨H,a8,rfl,f,i⟩:=QhH q9;obtain⟨s,rfl,O⟩:=ok_i f;have C:=u8_b O;obtain⟨d11,a9,rfl,g,j⟩:=QhH i;obtain⟨t,rfl,P⟩:=ok_i g;have E:=u8_b P;obtain⟨d12,b8,rfl,h,k⟩:=QhH j;obtain⟨u,rfl,Q⟩:=ok_i h;have F:=u8_b Q;cases Qkx k;cases Qj3 d;exact Qk9 (Qlf a0 m n o r s t u b1 y z A C E F)
end Go.Proofs.YthdghjjahodkaaaGreatDoor
