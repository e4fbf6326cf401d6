/- Own texts, merged: EvArgs, LogsArgs. -/
import Derived.Test.YtljabneifpkbjaaGreatDoorArgs
import Derived.Test.YtljabneifpkbjaaGreatDoorPChk
import Derived.Test.YtljabneifpkbjaaGreatDoorLogsLaw
set_option linter.unusedVariables false
set_option linter.unusedSimpArgs false
set_option linter.unnecessarySimpa false
namespace Go.Proofs.YtljabneifpkbjaaGreatDoor
open Go.SX
theorem Qb7 {d:D} (h:Kd.ok (.lst false [.str]) d):∃ l:List jSj,d=.lst false 1 (l.map Sd):=by
 obtain ⟨es,rfl,l,h⟩:=Qdi h
 obtain ⟨a,rfl,b⟩:=yE (enc:=Sd) (p:=fun _=>True) (es:=es) (fun e he=>by
  obtain ⟨x,rfl,b⟩:=ok_s (h e he)
  exact ⟨x,rfl,trivial⟩)
 exact ⟨a,rfl⟩
theorem Qda {d:D} (h:Kd.ok (.lst false [.int .i64]) d):∃ l:List Int,d=.lst false 1 (l.map I):=by
 obtain ⟨es,rfl,l,h⟩:=Qdi h
 obtain ⟨a,rfl,b⟩:=yE (enc:=I) (p:=fun _=>True) (es:=es) (fun e he=>by
  obtain ⟨x,rfl,b⟩:=ok_i (h e he)
  exact ⟨x,rfl,trivial⟩)
 exact ⟨a,rfl⟩
theorem QdV {cs:jVj} (h:Kd.oks [.int .i64,.str,.lst false [.str],.lst false [.int .i64],.str] cs):∃ e:Ev,D.agg cs=Zr e:=by
 obtain ⟨d1,r1,rfl,p1,q1⟩:=ky h
 obtain ⟨a,rfl,_⟩:=ok_i p1
 obtain ⟨d2,r2,rfl,p2,q2⟩:=ky q1
 obtain ⟨b,rfl,_⟩:=ok_s p2
 obtain ⟨d3,r3,rfl,p3,q3⟩:=ky q2
 obtain ⟨c,rfl⟩:=Qb7 p3
 obtain ⟨d4,r4,rfl,p4,q4⟩:=ky q3
 obtain ⟨e,rfl⟩:=Qda p4
 obtain ⟨d5,r5,rfl,p5,q5⟩:=ky q4
 obtain ⟨f,rfl,_⟩:=ok_s p5
 rw [QdP q5]
 exact ⟨(a,b,c,e,f),rfl⟩
end Go.Proofs.YtljabneifpkbjaaGreatDoor
namespace Go.Proofs.YtljabneifpkbjaaGreatDoor
open Go.SX
theorem Qlk (Ds:jVj) (hh:okAs [(true,[.int .i64,.str,.lst false [.str],.lst false [.int .i64],.str]),(false,[.str])] Ds):Computes cx 9 Ds (.v (.bool true)):=by
 obtain ⟨d1,l1,rfl,p1,h1⟩:=Qcn hh
 obtain ⟨cs,rfl,pe⟩:=Qg3 p1
 obtain ⟨x1,he⟩:=QdV pe
 rw [he]
 obtain ⟨d2,l2,rfl,p2,h2⟩:=Qcn h1
 obtain ⟨x2,rfl,_⟩:=ok_s (Qdj p2)
 cases Qds h2
 exact QkF (QlB x1 x2)
end Go.Proofs.YtljabneifpkbjaaGreatDoor
