/- The fixed examples: what the program answers at them, by runs in which nothing is symbolic. Printed by wake.py. -/
import Derived.Test.YtiefmhacicemhaaGreatDoorWake1
import Derived.Test.YtiefmhacicemhaaGreatDoorWake2
import Derived.Test.YtiefmhacicemhaaGreatDoorWake3
import Derived.Test.YtiefmhacicemhaaGreatDoorWake4
set_option linter.unusedVariables false
set_option linter.unusedSimpArgs false
set_option linter.unnecessarySimpa false
set_option maxRecDepth 100000
namespace Go.Proofs.YtiefmhacicemhaaGreatDoor
open Go.SX
def kIn:List (Nat×List D×D) :=
 [(15,[.lst true 2 [.agg [I 0,I 0],.agg [I 4,I 0],.agg [I 4,I 4],.agg [I 0,I 4]]],.tup [I 32,I 0]),
 (17,[.lst true 2 [.agg [I 0,I 0],.agg [I 4,I 0],.agg [I 4,I 4],.agg [I 0,I 4]],.agg [I 2,I 2]],.tup [I 1,I 0]),
 (17,[.lst true 2 [.agg [I 0,I 0],.agg [I 4,I 0],.agg [I 4,I 4],.agg [I 0,I 4]],.agg [I 4,I 2]],.tup [I 0,I 0]),
 (17,[.lst true 2 [.agg [I 0,I 0],.agg [I 4,I 0],.agg [I 4,I 4],.agg [I 0,I 4]],.agg [I 5,I 2]],.tup [I (-1),I 0]),
 (6,[.lst true 2 [.agg [I 0,I 0],.agg [I 4,I 0],.agg [I 2,I 1],.agg [I 4,I 4],.agg [I 0,I 4],.agg [I 2,I 2]]],.tup [.lst false 2 [.agg [I 0,I 0],.agg [I 4,I 0],.agg [I 4,I 4],.agg [I 0,I 4]],I 0]),
 (8,[.lst true 2 [.agg [I 0,I 0],.agg [I 4,I 0],.agg [I 4,I 4],.agg [I 0,I 4]],.lst true 2 [.agg [I 4,I 0],.agg [I 8,I 0],.agg [I 8,I 4],.agg [I 4,I 4]]],.tup [.agg [I 0,I 1],I 0]),
 (18,[.agg [.v (.string ⟨#[97]⟩),I 0,I 0,I 10,I 4,I 0,I 0,I 0,I 4,I 0]],.tup [.agg [I 0,I 0,I 16],I 0]),
 (20,[.agg [.v (.string ⟨#[97]⟩),I 0,I 0,I 10,I 4,I 0,I 0,I 0,I 4,I 0]],.tup [.agg [I (-4),I (-4),I 10,I 4,I (-4),I 10,I 4,I 4,I 10,I (-4),I 4,I 10],I 0]),
 (21,[.agg [.v (.string ⟨#[97]⟩),I 0,I 0,I 10,I 4,I 0,I 0,I 0,I 4,I 0],.agg [I 0,I 3,I 4]],.tup [I 1,.agg [I 16,I 25],I 0]),
 (22,[.agg [.v (.string ⟨#[97]⟩),I 0,I 0,I 10,I 4,I 0,I 0,I 0,I 4,I 0],.agg [I 1,I 0,I 2]],.tup [.lst false 2 [.agg [I (-18),I (-8)],.agg [I (-2),I (-8)],.agg [I (-2),I 8],.agg [I (-18),I 8]],I 0]),
 (23,[.agg [.v (.string ⟨#[97]⟩),I 0,I 0,I 10,I 4,I 0,I 0,I 0,I 4,I 0],I 2],.tup [.lst false 3 [.agg [I (-4),I (-4),I 20],.agg [I 4,I (-4),I 20],.agg [I (-4),I 4,I 20],.agg [I 4,I 4,I 20]],I 0]),
 (26,[.lst true 10 [.agg [.v (.string ⟨#[97]⟩),I 0,I 0,I 10,I 4,I 0,I 0,I 0,I 4,I 0],.agg [.v (.string ⟨#[98]⟩),I 0,I 0,I 20,I 2,I 0,I 0,I 0,I 4,I 0]],I 0,.agg [I 0,I 0,I 1],I 2],.tup [.lst false 1 [B true,B true,B true,B true],I 0]),
 (28,[.lst true 10 [.agg [.v (.string ⟨#[97]⟩),I 0,I 0,I 10,I 4,I 0,I 0,I 0,I 4,I 0],.agg [.v (.string ⟨#[98]⟩),I 0,I 0,I 20,I 2,I 0,I 0,I 0,I 4,I 0],.agg [.v (.string ⟨#[99]⟩),I 30,I 0,I 10,I 4,I 0,I 0,I 0,I 4,I 0]],I 0,I 2],.tup [.lst false 1 [I 1,I 2],I 0]),
 (30,[.lst true 2 [.agg [I 1,I 2],.agg [I 2,I 3],.agg [I 3,I 4]]],.tup [.agg [I 1,I 4],I 0]),
 (31,[.lst true 3 [.agg [I 8,I 16,I 2],.agg [I 16,I 16,I 1]]],.tup [.agg [I 2,I 3],I 0]),
 (32,[.lst true 10 [.agg [.v (.string ⟨#[97]⟩),I 0,I 0,I 10,I 4,I 0,I 0,I 0,I 4,I 0]]],.tup [.v (.string ⟨#[109,105,114,114,111,114,32,97,32,48,32,48,32,49,48,32,52,32,48,32,48,32,48,32,52,32,48,10]⟩),I 0]),
 (33,[.agg [.v (.string ⟨#[98]⟩),I 0,I 0,I 20,I 2,I 0,I 0,I 0,I 4,I 0],I 1,.agg [I 2,I 0,I 10],.agg [I 0,I 0,I 1],B false],.tup [B true,I 0]),
 (33,[.agg [.v (.string ⟨#[98]⟩),I 0,I 0,I 20,I 2,I 0,I 0,I 0,I 4,I 0],I 1,.agg [I 2,I 0,I 10],.agg [I 0,I 0,I 10],B true],.tup [B false,I 0]),
 (27,[.lst true 10 [.agg [.v (.string ⟨#[97]⟩),I 0,I 0,I 10,I 4,I 0,I 0,I 0,I 4,I 0],.agg [.v (.string ⟨#[98]⟩),I 0,I 0,I 20,I 2,I 0,I 0,I 0,I 4,I 0]],I 0,.agg [I 0,I 0,I 1],.agg [I 100,I 0,I 60],I 4],.tup [.agg [I 8,I 0,I 8],I 0]),
 (27,[.lst true 10 [.agg [.v (.string ⟨#[97]⟩),I 0,I 0,I 10,I 4,I 0,I 0,I 0,I 4,I 0],.agg [.v (.string ⟨#[98]⟩),I 0,I 0,I 20,I 2,I 0,I 0,I 0,I 4,I 0]],I 0,.agg [I 0,I 0,I 1],.agg [I 0,I 0,I 60],I 4],.tup [.agg [I 8,I 0,I 8],I 0]),
 (76,[.lst true 10 [.agg [.v (.string ⟨#[97]⟩),I 0,I 0,I 10,I 4,I 0,I 0,I 0,I 4,I 0],.agg [.v (.string ⟨#[98]⟩),I 0,I 0,I 20,I 2,I 0,I 0,I 0,I 4,I 0],.agg [.v (.string ⟨#[99]⟩),I 30,I 0,I 10,I 4,I 0,I 0,I 0,I 4,I 0]],I 0,.agg [I 0,I 0,I 1],.agg [I 100,I 0,I 60],I 4],.agg [I 8,I 0,I 8]),
 (76,[.lst true 10 [.agg [.v (.string ⟨#[97]⟩),I 0,I 0,I 10,I 4,I 0,I 0,I 0,I 4,I 0],.agg [.v (.string ⟨#[98]⟩),I 0,I 0,I 20,I 2,I 0,I 0,I 0,I 4,I 0],.agg [.v (.string ⟨#[99]⟩),I 30,I 0,I 10,I 4,I 0,I 0,I 0,I 4,I 0]],I 1,.agg [I 0,I 0,I 1],.agg [I 100,I 0,I 60],I 4],.agg [I 0,I 0,I 16]),
 (76,[.lst true 10 [.agg [.v (.string ⟨#[97]⟩),I 0,I 0,I 10,I 4,I 0,I 0,I 0,I 4,I 0],.agg [.v (.string ⟨#[98]⟩),I 0,I 0,I 20,I 2,I 0,I 0,I 0,I 4,I 0],.agg [.v (.string ⟨#[99]⟩),I 30,I 0,I 10,I 4,I 0,I 0,I 0,I 4,I 0]],I 2,.agg [I 0,I 0,I 1],.agg [I 100,I 0,I 60],I 4],.agg [I 0,I 0,I 16])]
theorem Qdc:AllK cx kIn:=⟨QaC,yK,jl,jk,QaA,yL,ji,zD,jn,jh,jm,QaB,Qav,Qco,Qcm,yI,yJ,jj,Qcn,Qaz,Qay,Qax,Qaw,trivial⟩
theorem runI {n:Nat} {f:FuncId} {args:List D} {r:D} {ob:List Prop} (h:QR false n (cx.know (orK KF (tabK kIn))) f args []=some (r,ob)) (ho:All ob):Computes cx f args r:=runK Ew Gj (QbV Qb7 (Qae Qdc)) h ho
theorem Qbg:Computes cx 29 [.lst true 10 [.agg [.v (.string ⟨#[97]⟩),I 0,I 0,I 10,I 4,I 0,I 0,I 0,I 4,I 0],.agg [.v (.string ⟨#[98]⟩),I 0,I 0,I 20,I 2,I 0,I 0,I 0,I 4,I 0],.agg [.v (.string ⟨#[99]⟩),I 30,I 0,I 10,I 4,I 0,I 0,I 0,I 4,I 0]],.agg [I 0,I 0,I 1],.agg [I 100,I 0,I 60],I 4] (.tup [.lst false 1 [I 1,I 2,I 0],I 0]):=runI (n:=100000) (ob:=[]) (by kernel_rfl) trivial
def kAll:List (Nat×List D×D) :=
 [(15,[.lst true 2 [.agg [I 0,I 0],.agg [I 4,I 0],.agg [I 4,I 4],.agg [I 0,I 4]]],.tup [I 32,I 0]),
 (17,[.lst true 2 [.agg [I 0,I 0],.agg [I 4,I 0],.agg [I 4,I 4],.agg [I 0,I 4]],.agg [I 2,I 2]],.tup [I 1,I 0]),
 (17,[.lst true 2 [.agg [I 0,I 0],.agg [I 4,I 0],.agg [I 4,I 4],.agg [I 0,I 4]],.agg [I 4,I 2]],.tup [I 0,I 0]),
 (17,[.lst true 2 [.agg [I 0,I 0],.agg [I 4,I 0],.agg [I 4,I 4],.agg [I 0,I 4]],.agg [I 5,I 2]],.tup [I (-1),I 0]),
 (6,[.lst true 2 [.agg [I 0,I 0],.agg [I 4,I 0],.agg [I 2,I 1],.agg [I 4,I 4],.agg [I 0,I 4],.agg [I 2,I 2]]],.tup [.lst false 2 [.agg [I 0,I 0],.agg [I 4,I 0],.agg [I 4,I 4],.agg [I 0,I 4]],I 0]),
 (8,[.lst true 2 [.agg [I 0,I 0],.agg [I 4,I 0],.agg [I 4,I 4],.agg [I 0,I 4]],.lst true 2 [.agg [I 4,I 0],.agg [I 8,I 0],.agg [I 8,I 4],.agg [I 4,I 4]]],.tup [.agg [I 0,I 1],I 0]),
 (18,[.agg [.v (.string ⟨#[97]⟩),I 0,I 0,I 10,I 4,I 0,I 0,I 0,I 4,I 0]],.tup [.agg [I 0,I 0,I 16],I 0]),
 (20,[.agg [.v (.string ⟨#[97]⟩),I 0,I 0,I 10,I 4,I 0,I 0,I 0,I 4,I 0]],.tup [.agg [I (-4),I (-4),I 10,I 4,I (-4),I 10,I 4,I 4,I 10,I (-4),I 4,I 10],I 0]),
 (21,[.agg [.v (.string ⟨#[97]⟩),I 0,I 0,I 10,I 4,I 0,I 0,I 0,I 4,I 0],.agg [I 0,I 3,I 4]],.tup [I 1,.agg [I 16,I 25],I 0]),
 (22,[.agg [.v (.string ⟨#[97]⟩),I 0,I 0,I 10,I 4,I 0,I 0,I 0,I 4,I 0],.agg [I 1,I 0,I 2]],.tup [.lst false 2 [.agg [I (-18),I (-8)],.agg [I (-2),I (-8)],.agg [I (-2),I 8],.agg [I (-18),I 8]],I 0]),
 (23,[.agg [.v (.string ⟨#[97]⟩),I 0,I 0,I 10,I 4,I 0,I 0,I 0,I 4,I 0],I 2],.tup [.lst false 3 [.agg [I (-4),I (-4),I 20],.agg [I 4,I (-4),I 20],.agg [I (-4),I 4,I 20],.agg [I 4,I 4,I 20]],I 0]),
 (26,[.lst true 10 [.agg [.v (.string ⟨#[97]⟩),I 0,I 0,I 10,I 4,I 0,I 0,I 0,I 4,I 0],.agg [.v (.string ⟨#[98]⟩),I 0,I 0,I 20,I 2,I 0,I 0,I 0,I 4,I 0]],I 0,.agg [I 0,I 0,I 1],I 2],.tup [.lst false 1 [B true,B true,B true,B true],I 0]),
 (28,[.lst true 10 [.agg [.v (.string ⟨#[97]⟩),I 0,I 0,I 10,I 4,I 0,I 0,I 0,I 4,I 0],.agg [.v (.string ⟨#[98]⟩),I 0,I 0,I 20,I 2,I 0,I 0,I 0,I 4,I 0],.agg [.v (.string ⟨#[99]⟩),I 30,I 0,I 10,I 4,I 0,I 0,I 0,I 4,I 0]],I 0,I 2],.tup [.lst false 1 [I 1,I 2],I 0]),
 (30,[.lst true 2 [.agg [I 1,I 2],.agg [I 2,I 3],.agg [I 3,I 4]]],.tup [.agg [I 1,I 4],I 0]),
 (31,[.lst true 3 [.agg [I 8,I 16,I 2],.agg [I 16,I 16,I 1]]],.tup [.agg [I 2,I 3],I 0]),
 (32,[.lst true 10 [.agg [.v (.string ⟨#[97]⟩),I 0,I 0,I 10,I 4,I 0,I 0,I 0,I 4,I 0]]],.tup [.v (.string ⟨#[109,105,114,114,111,114,32,97,32,48,32,48,32,49,48,32,52,32,48,32,48,32,48,32,52,32,48,10]⟩),I 0]),
 (33,[.agg [.v (.string ⟨#[98]⟩),I 0,I 0,I 20,I 2,I 0,I 0,I 0,I 4,I 0],I 1,.agg [I 2,I 0,I 10],.agg [I 0,I 0,I 1],B false],.tup [B true,I 0]),
 (33,[.agg [.v (.string ⟨#[98]⟩),I 0,I 0,I 20,I 2,I 0,I 0,I 0,I 4,I 0],I 1,.agg [I 2,I 0,I 10],.agg [I 0,I 0,I 10],B true],.tup [B false,I 0]),
 (27,[.lst true 10 [.agg [.v (.string ⟨#[97]⟩),I 0,I 0,I 10,I 4,I 0,I 0,I 0,I 4,I 0],.agg [.v (.string ⟨#[98]⟩),I 0,I 0,I 20,I 2,I 0,I 0,I 0,I 4,I 0]],I 0,.agg [I 0,I 0,I 1],.agg [I 100,I 0,I 60],I 4],.tup [.agg [I 8,I 0,I 8],I 0]),
 (27,[.lst true 10 [.agg [.v (.string ⟨#[97]⟩),I 0,I 0,I 10,I 4,I 0,I 0,I 0,I 4,I 0],.agg [.v (.string ⟨#[98]⟩),I 0,I 0,I 20,I 2,I 0,I 0,I 0,I 4,I 0]],I 0,.agg [I 0,I 0,I 1],.agg [I 0,I 0,I 60],I 4],.tup [.agg [I 8,I 0,I 8],I 0]),
 (76,[.lst true 10 [.agg [.v (.string ⟨#[97]⟩),I 0,I 0,I 10,I 4,I 0,I 0,I 0,I 4,I 0],.agg [.v (.string ⟨#[98]⟩),I 0,I 0,I 20,I 2,I 0,I 0,I 0,I 4,I 0],.agg [.v (.string ⟨#[99]⟩),I 30,I 0,I 10,I 4,I 0,I 0,I 0,I 4,I 0]],I 0,.agg [I 0,I 0,I 1],.agg [I 100,I 0,I 60],I 4],.agg [I 8,I 0,I 8]),
 (76,[.lst true 10 [.agg [.v (.string ⟨#[97]⟩),I 0,I 0,I 10,I 4,I 0,I 0,I 0,I 4,I 0],.agg [.v (.string ⟨#[98]⟩),I 0,I 0,I 20,I 2,I 0,I 0,I 0,I 4,I 0],.agg [.v (.string ⟨#[99]⟩),I 30,I 0,I 10,I 4,I 0,I 0,I 0,I 4,I 0]],I 1,.agg [I 0,I 0,I 1],.agg [I 100,I 0,I 60],I 4],.agg [I 0,I 0,I 16]),
 (76,[.lst true 10 [.agg [.v (.string ⟨#[97]⟩),I 0,I 0,I 10,I 4,I 0,I 0,I 0,I 4,I 0],.agg [.v (.string ⟨#[98]⟩),I 0,I 0,I 20,I 2,I 0,I 0,I 0,I 4,I 0],.agg [.v (.string ⟨#[99]⟩),I 30,I 0,I 10,I 4,I 0,I 0,I 0,I 4,I 0]],I 2,.agg [I 0,I 0,I 1],.agg [I 100,I 0,I 60],I 4],.agg [I 0,I 0,I 16]),
 (29,[.lst true 10 [.agg [.v (.string ⟨#[97]⟩),I 0,I 0,I 10,I 4,I 0,I 0,I 0,I 4,I 0],.agg [.v (.string ⟨#[98]⟩),I 0,I 0,I 20,I 2,I 0,I 0,I 0,I 4,I 0],.agg [.v (.string ⟨#[99]⟩),I 30,I 0,I 10,I 4,I 0,I 0,I 0,I 4,I 0]],.agg [I 0,I 0,I 1],.agg [I 100,I 0,I 60],I 4],.tup [.lst false 1 [I 1,I 2,I 0],I 0])]
theorem QcK:AllK cx kAll:=⟨QaC,yK,jl,jk,QaA,yL,ji,zD,jn,jh,jm,QaB,Qav,Qco,Qcm,yI,yJ,jj,Qcn,Qaz,Qay,Qax,Qaw,Qbg,trivial⟩
def Ke (n:Nat):Option Bool:=some true
theorem Qdh:Computes cx 4 [] (B true):=runK Ew Gj (QbV Qb7 (Qae QcK)) (n:=100000) (ob:=[]) (by kernel_rfl) trivial
theorem ZC {n:Nat} {r:Bool} (h:Ke n=some r):Computes cx 4 [] (B r):=by
 cases h
 exact Qdh
end Go.Proofs.YtiefmhacicemhaaGreatDoor
