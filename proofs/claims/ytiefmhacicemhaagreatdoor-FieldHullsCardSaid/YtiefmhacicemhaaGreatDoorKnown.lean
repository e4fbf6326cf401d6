/- What is known of some calls, for runs in which nothing is symbolic. Printed by kprint.py. -/
import Derived.Test.YtiefmhacicemhaaGreatDoorGen3
set_option linter.unusedVariables false
set_option linter.unusedSimpArgs false
set_option linter.unnecessarySimpa false
set_option maxRecDepth 10000
namespace Go.Proofs.YtiefmhacicemhaaGreatDoor
open Go.SX
def W3:List D→Option D
 | [.agg [c0,c1,c2,c3,c4,c5,c6,c7,c8,c9],c10,.agg [c11,c12,c13,c14,c15,c16,c17]]=>(Xx c0).bind fun y0=>(QB .i64 c1).bind fun y1=>(QB .i64 c2).bind fun y2=>(QB .i64 c3).bind fun y3=>(QB .i64 c4).bind fun y4=>(QB .i64 c5).bind fun y5=>(QB .i64 c6).bind fun y6=>(QB .i64 c7).bind fun y7=>(QB .i64 c8).bind fun y8=>(QB .i64 c9).bind fun y9=>(QB .i64 c10).bind fun y10=>(QB .i64 c11).bind fun y11=>(QB .i64 c12).bind fun y12=>(QB .i64 c13).bind fun y13=>(QB .i64 c14).bind fun y14=>(QB .i64 c15).bind fun y15=>(QB .i64 c16).bind fun y16=>(jA c17).bind fun y17=>(W6 1000 y0 y1 y2 y3 y4 y5 y6 y7 y8 y9 y10 y11 y12 y13 y14 y15 y16 y17).bind fun r=>some (B r)
 | _=>none
theorem JM (ds:List D) (q:D) (h:W3 ds=some q):Computes cx 86 ds q:=by
 unfold W3 at h
 split at h
 case h_2=>cases h
 obtain ⟨y0,ec0,h⟩:=Qi h
 obtain ⟨y1,ec1,h⟩:=Qi h
 obtain ⟨y2,ec2,h⟩:=Qi h
 obtain ⟨y3,ec3,h⟩:=Qi h
 obtain ⟨y4,ec4,h⟩:=Qi h
 obtain ⟨y5,ec5,h⟩:=Qi h
 obtain ⟨y6,ec6,h⟩:=Qi h
 obtain ⟨y7,ec7,h⟩:=Qi h
 obtain ⟨y8,ec8,h⟩:=Qi h
 obtain ⟨y9,ec9,h⟩:=Qi h
 obtain ⟨y10,ec10,h⟩:=Qi h
 obtain ⟨y11,ec11,h⟩:=Qi h
 obtain ⟨y12,ec12,h⟩:=Qi h
 obtain ⟨y13,ec13,h⟩:=Qi h
 obtain ⟨y14,ec14,h⟩:=Qi h
 obtain ⟨y15,ec15,h⟩:=Qi h
 obtain ⟨y16,ec16,h⟩:=Qi h
 obtain ⟨y17,ec17,h⟩:=Qi h
 obtain ⟨r,hr,h⟩:=Qi h
 cases h
 rw [J6 ec0,Qm ec1,Qm ec2,Qm ec3,Qm ec4,Qm ec5,Qm ec6,Qm ec7,Qm ec8,Qm ec9,Qm ec10,Qm ec11,Qm ec12,Qm ec13,Qm ec14,Qm ec15,Qm ec16,yV ec17]
 exact JY hr
def W4:List D→Option D
 | [.agg [c0,c1,c2,c3,c4,c5,c6,c7,c8,c9]]=>(Xx c0).bind fun y0=>(QB .i64 c1).bind fun y1=>(QB .i64 c2).bind fun y2=>(QB .i64 c3).bind fun y3=>(QB .i64 c4).bind fun y4=>(QB .i64 c5).bind fun y5=>(QB .i64 c6).bind fun y6=>(QB .i64 c7).bind fun y7=>(QB .i64 c8).bind fun y8=>(QB .i64 c9).bind fun y9=>(W7 1000 y0 y1 y2 y3 y4 y5 y6 y7 y8 y9).bind fun r=>some (I r)
 | _=>none
theorem JN (ds:List D) (q:D) (h:W4 ds=some q):Computes cx 60 ds q:=by
 unfold W4 at h
 split at h
 case h_2=>cases h
 obtain ⟨y0,ec0,h⟩:=Qi h
 obtain ⟨y1,ec1,h⟩:=Qi h
 obtain ⟨y2,ec2,h⟩:=Qi h
 obtain ⟨y3,ec3,h⟩:=Qi h
 obtain ⟨y4,ec4,h⟩:=Qi h
 obtain ⟨y5,ec5,h⟩:=Qi h
 obtain ⟨y6,ec6,h⟩:=Qi h
 obtain ⟨y7,ec7,h⟩:=Qi h
 obtain ⟨y8,ec8,h⟩:=Qi h
 obtain ⟨y9,ec9,h⟩:=Qi h
 obtain ⟨r,hr,h⟩:=Qi h
 cases h
 rw [J6 ec0,Qm ec1,Qm ec2,Qm ec3,Qm ec4,Qm ec5,Qm ec6,Qm ec7,Qm ec8,Qm ec9]
 exact JZ hr
def J4:List D→Option D
 | [.agg [c0,c1,c2],.agg [c3,c4,c5]]=>(QB .i64 c0).bind fun y0=>(QB .i64 c1).bind fun y1=>(QB .i64 c2).bind fun y2=>(QB .i64 c3).bind fun y3=>(QB .i64 c4).bind fun y4=>(QB .i64 c5).bind fun y5=>(Zy 1000 y0 y1 y2 y3 y4 y5).bind fun r=>some (I r)
 | _=>none
theorem yq (ds:List D) (q:D) (h:J4 ds=some q):Computes cx 64 ds q:=by
 unfold J4 at h
 split at h
 case h_2=>cases h
 obtain ⟨y0,ec0,h⟩:=Qi h
 obtain ⟨y1,ec1,h⟩:=Qi h
 obtain ⟨y2,ec2,h⟩:=Qi h
 obtain ⟨y3,ec3,h⟩:=Qi h
 obtain ⟨y4,ec4,h⟩:=Qi h
 obtain ⟨y5,ec5,h⟩:=Qi h
 obtain ⟨r,hr,h⟩:=Qi h
 cases h
 rw [Qm ec0,Qm ec1,Qm ec2,Qm ec3,Qm ec4,Qm ec5]
 exact Qq hr
def Kc:List D→Option D
 | [.agg [c0,c1,c2],.agg [c3,c4,c5]]=>(QB .i64 c0).bind fun y0=>(QB .i64 c1).bind fun y1=>(QB .i64 c2).bind fun y2=>(QB .i64 c3).bind fun y3=>(QB .i64 c4).bind fun y4=>(QB .i64 c5).bind fun y5=>(Wf 1000 y0 y1 y2 y3 y4 y5).bind fun r=>some (.agg [I r.1,I r.2.1,I r.2.2])
 | _=>none
theorem wh (ds:List D) (q:D) (h:Kc ds=some q):Computes cx 96 ds q:=by
 unfold Kc at h
 split at h
 case h_2=>cases h
 obtain ⟨y0,ec0,h⟩:=Qi h
 obtain ⟨y1,ec1,h⟩:=Qi h
 obtain ⟨y2,ec2,h⟩:=Qi h
 obtain ⟨y3,ec3,h⟩:=Qi h
 obtain ⟨y4,ec4,h⟩:=Qi h
 obtain ⟨y5,ec5,h⟩:=Qi h
 obtain ⟨r,hr,h⟩:=Qi h
 cases h
 rw [Qm ec0,Qm ec1,Qm ec2,Qm ec3,Qm ec4,Qm ec5]
 exact ZD hr
def Jq:List D→Option D
 | [.agg [c0,c1,c2],.agg [c3,c4,c5]]=>(QB .i64 c0).bind fun y0=>(QB .i64 c1).bind fun y1=>(QB .i64 c2).bind fun y2=>(QB .i64 c3).bind fun y3=>(QB .i64 c4).bind fun y4=>(QB .i64 c5).bind fun y5=>(Y5 1000 y0 y1 y2 y3 y4 y5).bind fun r=>some (.agg [I r.1,I r.2.1,I r.2.2])
 | _=>none
theorem jY (ds:List D) (q:D) (h:Jq ds=some q):Computes cx 78 ds q:=by
 unfold Jq at h
 split at h
 case h_2=>cases h
 obtain ⟨y0,ec0,h⟩:=Qi h
 obtain ⟨y1,ec1,h⟩:=Qi h
 obtain ⟨y2,ec2,h⟩:=Qi h
 obtain ⟨y3,ec3,h⟩:=Qi h
 obtain ⟨y4,ec4,h⟩:=Qi h
 obtain ⟨y5,ec5,h⟩:=Qi h
 obtain ⟨r,hr,h⟩:=Qi h
 cases h
 rw [Qm ec0,Qm ec1,Qm ec2,Qm ec3,Qm ec4,Qm ec5]
 exact QZ hr
def Kb:List D→Option D
 | [c0,.agg [c1,c2,c3]]=>(QB .i64 c0).bind fun y0=>(QB .i64 c1).bind fun y1=>(QB .i64 c2).bind fun y2=>(QB .i64 c3).bind fun y3=>(Yz 1000 y0 y1 y2 y3).bind fun r=>some (.agg [I r.1,I r.2.1,I r.2.2])
 | _=>none
theorem wg (ds:List D) (q:D) (h:Kb ds=some q):Computes cx 79 ds q:=by
 unfold Kb at h
 split at h
 case h_2=>cases h
 obtain ⟨y0,ec0,h⟩:=Qi h
 obtain ⟨y1,ec1,h⟩:=Qi h
 obtain ⟨y2,ec2,h⟩:=Qi h
 obtain ⟨y3,ec3,h⟩:=Qi h
 obtain ⟨r,hr,h⟩:=Qi h
 cases h
 rw [Qm ec0,Qm ec1,Qm ec2,Qm ec3]
 exact QQ hr
def Jr:List D→Option D
 | [.agg [c0,c1],.agg [c2,c3],.agg [c4,c5]]=>(QB .i64 c0).bind fun y0=>(QB .i64 c1).bind fun y1=>(QB .i64 c2).bind fun y2=>(QB .i64 c3).bind fun y3=>(QB .i64 c4).bind fun y4=>(QB .i64 c5).bind fun y5=>(Q5 1000 y0 y1 y2 y3 y4 y5).bind fun r=>some (I r)
 | _=>none
theorem jZ (ds:List D) (q:D) (h:Jr ds=some q):Computes cx 51 ds q:=by
 unfold Jr at h
 split at h
 case h_2=>cases h
 obtain ⟨y0,ec0,h⟩:=Qi h
 obtain ⟨y1,ec1,h⟩:=Qi h
 obtain ⟨y2,ec2,h⟩:=Qi h
 obtain ⟨y3,ec3,h⟩:=Qi h
 obtain ⟨y4,ec4,h⟩:=Qi h
 obtain ⟨y5,ec5,h⟩:=Qi h
 obtain ⟨r,hr,h⟩:=Qi h
 cases h
 rw [Qm ec0,Qm ec1,Qm ec2,Qm ec3,Qm ec4,Qm ec5]
 exact Z2 hr
def YO:List D→Option D
 | [c0,c1]=>(QB .i64 c0).bind fun y0=>(QB .i64 c1).bind fun y1=>(F_cmp_Compare_g 1000 y0 y1).bind fun r=>some (I r)
 | _=>none
theorem EQ (ds:List D) (q:D) (h:YO ds=some q):Computes cx 59 ds q:=by
 unfold YO at h
 split at h
 case h_2=>cases h
 obtain ⟨y0,ec0,h⟩:=Qi h
 obtain ⟨y1,ec1,h⟩:=Qi h
 obtain ⟨r,hr,h⟩:=Qi h
 cases h
 rw [Qm ec0,Qm ec1]
 exact Vs hr
def UD:List D→Option D
 | [c0,c1]=>(QB .i64 c0).bind fun y0=>(QB .i64 c1).bind fun y1=>(UG 1000 y0 y1).bind fun r=>some (.agg [I r.1,I r.2])
 | _=>none
theorem zk (ds:List D) (q:D) (h:UD ds=some q):Computes cx 65 ds q:=by
 unfold UD at h
 split at h
 case h_2=>cases h
 obtain ⟨y0,ec0,h⟩:=Qi h
 obtain ⟨y1,ec1,h⟩:=Qi h
 obtain ⟨r,hr,h⟩:=Qi h
 cases h
 rw [Qm ec0,Qm ec1]
 exact zM hr
def UC:List D→Option D
 | [c0]=>(Xx c0).bind fun y0=>(VY 1000 y0).bind fun r=>some (B r)
 | _=>none
theorem zj (ds:List D) (q:D) (h:UC ds=some q):Computes cx 95 ds q:=by
 unfold UC at h
 split at h
 case h_2=>cases h
 obtain ⟨y0,ec0,h⟩:=Qi h
 obtain ⟨r,hr,h⟩:=Qi h
 cases h
 rw [J6 ec0]
 exact JW hr
def Vx:List D→Option D
 | [.agg [c0,c1,c2],c3]=>(QB .i64 c0).bind fun y0=>(QB .i64 c1).bind fun y1=>(QB .i64 c2).bind fun y2=>(QB .i64 c3).bind fun y3=>(ZW 1000 y0 y1 y2 y3).bind fun r=>some (I r)
 | _=>none
theorem GF (ds:List D) (q:D) (h:Vx ds=some q):Computes cx 75 ds q:=by
 unfold Vx at h
 split at h
 case h_2=>cases h
 obtain ⟨y0,ec0,h⟩:=Qi h
 obtain ⟨y1,ec1,h⟩:=Qi h
 obtain ⟨y2,ec2,h⟩:=Qi h
 obtain ⟨y3,ec3,h⟩:=Qi h
 obtain ⟨r,hr,h⟩:=Qi h
 cases h
 rw [Qm ec0,Qm ec1,Qm ec2,Qm ec3]
 exact WJ hr
def UB:List D→Option D
 | [.lst _ _ l,.v (.string s)]=>(UE 1000 l s).bind fun r=>some (.v (.string r))
 | _=>none
theorem zi (ds:List D) (q:D) (h:UB ds=some q):Computes cx 83 ds q:=by
 unfold UB at h
 split at h
 case h_2=>cases h
 obtain ⟨r,hr,h⟩:=Qi h
 cases h
 exact zG hr
def KF (f:Nat):Option (List D→Option D):=match f with
 | 86=>some W3
 | 60=>some W4
 | 64=>some J4
 | 96=>some Kc
 | 78=>some Jq
 | 79=>some Kb
 | 51=>some Jr
 | 59=>some YO
 | 65=>some UD
 | 95=>some UC
 | 75=>some Vx
 | 83=>some UB
 | _=>none
theorem Qb7:∀ f g ds r,KF f=some g→g ds=some r→Computes cx f ds r:=by
 intro f g ds r h1 h2
 unfold KF at h1
 split at h1
 ·cases h1;exact JM ds r h2
 ·cases h1;exact JN ds r h2
 ·cases h1;exact yq ds r h2
 ·cases h1;exact wh ds r h2
 ·cases h1;exact jY ds r h2
 ·cases h1;exact wg ds r h2
 ·cases h1;exact jZ ds r h2
 ·cases h1;exact EQ ds r h2
 ·cases h1;exact zk ds r h2
 ·cases h1;exact zj ds r h2
 ·cases h1;exact GF ds r h2
 ·cases h1;exact zi ds r h2
 ·cases h1
theorem Uh {n:Nat} {f:FuncId} {args:List D} {r:D} {ob:List Prop} (h:QR false n (cx.know KF) f args []=some (r,ob)) (ho:All ob):Computes cx f args r:=runK Ew Gj Qb7 h ho
end Go.Proofs.YtiefmhacicemhaaGreatDoor
