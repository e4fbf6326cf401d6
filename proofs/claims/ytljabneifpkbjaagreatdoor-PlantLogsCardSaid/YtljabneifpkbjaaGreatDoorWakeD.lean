/- The fixed examples: events, and what is known of calls. An own text, printed by an own program. -/
import Derived.Test.YtljabneifpkbjaaGreatDoorShelf
import Derived.Test.YtljabneifpkbjaaGreatDoorGen5
set_option linter.unusedVariables false
set_option linter.unusedSimpArgs false
set_option linter.unnecessarySimpa false
set_option maxRecDepth 100000
namespace Go.Proofs.YtljabneifpkbjaaGreatDoor
open Go.SX
def XB:jVj→Option D
 | [.lst _ _ l,.v (.string s)]=>(Jj 1000 l s).bind fun r=>some (.v (.string r))
 | _=>none
def XC:jVj→Option D
 | [.v (.int .i64 n)]=>(Jk 1000 n).bind fun r=>some (.v (.string r))
 | _=>none
def KF (f:Nat):Option (jVj→Option D):=match Nat.beq f 107 with
 | true=>some XB
 | false=>match Nat.beq f 105 with
  | true=>some XC
  | false=>none
def effs:List Nat:=[77,80,104,120,121,122,147,148,149,150,151,153,154,155,157,158,159,160,161,162,163,164,165,166,167,168,169,170,171,172,174,175,176,177,178,179,180,182,183,184,185,186,187,190,215,216,999999]
def inL:Nat→List Nat→Bool
 | _,[]=>false
 | f,g::l=>match Nat.beq f g with
  | true=>true
  | false=>inL f l
noncomputable def cxE (os:List Nat):Cx:={ P:=cx.P,G:=cx.G,K:=KF,E:=fun f=>inL f effs,O:=fun f=>inL f os }
theorem QdR:∀ f g ds r,KF f=some g→g ds=some r→Computes cx f ds r:=by
 intro f g ds r h1 h2
 unfold KF at h1
 split at h1
 ·rename_i hf
  cases h1
  have hf:=Nat.eq_of_beq_eq_true hf
  subst hf
  unfold XB at h2
  split at h2
  case h_2=>cases h2
  obtain ⟨q,hq,h2⟩:=ZX h2
  cases h2
  exact jc hq
 ·split at h1
  ·rename_i hf
   cases h1
   have hf:=Nat.eq_of_beq_eq_true hf
   subst hf
   unfold XC at h2
   split at h2
   case h_2=>cases h2
   obtain ⟨q,hq,h2⟩:=ZX h2
   cases h2
   exact jd hq
  ·cases h1
theorem Qcq (os:List Nat):NoAsk (cxE os):=⟨noAsk.ask,fun f g ds r h1 h2=>QdR f g ds r h1 h2⟩
theorem Et (os:List Nat) (orc:List Orc) {f:FuncId} {args:jVj} {r:D} {ob:List Prop} (h:ut false 1000000 (cxE os) f args orc=some (r,ob)) (ho:All ob):Computes cx f args r:=qh (cx:=cxE os) (Qcq os) wH h ho
theorem simG {c d:Cx} (hg:d.G=c.G) {F:Nat→Prop} {hp:List (Nat×Blk)} {ρ:Nat→Value} {w:World} (h:HSim c F hp ρ w):HSim d F hp ρ w:=⟨h.blk,h.inj,h.forb,h.bnd,fun g x hx=>h.glob g x (by rw [← hg];exact hx)⟩
theorem Qdn {c d:Cx} (hp:d.P=c.P) (hg:d.G=c.G) {f:FuncId} {args:List AV} {i:Option (List OC)} {r:AV} {cs:List OC} {ks:List Bool} (h:ComputesO c f args i r cs ks):ComputesO d f args i r cs ks:=by
 intro w F ρ vs hs hl hv
 rw [hp]
 refine (h w F ρ vs (simG hg.symm hs) hl hv).mono ?_
 rintro e w' ⟨y,ρ',h1,h2,h3⟩
 exact ⟨y,ρ',h1,simG hg h2,h3⟩
theorem W7 (os:List Nat) (orc:List Orc) {f:FuncId} {args:List AV} {i:Option (List OC)} {b:Nat} (ss:List OC) {ks:List Bool} {r:AV} {cs:List OC} {ob:List Prop}
  (h:we false 1000000 (cxE os) f args i b ss ks orc=some (r,cs,ob)) (ho:All ob):ComputesO cx f args i r cs ks:=Qdn (c:=cxE os) (d:=cx) rfl rfl (Eb (cx:=cxE os) (Qcq os) wH h ho)
theorem cO {os:List Nat} {f:FuncId} {args:List AV} {i:Option (List OC)} {r:AV} {cs:List OC} {ks:List Bool} (h:ComputesO cx f args i r cs ks):ComputesO (cxE os) f args i r cs ks:=Qdn (c:=cx) (d:=cxE os) rfl rfl h
theorem cC {os:List Nat} {f:FuncId} {args:jVj} {r:D} (h:Computes cx f args r):Computes (cxE os) f args r:=h
def ev1:D:=.agg [I 1,.v (.string ⟨#[115,101,99,116,111,114]⟩),.lst false 1 [.v (.string ⟨#[110]⟩)],.lst false 1 [I 0],.v (.string ⟨#[]⟩)]
def ev2:D:=.agg [I 2,.v (.string ⟨#[109,105,114,114,111,114]⟩),.lst false 1 [.v (.string ⟨#[97]⟩),.v (.string ⟨#[110]⟩)],.lst false 1 [I 0,I 10],.v (.string ⟨#[]⟩)]
def ev3:D:=.agg [I 3,.v (.string ⟨#[109,105,114,114,111,114]⟩),.lst false 1 [.v (.string ⟨#[98]⟩),.v (.string ⟨#[110]⟩)],.lst false 1 [I 0,I 20],.v (.string ⟨#[]⟩)]
def ev4:D:=.agg [I 4,.v (.string ⟨#[115,111,105,108]⟩),.lst false 1 [.v (.string ⟨#[98]⟩)],.lst false 1 [I 1,I 500],.v (.string ⟨#[]⟩)]
def ev5:D:=.agg [I 5,.v (.string ⟨#[102,105,108,108]⟩),.lst false 1 [],.lst false 1 [I 2],.v (.string ⟨#[]⟩)]
def ev6:D:=.agg [I 6,.v (.string ⟨#[115,117,110]⟩),.lst false 1 [],.lst false 1 [I 2,I 800],.v (.string ⟨#[]⟩)]
def ev7:D:=.agg [I 7,.v (.string ⟨#[97,105,109]⟩),.lst false 1 [.v (.string ⟨#[97]⟩)],.lst false 1 [I 3],.v (.string ⟨#[]⟩)]
def ev8:D:=.agg [I 8,.v (.string ⟨#[97,105,109]⟩),.lst false 1 [.v (.string ⟨#[98]⟩)],.lst false 1 [I 4],.v (.string ⟨#[]⟩)]
def ev9:D:=.agg [I 9,.v (.string ⟨#[116,114,105,112]⟩),.lst false 1 [],.lst false 1 [I 6],.v (.string ⟨#[]⟩)]
def ev10:D:=.agg [I 10,.v (.string ⟨#[114,101,115,101,116]⟩),.lst false 1 [],.lst false 1 [I 9],.v (.string ⟨#[]⟩)]
def ev11:D:=.agg [I 11,.v (.string ⟨#[111,102,102,101,114]⟩),.lst false 1 [.v (.string ⟨#[111]⟩)],.lst false 1 [I 9,I 10,I 20,I 50,I 100],.v (.string ⟨#[]⟩)]
def ev12:D:=.agg [I 12,.v (.string ⟨#[100,101,108,105,118,101,114]⟩),.lst false 1 [.v (.string ⟨#[111]⟩)],.lst false 1 [I 10,I 30],.v (.string ⟨#[]⟩)]
def ev13:D:=.agg [I 13,.v (.string ⟨#[98,105,108,108]⟩),.lst false 1 [.v (.string ⟨#[111]⟩)],.lst false 1 [I 20],.v (.string ⟨#[]⟩)]
def es0:jVj:=[]
def es1:jVj:=[ev1]
def es2:jVj:=[ev1,ev2]
def es3:jVj:=[ev1,ev2,ev3]
def es4:jVj:=[ev1,ev2,ev3,ev4]
def es5:jVj:=[ev1,ev2,ev3,ev4,ev5]
def es6:jVj:=[ev1,ev2,ev3,ev4,ev5,ev6]
def es7:jVj:=[ev1,ev2,ev3,ev4,ev5,ev6,ev7]
def es8:jVj:=[ev1,ev2,ev3,ev4,ev5,ev6,ev7,ev8]
def es9:jVj:=[ev1,ev2,ev3,ev4,ev5,ev6,ev7,ev8,ev9]
def es10:jVj:=[ev1,ev2,ev3,ev4,ev5,ev6,ev7,ev8,ev9,ev10]
def es11:jVj:=[ev1,ev2,ev3,ev4,ev5,ev6,ev7,ev8,ev9,ev10,ev11]
def es12:jVj:=[ev1,ev2,ev3,ev4,ev5,ev6,ev7,ev8,ev9,ev10,ev11,ev12]
def jG:jVj:=[ev1,ev2,ev3,ev4,ev5,ev6,ev7,ev8,ev9,ev10,ev11,ev12,ev13]
def cs0:List OC:=[.row 5 es0,.row 5 es0,.dat (I 0),.dat (I 0),.dat (B false),.dat (B false),.dat (I 0),.dat (I 0),.dat (I 0),.row 1 [],.row 6 [],.row 7 []]
def cs1:List OC:=[.row 5 es1,.row 5 es1,.dat (I 0),.dat (I 0),.dat (B false),.dat (B false),.dat (I 0),.dat (I 0),.dat (I 0),.row 1 [.v (.string ⟨#[110]⟩)],.row 6 [],.row 7 []]
def cs2:List OC:=[.row 5 es2,.row 5 es2,.dat (I 0),.dat (I 0),.dat (B false),.dat (B false),.dat (I 0),.dat (I 0),.dat (I 0),.row 1 [.v (.string ⟨#[110]⟩)],.row 6 [.agg [.v (.string ⟨#[97]⟩),.v (.string ⟨#[110]⟩),I 10,I 0,B false,B false]],.row 7 []]
def cs3:List OC:=[.row 5 es3,.row 5 es3,.dat (I 0),.dat (I 0),.dat (B false),.dat (B false),.dat (I 0),.dat (I 0),.dat (I 0),.row 1 [.v (.string ⟨#[110]⟩)],.row 6 [.agg [.v (.string ⟨#[97]⟩),.v (.string ⟨#[110]⟩),I 10,I 0,B false,B false],.agg [.v (.string ⟨#[98]⟩),.v (.string ⟨#[110]⟩),I 20,I 0,B false,B false]],.row 7 []]
def cs4:List OC:=[.row 5 es4,.row 5 es4,.dat (I 1),.dat (I 0),.dat (B false),.dat (B false),.dat (I 0),.dat (I 0),.dat (I 0),.row 1 [.v (.string ⟨#[110]⟩)],.row 6 [.agg [.v (.string ⟨#[97]⟩),.v (.string ⟨#[110]⟩),I 10,I 0,B false,B false],.agg [.v (.string ⟨#[98]⟩),.v (.string ⟨#[110]⟩),I 20,I 500,B false,B false]],.row 7 []]
def cs5:List OC:=[.row 5 es5,.row 5 es5,.dat (I 2),.dat (I 0),.dat (B true),.dat (B false),.dat (I 0),.dat (I 0),.dat (I 0),.row 1 [.v (.string ⟨#[110]⟩)],.row 6 [.agg [.v (.string ⟨#[97]⟩),.v (.string ⟨#[110]⟩),I 10,I 0,B false,B false],.agg [.v (.string ⟨#[98]⟩),.v (.string ⟨#[110]⟩),I 20,I 500,B false,B false]],.row 7 []]
def cs6:List OC:=[.row 5 es6,.row 5 es6,.dat (I 2),.dat (I 800),.dat (B true),.dat (B false),.dat (I 0),.dat (I 0),.dat (I 0),.row 1 [.v (.string ⟨#[110]⟩)],.row 6 [.agg [.v (.string ⟨#[97]⟩),.v (.string ⟨#[110]⟩),I 10,I 0,B false,B false],.agg [.v (.string ⟨#[98]⟩),.v (.string ⟨#[110]⟩),I 20,I 500,B false,B false]],.row 7 []]
def cs7:List OC:=[.row 5 es7,.row 5 es7,.dat (I 3),.dat (I 800),.dat (B true),.dat (B false),.dat (I 0),.dat (I 0),.dat (I 0),.row 1 [.v (.string ⟨#[110]⟩)],.row 6 [.agg [.v (.string ⟨#[97]⟩),.v (.string ⟨#[110]⟩),I 10,I 0,B false,B true],.agg [.v (.string ⟨#[98]⟩),.v (.string ⟨#[110]⟩),I 20,I 500,B false,B false]],.row 7 []]
def cs8:List OC:=[.row 5 es8,.row 5 es8,.dat (I 4),.dat (I 800),.dat (B true),.dat (B false),.dat (I 8000000),.dat (I 8000000),.dat (I 0),.row 1 [.v (.string ⟨#[110]⟩)],.row 6 [.agg [.v (.string ⟨#[97]⟩),.v (.string ⟨#[110]⟩),I 10,I 0,B false,B true],.agg [.v (.string ⟨#[98]⟩),.v (.string ⟨#[110]⟩),I 20,I 500,B false,B true]],.row 7 []]
def cs9:List OC:=[.row 5 es9,.row 5 es9,.dat (I 6),.dat (I 800),.dat (B true),.dat (B true),.dat (I 40000000),.dat (I 40000000),.dat (I 0),.row 1 [.v (.string ⟨#[110]⟩)],.row 6 [.agg [.v (.string ⟨#[97]⟩),.v (.string ⟨#[110]⟩),I 10,I 0,B false,B false],.agg [.v (.string ⟨#[98]⟩),.v (.string ⟨#[110]⟩),I 20,I 500,B false,B false]],.row 7 []]
def cs10:List OC:=[.row 5 es10,.row 5 es10,.dat (I 9),.dat (I 800),.dat (B true),.dat (B false),.dat (I 40000000),.dat (I 40000000),.dat (I 0),.row 1 [.v (.string ⟨#[110]⟩)],.row 6 [.agg [.v (.string ⟨#[97]⟩),.v (.string ⟨#[110]⟩),I 10,I 0,B false,B false],.agg [.v (.string ⟨#[98]⟩),.v (.string ⟨#[110]⟩),I 20,I 500,B false,B false]],.row 7 []]
def G2:List OC:=[.row 5 es11,.row 5 es11,.dat (I 9),.dat (I 800),.dat (B true),.dat (B false),.dat (I 40000000),.dat (I 40000000),.dat (I 0),.row 1 [.v (.string ⟨#[110]⟩)],.row 6 [.agg [.v (.string ⟨#[97]⟩),.v (.string ⟨#[110]⟩),I 10,I 0,B false,B false],.agg [.v (.string ⟨#[98]⟩),.v (.string ⟨#[110]⟩),I 20,I 500,B false,B false]],.row 7 [.agg [.v (.string ⟨#[111]⟩),I 10,I 20,I 50,I 100,I 0,B false]]]
def Y1:List OC:=[.row 5 es12,.row 5 es12,.dat (I 10),.dat (I 800),.dat (B true),.dat (B false),.dat (I 40000000),.dat (I 10000000),.dat (I 0),.row 1 [.v (.string ⟨#[110]⟩)],.row 6 [.agg [.v (.string ⟨#[97]⟩),.v (.string ⟨#[110]⟩),I 10,I 0,B false,B false],.agg [.v (.string ⟨#[98]⟩),.v (.string ⟨#[110]⟩),I 20,I 500,B false,B false]],.row 7 [.agg [.v (.string ⟨#[111]⟩),I 10,I 20,I 50,I 100,I 30,B false]]]
def VS:List OC:=[.row 5 jG,.row 5 jG,.dat (I 20),.dat (I 800),.dat (B true),.dat (B false),.dat (I 40000000),.dat (I 10000000),.dat (I (-1000)),.row 1 [.v (.string ⟨#[110]⟩)],.row 6 [.agg [.v (.string ⟨#[97]⟩),.v (.string ⟨#[110]⟩),I 10,I 0,B false,B false],.agg [.v (.string ⟨#[98]⟩),.v (.string ⟨#[110]⟩),I 20,I 500,B false,B false]],.row 7 [.agg [.v (.string ⟨#[111]⟩),I 10,I 20,I 50,I 100,I 30,B true]]]
end Go.Proofs.YtljabneifpkbjaaGreatDoor
