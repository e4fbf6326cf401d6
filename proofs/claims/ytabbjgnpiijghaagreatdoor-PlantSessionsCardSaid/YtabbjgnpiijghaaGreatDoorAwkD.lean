/- The fixed examples: events, and what is known of calls. An own text, printed by an own program. -/
import Derived.Test.YtabbjgnpiijghaaGreatDoorRec2
set_option linter.unusedSimpArgs false
set_option linter.unusedVariables false
set_option linter.unnecessarySimpa false
set_option maxRecDepth 100000
namespace Go.Proofs.YtabbjgnpiijghaaGreatDoor
open Go.SX
def XB:jVj->Option D
 | [.lst _ _ l,.v (.string s)]=>(Jj 1000 l s).bind fun r=>some (.v (.string r))
 | _=>none
def XC:jVj->Option D
 | [.v (.int .i64 n)]=>(Jk 1000 n).bind fun r=>some (.v (.string r))
 | _=>none
def KF (f:Nat):Option (jVj->Option D):=match Nat.beq f 50 with
 | true=>some XB
 | false=>match Nat.beq f 46 with
  | true=>some XC
  | false=>none
def effs:List Nat:=[63,67,45,100,101,161,102,103,104,105,106,108,109,110,112,113,114,115,116,117,118,119,120,121,122,123,124,125,126,127,129,130,131,132,133,134,135,137,138,139,140,141,142,152,180,181,999999]
def inL:Nat->List Nat->Bool
 | _,[]=>false
 | f,g::l=>match Nat.beq f g with
  | true=>true
  | false=>inL f l
noncomputable def cxE (a:List Nat):Cx:={ P:=cx.P,G:=cx.G,K:=KF,E:=fun f=>inL f effs,O:=fun f=>inL f a }
theorem QdR:∀f g d r,KF f=some g->g d=some r->Computes cx f d r:=by
 intro f g d r c a;unfold KF at c;split at c
 ·rename_i b;cases c;have b:=jqj b;subst b;unfold XB at a;split at a;case h_2=>cases a
  obtain⟨q,e,a⟩:=ZX a;cases a;exact jc e
 ·split at c
  ·rename_i b;cases c;have b:=jqj b;subst b;unfold XC at a;split at a;case h_2=>cases a
   obtain⟨q,e,a⟩:=ZX a;cases a;exact jd e
  ·cases c
theorem Qcq (d:List Nat):NoAsk (cxE d):=⟨noAsk.ask,fun f g a r b c=>QdR f g a r b c⟩
theorem Et (b:List Nat)(orc:List Orc){f:FuncId}{a:jVj}{r:D}{ob:List Prop}(h:ut false 1000000 (cxE b) f a orc=some (r,ob))(c:All ob):Computes cx f a r:=qh (cx:=cxE b) (Qcq b) wH h c
theorem simG {c d:Cx}(a:d.G=c.G){F:Nat->Prop}{hp:List (Nat×Blk)}{ρ:Nat->Value}{w:World}(h:HSim c F hp ρ w):HSim d F hp ρ w:=⟨h.blk,h.inj,h.forb,h.bnd,fun g x b=>h.glob g x (by rw[<-a];exact b)⟩
theorem Qdn {c d:Cx}(hp:d.P=c.P)(b:d.G=c.G){f:FuncId}{a:List AV}{i:Option (List OC)}{r:AV}{cs:List OC}{ks:List Bool}(h:ComputesO c f a i r cs ks):ComputesO d f a i r cs ks:=by intro w F ρ vs m l n;rw[hp];refine(h w F ρ vs (simG b.symm m) l n).mono ?_;rintro e w' ⟨y,ρ',g,j,k⟩;exact⟨y,ρ',g,simG b j,k⟩
theorem W7 (e:List Nat)(orc:List Orc){f:FuncId}{a:List AV}{i:Option (List OC)}{b:Nat}(j:List OC){ks:List Bool}{r:AV}{cs:List OC}{ob:List Prop}
  (h:we false 1000000 (cxE e) f a i b j ks orc=some (r,cs,ob)) (g:All ob):ComputesO cx f a i r cs ks:=Qdn (c:=cxE e) (d:=cx) rfl rfl (Eb (cx:=cxE e) (Qcq e) wH h g)
theorem cO {b:List Nat}{f:FuncId}{a:List AV}{i:Option (List OC)}{r:AV}{cs:List OC}{ks:List Bool}(h:ComputesO cx f a i r cs ks):ComputesO (cxE b) f a i r cs ks:=Qdn (c:=cx) (d:=cxE b) rfl rfl h
theorem cC {b:List Nat}{f:FuncId}{a:jVj}{r:D}(h:Computes cx f a r):Computes (cxE b) f a r:=h
def unb:Nat->Nat->List UInt8->List UInt8
 | 0,_,l=>l
 | k+1,n,l=>match Nat.beq n 0 with
  | true=>l
  | false=>unb k (n / 256) (UInt8.ofNat (n % 256)::l)
def hexB (n:Nat):jSj:=⟨(unb 3000 n []).toArray⟩
def strD (s:jSj):D:=.v (.string s)
abbrev Sp:=jSj×List OC×jSj×Int×List OC
def oL:List Nat:=[9,12,16,17,18,19,20,21,22,23,24]
def aD (x:Sp):D:=.tup [strD x.2.2.1,I x.2.2.2.1]
def DoO (c:Cx)(x:Sp):Prop:=ComputesO c 9 [.ptr 0 0 0 0 0,.d (strD x.1)] (some x.2.1) (.d (aD x)) x.2.2.2.2 []
def DrO (x:Sp):Orc:=.obj (some 5) (.d (aD x)) x.2.2.2.2 []
theorem rO {x:Sp}(h:we false 1000000 (cxE []) 9 [.ptr 0 0 0 0 0,.d (strD x.1)] (some x.2.1) 0 x.2.1 [] []=some (.d (aD x),x.2.2.2.2,[])):DoO cx x:=W7 [] [] x.2.1 h trivial
theorem cD {x:Sp}(h:DoO cx x):DoO (cxE oL) x:=cO h
def ev1:D:=.agg [I 1,strD (hexB 0x736563746f72),.lst false 1 [strD ⟨#[110]⟩],.lst false 1 [I 0],strD ⟨#[]⟩]
def ev2:D:=.agg [I 2,strD (hexB 0x6d6972726f72),.lst false 1 [strD ⟨#[97]⟩,strD ⟨#[110]⟩],.lst false 1 [I 0,I 10],strD ⟨#[]⟩]
def ev3:D:=.agg [I 3,strD (hexB 0x6d6972726f72),.lst false 1 [strD ⟨#[98]⟩,strD ⟨#[110]⟩],.lst false 1 [I 0,I 20],strD ⟨#[]⟩]
def ev4:D:=.agg [I 4,strD (hexB 0x736f696c),.lst false 1 [strD ⟨#[98]⟩],.lst false 1 [I 1,I 500],strD ⟨#[]⟩]
def ev5:D:=.agg [I 5,strD (hexB 0x66696c6c),.lst false 1 [],.lst false 1 [I 2],strD ⟨#[]⟩]
def ev6:D:=.agg [I 6,strD (hexB 0x73756e),.lst false 1 [],.lst false 1 [I 2,I 800],strD ⟨#[]⟩]
def ev7:D:=.agg [I 7,strD (hexB 0x61696d),.lst false 1 [strD ⟨#[97]⟩],.lst false 1 [I 3],strD ⟨#[]⟩]
def ev8:D:=.agg [I 8,strD (hexB 0x61696d),.lst false 1 [strD ⟨#[98]⟩],.lst false 1 [I 4],strD ⟨#[]⟩]
def ev9:D:=.agg [I 9,strD (hexB 0x74726970),.lst false 1 [],.lst false 1 [I 6],strD ⟨#[]⟩]
def ev10:D:=.agg [I 10,strD (hexB 0x7265736574),.lst false 1 [],.lst false 1 [I 9],strD ⟨#[]⟩]
def ev11:D:=.agg [I 11,strD (hexB 0x6f66666572),.lst false 1 [strD ⟨#[111]⟩],.lst false 1 [I 9,I 10,I 20,I 50,I 100],strD ⟨#[]⟩]
def ev12:D:=.agg [I 12,strD (hexB 0x64656c69766572),.lst false 1 [strD ⟨#[111]⟩],.lst false 1 [I 10,I 30],strD ⟨#[]⟩]
def ev13:D:=.agg [I 13,strD (hexB 0x62696c6c),.lst false 1 [strD ⟨#[111]⟩],.lst false 1 [I 20],strD ⟨#[]⟩]
def es13:jVj:=[ev1,ev2,ev3,ev4,ev5,ev6,ev7,ev8,ev9,ev10,ev11,ev12,ev13]
def es0:jVj:=[]
def es1:jVj:=es13.take 1
def es2:jVj:=es13.take 2
def es3:jVj:=es13.take 3
def es4:jVj:=es13.take 4
def es5:jVj:=es13.take 5
def es6:jVj:=es13.take 6
def es7:jVj:=es13.take 7
def es8:jVj:=es13.take 8
def es9:jVj:=es13.take 9
def es10:jVj:=es13.take 10
def es11:jVj:=es13.take 11
def es12:jVj:=es13.take 12
def cs0:List OC:=[.row 5 es0,.row 5 es0,.dat (I 0),.dat (I 0),.dat (B false),.dat (B false),.dat (I 0),.dat (I 0),.dat (I 0),.row 1 [],.row 6 [],.row 7 []]
def cs1:List OC:=[.row 5 es1,.row 5 es1,.dat (I 0),.dat (I 0),.dat (B false),.dat (B false),.dat (I 0),.dat (I 0),.dat (I 0),.row 1 [strD ⟨#[110]⟩],.row 6 [],.row 7 []]
def cs2:List OC:=[.row 5 es2,.row 5 es2,.dat (I 0),.dat (I 0),.dat (B false),.dat (B false),.dat (I 0),.dat (I 0),.dat (I 0),.row 1 [strD ⟨#[110]⟩],.row 6 [.agg [strD ⟨#[97]⟩,strD ⟨#[110]⟩,I 10,I 0,B false,B false]],.row 7 []]
def cs3:List OC:=[.row 5 es3,.row 5 es3,.dat (I 0),.dat (I 0),.dat (B false),.dat (B false),.dat (I 0),.dat (I 0),.dat (I 0),.row 1 [strD ⟨#[110]⟩],.row 6 [.agg [strD ⟨#[97]⟩,strD ⟨#[110]⟩,I 10,I 0,B false,B false],.agg [strD ⟨#[98]⟩,strD ⟨#[110]⟩,I 20,I 0,B false,B false]],.row 7 []]
def cs4:List OC:=[.row 5 es4,.row 5 es4,.dat (I 1),.dat (I 0),.dat (B false),.dat (B false),.dat (I 0),.dat (I 0),.dat (I 0),.row 1 [strD ⟨#[110]⟩],.row 6 [.agg [strD ⟨#[97]⟩,strD ⟨#[110]⟩,I 10,I 0,B false,B false],.agg [strD ⟨#[98]⟩,strD ⟨#[110]⟩,I 20,I 500,B false,B false]],.row 7 []]
def cs5:List OC:=[.row 5 es5,.row 5 es5,.dat (I 2),.dat (I 0),.dat (B true),.dat (B false),.dat (I 0),.dat (I 0),.dat (I 0),.row 1 [strD ⟨#[110]⟩],.row 6 [.agg [strD ⟨#[97]⟩,strD ⟨#[110]⟩,I 10,I 0,B false,B false],.agg [strD ⟨#[98]⟩,strD ⟨#[110]⟩,I 20,I 500,B false,B false]],.row 7 []]
def cs6:List OC:=[.row 5 es6,.row 5 es6,.dat (I 2),.dat (I 800),.dat (B true),.dat (B false),.dat (I 0),.dat (I 0),.dat (I 0),.row 1 [strD ⟨#[110]⟩],.row 6 [.agg [strD ⟨#[97]⟩,strD ⟨#[110]⟩,I 10,I 0,B false,B false],.agg [strD ⟨#[98]⟩,strD ⟨#[110]⟩,I 20,I 500,B false,B false]],.row 7 []]
def cs7:List OC:=[.row 5 es7,.row 5 es7,.dat (I 3),.dat (I 800),.dat (B true),.dat (B false),.dat (I 0),.dat (I 0),.dat (I 0),.row 1 [strD ⟨#[110]⟩],.row 6 [.agg [strD ⟨#[97]⟩,strD ⟨#[110]⟩,I 10,I 0,B false,B true],.agg [strD ⟨#[98]⟩,strD ⟨#[110]⟩,I 20,I 500,B false,B false]],.row 7 []]
def cs8:List OC:=[.row 5 es8,.row 5 es8,.dat (I 4),.dat (I 800),.dat (B true),.dat (B false),.dat (I 8000000),.dat (I 8000000),.dat (I 0),.row 1 [strD ⟨#[110]⟩],.row 6 [.agg [strD ⟨#[97]⟩,strD ⟨#[110]⟩,I 10,I 0,B false,B true],.agg [strD ⟨#[98]⟩,strD ⟨#[110]⟩,I 20,I 500,B false,B true]],.row 7 []]
def cs9:List OC:=[.row 5 es9,.row 5 es9,.dat (I 6),.dat (I 800),.dat (B true),.dat (B true),.dat (I 40000000),.dat (I 40000000),.dat (I 0),.row 1 [strD ⟨#[110]⟩],.row 6 [.agg [strD ⟨#[97]⟩,strD ⟨#[110]⟩,I 10,I 0,B false,B false],.agg [strD ⟨#[98]⟩,strD ⟨#[110]⟩,I 20,I 500,B false,B false]],.row 7 []]
def cs10:List OC:=[.row 5 es10,.row 5 es10,.dat (I 9),.dat (I 800),.dat (B true),.dat (B false),.dat (I 40000000),.dat (I 40000000),.dat (I 0),.row 1 [strD ⟨#[110]⟩],.row 6 [.agg [strD ⟨#[97]⟩,strD ⟨#[110]⟩,I 10,I 0,B false,B false],.agg [strD ⟨#[98]⟩,strD ⟨#[110]⟩,I 20,I 500,B false,B false]],.row 7 []]
def G2:List OC:=[.row 5 es11,.row 5 es11,.dat (I 9),.dat (I 800),.dat (B true),.dat (B false),.dat (I 40000000),.dat (I 40000000),.dat (I 0),.row 1 [strD ⟨#[110]⟩],.row 6 [.agg [strD ⟨#[97]⟩,strD ⟨#[110]⟩,I 10,I 0,B false,B false],.agg [strD ⟨#[98]⟩,strD ⟨#[110]⟩,I 20,I 500,B false,B false]],.row 7 [.agg [strD ⟨#[111]⟩,I 10,I 20,I 50,I 100,I 0,B false]]]
def Y1:List OC:=[.row 5 es12,.row 5 es12,.dat (I 10),.dat (I 800),.dat (B true),.dat (B false),.dat (I 40000000),.dat (I 10000000),.dat (I 0),.row 1 [strD ⟨#[110]⟩],.row 6 [.agg [strD ⟨#[97]⟩,strD ⟨#[110]⟩,I 10,I 0,B false,B false],.agg [strD ⟨#[98]⟩,strD ⟨#[110]⟩,I 20,I 500,B false,B false]],.row 7 [.agg [strD ⟨#[111]⟩,I 10,I 20,I 50,I 100,I 30,B false]]]
def VS:List OC:=[.row 5 es13,.row 5 es13,.dat (I 20),.dat (I 800),.dat (B true),.dat (B false),.dat (I 40000000),.dat (I 10000000),.dat (I (-1000)),.row 1 [strD ⟨#[110]⟩],.row 6 [.agg [strD ⟨#[97]⟩,strD ⟨#[110]⟩,I 10,I 0,B false,B false],.agg [strD ⟨#[98]⟩,strD ⟨#[110]⟩,I 20,I 500,B false,B false]],.row 7 [.agg [strD ⟨#[111]⟩,I 10,I 20,I 50,I 100,I 30,B true]]]
def stp1:Sp:=((hexB 0x736563746f72206e2030),cs0,(hexB 0x646f6e652031),0,cs1)
def stp2:Sp:=((hexB 0x6d6972726f722061206e2030203130),cs1,(hexB 0x646f6e652032),0,cs2)
def stp3:Sp:=((hexB 0x6d6972726f722062206e2030203230),cs2,(hexB 0x646f6e652033),0,cs3)
def stp4:Sp:=((hexB 0x736f696c2062203120353030),cs3,(hexB 0x646f6e652034),0,cs4)
def stp5:Sp:=((hexB 0x61696d20612031),cs4,⟨#[]⟩,30,cs4)
def stp6:Sp:=((hexB 0x66696c6c2032),cs4,(hexB 0x646f6e652035),0,cs5)
def stp7:Sp:=((hexB 0x73756e203220383030),cs5,(hexB 0x646f6e652036),0,cs6)
def stp8:Sp:=((hexB 0x61696d20612033),cs6,(hexB 0x646f6e652037),0,cs7)
def stp9:Sp:=((hexB 0x61696d20622034),cs7,(hexB 0x646f6e652038),0,cs8)
def Qq0:Sp:=((hexB 0x72617465),cs8,(hexB 0x3136303030303030),0,cs8)
def QqZ:Sp:=((hexB 0x626f6f6b73),cs8,(hexB 0x3830303030303020383030303030302030),0,cs8)
def QqY:Sp:=((hexB 0x636f756e74206e),cs8,(hexB 0x322032),0,cs8)
def QqX:Sp:=((hexB 0x64656665637420612035),cs8,⟨#[]⟩,31,cs8)
def QqW:Sp:=((hexB 0x647261696e2035),cs8,⟨#[]⟩,31,cs8)
def QqV:Sp:=((hexB 0x747269702036),cs8,(hexB 0x646f6e652039),0,cs9)
def QqU:Sp:=((hexB 0x61696d6564),cs9,(hexB 0x6e6f6e65),0,cs9)
def QqT:Sp:=((hexB 0x626f6f6b73),cs9,(hexB 0x34303030303030302034303030303030302030),0,cs9)
def QqS:Sp:=((hexB 0x61696d20612037),cs9,⟨#[]⟩,29,cs9)
def QqR:Sp:=((hexB 0x72657365742039),cs9,(hexB 0x646f6e65203130),0,cs10)
def QqQ:Sp:=((hexB 0x6f66666572206f203920313020323020353020313030),cs10,(hexB 0x646f6e65203131),0,G2)
def QqP:Sp:=((hexB 0x64656c69766572206f20392035),G2,⟨#[]⟩,14,G2)
def QqO:Sp:=((hexB 0x64656c69766572206f203130203431),G2,⟨#[]⟩,16,G2)
def QqN:Sp:=((hexB 0x64656c69766572206f203130203330),G2,(hexB 0x646f6e65203132),0,Y1)
def QqM:Sp:=((hexB 0x756e646f),Y1,⟨#[]⟩,21,Y1)
def QqL:Sp:=((hexB 0x626f6f6b73),Y1,(hexB 0x34303030303030302031303030303030302030),0,Y1)
def QqK:Sp:=((hexB 0x6f6666657273),Y1,(hexB 0x6f203230),0,Y1)
def QqJ:Sp:=((hexB 0x62696c6c206f203139),Y1,⟨#[]⟩,32,Y1)
def QqI:Sp:=((hexB 0x62696c6c206f203230),Y1,(hexB 0x646f6e65203133),0,VS)
def QqH:Sp:=((hexB 0x626f6f6b73),VS,(hexB 0x3430303030303030203130303030303030202d31303030),0,VS)
def QqG:Sp:=((hexB 0x6f6666657273),VS,(hexB 0x6e6f6e65),0,VS)
def QqF:Sp:=((hexB 0x64656c69766572206f2032302031),VS,⟨#[]⟩,23,VS)
def QqE:Sp:=((hexB 0x7374617465),VS,(hexB 0x66696c6c656420726561647920383030),0,VS)
def QqD:Sp:=((hexB 0x646972742062),VS,(hexB 0x353030),0,VS)
def logB:jSj:=(hexB 0x3120736563746f72206e203023303130393639350a32206d6972726f722061206e203020313023333437323938340a33206d6972726f722062206e203020323023323831383439380a3420736f696c206220312035303023323039323231340a352066696c6c203223303533333736310a362073756e20322038303023343232343137380a372061696d2061203323393435383330310a382061696d2062203423373035303435390a392074726970203623333536393238370a3130207265736574203923343430353733380a3131206f66666572206f20392031302032302035302031303023393034313737390a31322064656c69766572206f20313020333023333735313535360a31332062696c6c206f20323023303734353134300a)
def logT:jSj:=logB.push 49
end Go.Proofs.YtabbjgnpiijghaaGreatDoor
