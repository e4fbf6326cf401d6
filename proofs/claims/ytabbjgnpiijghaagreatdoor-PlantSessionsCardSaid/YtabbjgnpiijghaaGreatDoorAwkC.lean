/- The fixed examples: logs, and what the questions answer. An own text, printed by an own program. -/
import Derived.Test.YtabbjgnpiijghaaGreatDoorAwkD
set_option linter.unusedSimpArgs false
set_option linter.unusedVariables false
set_option linter.unnecessarySimpa false
set_option maxRecDepth 100000
namespace Go.Proofs.YtabbjgnpiijghaaGreatDoor
open Go.SX
def jY:jVj:=[.agg [I 1,strD (hexB 0x736563746f72),.lst false 1 [strD ⟨#[110]⟩],.lst false 1 [I 0],strD ⟨#[]⟩],.agg [I 2,strD (hexB 0x6d6972726f72),.lst false 1 [strD ⟨#[97]⟩,strD ⟨#[110]⟩],.lst false 1 [I 0,I 10],strD ⟨#[]⟩],.agg [I 3,strD (hexB 0x66696c6c),.lst false 1 [],.lst false 1 [I 2],strD ⟨#[]⟩],.agg [I 4,strD (hexB 0x73756e),.lst false 1 [],.lst false 1 [I 2,I 800],strD ⟨#[]⟩],.agg [I 5,strD (hexB 0x61696d),.lst false 1 [strD ⟨#[97]⟩],.lst false 1 [I 3],strD ⟨#[]⟩],.agg [I 6,strD (hexB 0x74726970),.lst false 1 [],.lst false 1 [I 6],strD ⟨#[]⟩],.agg [I 7,strD (hexB 0x7265736574),.lst false 1 [],.lst false 1 [I 9],strD ⟨#[]⟩]]
def csS:List OC:=[.row 5 jY,.row 5 jY,.dat (I 9),.dat (I 800),.dat (B true),.dat (B false),.dat (I 24000000),.dat (I 24000000),.dat (I 0),.row 1 [strD ⟨#[110]⟩],.row 6 [.agg [strD ⟨#[97]⟩,strD ⟨#[110]⟩,I 10,I 0,B false,B false]],.row 7 []]
theorem rcv:Computes cx 24 [strD logT] (.tup [.lst false 5 es13,I 287,I 28]):=Qj7 (n:=1000) (r:=(es13,287,28)) (by kernel_rfl)
theorem logs:ComputesO cx 12 [.ptr 0 0 0 0 0] (some VS) (.d (strD logB)) VS ZV:=Qod (n:=1000) (r:=logB) (by kernel_rfl)
def tR:AV:=.tup [.ptr 0 0 0 0 0,.d (I 0),.d (I 0)]
def RpO (c:Cx)(l:jVj)(cs:List OC):Prop:=ComputesO c 28 [.d (.lst false 5 l)] none tR cs []
theorem cP {a:List Nat}{l:jVj}{cs:List OC}(h:RpO cx l cs):RpO (cxE a) l cs:=cO h
theorem rp8:RpO cx es8 cs8:=We (n:=1000) (r:=(0,0,es8,es8,4,800,true,false,8000000,8000000,0,[strD ⟨#[110]⟩],[.agg [strD ⟨#[97]⟩,strD ⟨#[110]⟩,I 10,I 0,B false,B true],.agg [strD ⟨#[98]⟩,strD ⟨#[110]⟩,I 20,I 500,B false,B true]],[])) (by kernel_rfl)
theorem rp13:RpO cx es13 VS:=We (n:=1000) (r:=(0,0,es13,es13,20,800,true,false,40000000,10000000,(-1000),[strD ⟨#[110]⟩],[.agg [strD ⟨#[97]⟩,strD ⟨#[110]⟩,I 10,I 0,B false,B false],.agg [strD ⟨#[98]⟩,strD ⟨#[110]⟩,I 20,I 500,B false,B false]],[.agg [strD ⟨#[111]⟩,I 10,I 20,I 50,I 100,I 30,B true]])) (by kernel_rfl)
theorem rpS:RpO cx jY csS:=We (n:=1000) (r:=(0,0,jY,jY,9,800,true,false,24000000,24000000,0,[strD ⟨#[110]⟩],[.agg [strD ⟨#[97]⟩,strD ⟨#[110]⟩,I 10,I 0,B false,B false]],[])) (by kernel_rfl)
theorem rK {l:jVj}{cs:List OC}(p:RpO cx l cs){f:FuncId}{a:jVj}{r:D}(h:ut false 1000000 (cxE [28]) f a [.obj none tR cs []]=some (r,[RpO (cxE [28]) l cs])):Computes cx f a r:=Et [28] _ h ⟨cP p,trivial⟩
theorem k_bk:Computes cx 16 [.lst false 5 es8,I 6] (.tup [.agg [I 40000000,I 40000000],I 0]):=rK rp8 (by kernel_rfl)
theorem k_rt:Computes cx 17 [.lst false 5 es8] (.tup [I 16000000,I 0]):=rK rp8 (by kernel_rfl)
theorem k_am:Computes cx 18 [.lst false 5 es8] (.tup [.lst false 1 [strD ⟨#[97]⟩,strD ⟨#[98]⟩],I 0]):=rK rp8 (by kernel_rfl)
theorem k_sh:Computes cx 19 [.lst false 5 es13,strD ⟨#[111]⟩] (.tup [I 20,I 0]):=rK rp13 (by kernel_rfl)
theorem k_bl:Computes cx 20 [.lst false 5 es13,strD ⟨#[111]⟩] (.tup [I (-1000),I 0]):=rK rp13 (by kernel_rfl)
theorem k_se:Computes cx 21 [.lst false 5 es13,strD ⟨#[110]⟩] (.tup [.agg [I 2,I 0],I 0]):=rK rp13 (by kernel_rfl)
theorem k_sy:Computes cx 22 [.lst false 5 es13,strD ⟨#[97]⟩] (.tup [.lst false 5 jY,I 0]):=Et [28] [.obj none tR VS [],.obj none tR VS []] (ob:=[RpO (cxE [28]) es13 VS,RpO (cxE [28]) es13 VS]) (by kernel_rfl) ⟨cP rp13,cP rp13,trivial⟩
theorem k_rp:Computes cx 23 [.lst false 5 jY] (.tup [.agg [I 9,I 800,B true,B false,I 24000000,I 24000000,I 0,.lst false 1 [strD ⟨#[110]⟩],.lst false 6 [.agg [strD ⟨#[97]⟩,strD ⟨#[110]⟩,I 10,I 0,B false,B false]],.lst false 7 []],I 0,I 0]):=rK rpS (by kernel_rfl)
end Go.Proofs.YtabbjgnpiijghaaGreatDoor
