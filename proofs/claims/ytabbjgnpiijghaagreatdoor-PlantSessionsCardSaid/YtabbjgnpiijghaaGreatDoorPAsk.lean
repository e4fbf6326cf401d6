/- Own texts. -/
import Derived.Test.YtabbjgnpiijghaaGreatDoorRec2
set_option linter.unusedSimpArgs false
set_option linter.unusedVariables false
set_option linter.unnecessarySimpa false
namespace Go.Proofs.YtabbjgnpiijghaaGreatDoor
open Go.SX
noncomputable def cxR:Cx:={ P:=cx.P,G:=cx.G,Lt:=fun _ n=>Nat.beq n 3 }
theorem Qr3:NoAsk cxR:=⟨noAsk.ask,fun f g b r a c=>by cases a⟩
theorem rfR {f:FuncId}{a:jVj}{r:D}{ob:List Prop}(orc:List Orc)(b:All ob)(h:ut true 100 cxR f a orc=some (r,ob):=by kernel_rfl):Computes cx f a r:=qh (cx:=cxR) Qr3 wH h b
theorem LC {c:Code}{j vis:Nat}{rnd:Bool}{tm i : List (Nat×AV)}{hp f : List (Nat×Blk)}{e:Ex}(h:kZ cx c j vis rnd tm hp e i f):kZ cxR c j vis rnd tm hp e i f:=by intro r F ρ a w q d b k cs p;obtain⟨m,l,w',⟨n,ρ',g,s⟩,o⟩:=h r F ρ a w q ⟨⟨d.hs.blk,d.hs.inj,d.hs.forb,d.hs.bnd,d.hs.glob⟩,d.ts,d.nt⟩ b k cs p;exact⟨m,l,w',⟨n,ρ',⟨g.blk,g.inj,g.forb,g.bnd,g.glob⟩,s⟩,o⟩
set_option maxRecDepth 20000
def iM (ms:List Mir)(a:jSj):Nat:=(pos (nmM ms) a).getD 0
def iO (b:List Off)(a:jSj):Nat:=(pos (nmO b) a).getD 0
def zM:Mir:=(⟨#[]⟩,⟨#[]⟩,0,0,false,false)
def zO:Off:=(⟨#[]⟩,0,0,0,0,0,false)
def mAt (ms:List Mir)(a:jSj):Mir:=ms.getD (iM ms a) zM
def oAt (b:List Off)(a:jSj):Off:=b.getD (iO b a) zO
theorem WP {ms:List Mir}{a:jSj}(h:Zu (nmM ms) a=true):YJ (nmM ms) a=(iM ms a:Int)/\iM ms a<ms.length/\ms[iM ms a]?=some (mAt ms a):=by
 obtain⟨i,hi⟩:=Option.isSome_iff_exists.1 h;obtain⟨b,d⟩:=wB hi;have e:iM ms a=i:=by unfold iM;rw[hi];rfl
 have c:i<ms.length:=by unfold nmM at b;simpa using b
 refine⟨by unfold YJ;rw[hi,e],by rw[e];exact c,?_⟩;unfold mAt;rw[e,List.getD_eq_getElem?_getD,jej c];rfl
theorem JV {b:List Off}{a:jSj}(h:Zu (nmO b) a=true):YJ (nmO b) a=(iO b a:Int)/\iO b a<b.length/\b[iO b a]?=some (oAt b a):=by
 obtain⟨i,hi⟩:=Option.isSome_iff_exists.1 h;obtain⟨c,f⟩:=wB hi;have e:iO b a=i:=by unfold iO;rw[hi];rfl
 have d:i<b.length:=by unfold nmO at c;simpa using c
 refine⟨by unfold YJ;rw[hi,e],by rw[e];exact d,?_⟩;unfold oAt;rw[e,List.getD_eq_getElem?_getD,jej d];rfl
def known (k:Ki)(r:Reg)(ns:List jSj):Int:=match k with
 | .sector=>QF (Zu r.sectors (ns.getD 0 ⟨#[]⟩)) 9
 | .mirror=>if Zu r.sectors (ns.getD 1 ⟨#[]⟩)=true then QF (Zu (nmM r.mirrors) (ns.getD 0 ⟨#[]⟩)) 9 else 10
 | .dim=>QF (!Zu r.sectors (ns.getD 0 ⟨#[]⟩)) 10
 | .offer=>QF (Zu (nmO r.offers) (ns.getD 0 ⟨#[]⟩)) 9
 | .deliver=>QF (!Zu (nmO r.offers) (ns.getD 0 ⟨#[]⟩)) 10
 | .bill=>QF (!Zu (nmO r.offers) (ns.getD 0 ⟨#[]⟩)) 10
 | .soil=>QF (!Zu (nmM r.mirrors) (ns.getD 0 ⟨#[]⟩)) 10
 | .clean=>QF (!Zu (nmM r.mirrors) (ns.getD 0 ⟨#[]⟩)) 10
 | .defect=>QF (!Zu (nmM r.mirrors) (ns.getD 0 ⟨#[]⟩)) 10
 | .repair=>QF (!Zu (nmM r.mirrors) (ns.getD 0 ⟨#[]⟩)) 10
 | .aim=>QF (!Zu (nmM r.mirrors) (ns.getD 0 ⟨#[]⟩)) 10
 | .park=>QF (!Zu (nmM r.mirrors) (ns.getD 0 ⟨#[]⟩)) 10
 | _=>0
def ws (vs:List Int):Int:=if vs.getD 1 0<vs.getD 0 0 then 14 else QF (decide (vs.getD 1 0>=vs.getD 2 0)) 14
def spec (k:Ki)(r:Reg)(ns:List jSj)(vs:List Int):Int:=match k with
 | .sector=>QF ((r.sectors.length:Int)==8) 5
 | .mirror=>Qt [inR (vs.getD 1 0) 1 100,QF ((r.mirrors.length:Int)==32) 5]
 | .soil=>inR (vs.getD 1 0) 0 1000
 | .defect=>Qt [QF (mAt r.mirrors (ns.getD 0 ⟨#[]⟩)).2.2.2.2.1 9,QF (mAt r.mirrors (ns.getD 0 ⟨#[]⟩)).2.2.2.2.2 31]
 | .repair=>QF (!(mAt r.mirrors (ns.getD 0 ⟨#[]⟩)).2.2.2.2.1) 22
 | .aim=>Qt [QF (!r.filled) 30,QF r.tripped 29,QF (mAt r.mirrors (ns.getD 0 ⟨#[]⟩)).2.2.2.2.1 21,QF (mAt r.mirrors (ns.getD 0 ⟨#[]⟩)).2.2.2.2.2 9]
 | .park=>QF (!(mAt r.mirrors (ns.getD 0 ⟨#[]⟩)).2.2.2.2.2) 22
 | .sun=>inR (vs.getD 1 0) 0 1000
 | .fill=>QF r.filled 9
 | .drain=>Qt [QF (!r.filled) 22,QF (r.mirrors.any isA) 31]
 | .trip=>QF r.tripped 9
 | .reset=>QF (!r.tripped) 22
 | .offer=>Qt [ws vs,inR (vs.getD 3 0) 1 1000,inR (vs.getD 4 0) 0 1000,QF ((r.offers.length:Int)==32) 5]
 | .deliver=>if Qt [QF (oAt r.offers (ns.getD 0 ⟨#[]⟩)).2.2.2.2.2.2 23,if vs.getD 0 0<(oAt r.offers (ns.getD 0 ⟨#[]⟩)).2.1 then 14 else QF (decide (vs.getD 0 0>=(oAt r.offers (ns.getD 0 ⟨#[]⟩)).2.2.1)) 14,QF (vs.getD 1 0==0) 3,QF (decide (vs.getD 1 0>Ws (oAt r.offers (ns.getD 0 ⟨#[]⟩)))) 20]=0
   then QF (decide (vs.getD 1 0*1000000>r.heat+ZL r (vs.getD 0 0))) 16
   else Qt [QF (oAt r.offers (ns.getD 0 ⟨#[]⟩)).2.2.2.2.2.2 23,if vs.getD 0 0<(oAt r.offers (ns.getD 0 ⟨#[]⟩)).2.1 then 14 else QF (decide (vs.getD 0 0>=(oAt r.offers (ns.getD 0 ⟨#[]⟩)).2.2.1)) 14,QF (vs.getD 1 0==0) 3,QF (decide (vs.getD 1 0>Ws (oAt r.offers (ns.getD 0 ⟨#[]⟩)))) 20]
 | .bill=>Qt [QF (oAt r.offers (ns.getD 0 ⟨#[]⟩)).2.2.2.2.2.2 23,QF (decide (vs.getD 0 0<(oAt r.offers (ns.getD 0 ⟨#[]⟩)).2.2.1)) 32]
 | _=>0
def acc (k:Ki)(r:Reg)(ns:List jSj)(vs:List Int):Int:=if vs.getD 0 0<r.tick then 22 else Qt [Zk r (vs.getD 0 0),known k r ns,spec k r ns vs]
theorem Wy {S E:Type}{step:S->Option (S⊕E)}{k:Nat}{s s' : S}(a:0<k)(h:step s=some (.inl s')):Q2 step k s=Q2 step (k - 1) s':=by
 obtain⟨j,rfl⟩:∃j,k=j+1:=⟨k - 1,by omega⟩
 exact E3 h
theorem Zf {S E:Type}{step:S->Option (S⊕E)}{k:Nat}{s:S}{e:E}(a:0<k)(h:step s=some (.inr e)):Q2 step k s=some e:=by
 obtain⟨j,rfl⟩:∃j,k=j+1:=⟨k - 1,by omega⟩
 exact JB h
theorem Gd {n:Nat}(m:1700<=n){a6:jVj}{a1:Int}{a2 a3:FnD}{a4:Int}{a5:jSj}{a7:jVj}{a8:jSj}{l a:jVj}{b c:Int}{d e:Bool}{f g h:Int}{i:jVj}{j:jVj}{k:jVj}:Qk n (⟨#[]⟩) a1 a2 a3 a4 a5 a6 a7 a8 l a b c d e f g h i j k=some (0):=by
 unfold Qk;have q:Qg n (⟨#[]⟩) a1 a2 a3 a4 a5 a6 a7 a8 l a b c d e f g h i j k (false,0)=some (.inr (.inr false)):=by unfold Qg;dsimp only;rw[jFj (by decide)]
 rw[Zf (by omega) q,jBj];dsimp only;rw[Zd,jBj];rfl
theorem Qc7 {n:Nat}(p:1700<=n){a1:Int}{a2 a3:FnD}{a4:Int}{a5:jSj}{a7:jVj}{a8:jSj}{m c:jVj}{d e:Int}{f g:Bool}{h i j:Int}{k:jVj}{l:jVj}(b:List jSj)(r:b.length<=992)(a:jSj):Qk n (⟨#[83]⟩) a1 a2 a3 a4 a5 [Sd a] a7 a8 m c d e f g h i j (b.map Sd) k l=some (QF (Zu b a) 9):=by
 unfold Qk;have q:Qg n (⟨#[83]⟩) a1 a2 a3 a4 a5 [Sd a] a7 a8 m c d e f g h i j (b.map Sd) k l (false,0)=some (.inl (Zu b a,1)):=by unfold Qg;dsimp only;rw[jTj (by decide),show WQ ⟨#[83]⟩ 0=some 83 from rfl,jBj,jTj (by decide),jTj (by decide),gs0,W4 b a (by omega) (by omega),jBj,jFj (by decide),jTj (by decide)];rfl
 have o:Qg n (⟨#[83]⟩) a1 a2 a3 a4 a5 [Sd a] a7 a8 m c d e f g h i j (b.map Sd) k l (Zu b a,1)=some (.inr (.inr (Zu b a))):=by unfold Qg;dsimp only;rw[jFj (show ¬(1:Int)<((⟨#[83]⟩:jSj).size:Int) by decide)]
 rw[Wy (by omega) q,Zf (by omega) o,jBj];dsimp only;rw[Zd,jBj]
theorem Qc8 {n:Nat}(p:1700<=n){a1:Int}{a2 a3:FnD}{a4:Int}{a5:jSj}{a7:jVj}{a8:jSj}{m c:jVj}{d e:Int}{f g:Bool}{h i j:Int}{k:jVj}{l:jVj}(b:List Off)(r:b.length<=992)(a:jSj):Qk n (⟨#[79]⟩) a1 a2 a3 a4 a5 [Sd a] a7 a8 m c d e f g h i j k l (b.map Zj)=some (QF (Zu (nmO b) a) 9):=by
 unfold Qk;have q:Qg n (⟨#[79]⟩) a1 a2 a3 a4 a5 [Sd a] a7 a8 m c d e f g h i j k l (b.map Zj) (false,0)=some (.inl (Zu (nmO b) a,1)):=by unfold Qg;dsimp only;rw[jTj (by decide),show WQ ⟨#[79]⟩ 0=some 79 from rfl,jBj,jTj (by decide),jFj (by decide),show IntKind.wrap .u8 (79+32)=111 from by decide,EC b (by omega) (by omega),jBj,gs0,W4 (nmO b) a (by rw[Vq];omega) (by rw[Vq];omega),jBj,jFj (by decide),jTj (by decide)];rfl
 have o:Qg n (⟨#[79]⟩) a1 a2 a3 a4 a5 [Sd a] a7 a8 m c d e f g h i j k l (b.map Zj) (Zu (nmO b) a,1)=some (.inr (.inr (Zu (nmO b) a))):=by unfold Qg;dsimp only;rw[jFj (show ¬(1:Int)<((⟨#[79]⟩:jSj).size:Int) by decide)]
 rw[Wy (by omega) q,Zf (by omega) o,jBj];dsimp only;rw[Zd,jBj]
theorem Qc6 {n:Nat}(r:1700<=n){a1:Int}{a2 a3:FnD}{a4:Int}{a5:jSj}{a7:jVj}{a8:jSj}{o b:jVj}{c d:Int}{e f:Bool}{g i j:Int}{k:jVj}{l:jVj}(m:List jSj)(s:m.length<=992)(a:jSj):Qk n (⟨#[115]⟩) a1 a2 a3 a4 a5 [Sd a] a7 a8 o b c d e f g i j (m.map Sd) k l=some (QF (!Zu m a) 10):=by
 unfold Qk;by_cases h:Zu m a=true
 ·have q:Qg n (⟨#[115]⟩) a1 a2 a3 a4 a5 [Sd a] a7 a8 o b c d e f g i j (m.map Sd) k l (false,0)=some (.inl (false,1)):=by unfold Qg;dsimp only;rw[jTj (by decide),show WQ ⟨#[115]⟩ 0=some 115 from rfl,jBj,jFj (by decide),jTj (by decide),gs0,W4 m a (by omega) (by omega),jBj,jTj h,jFj (by decide),jTj (by decide)];rfl
  have p:Qg n (⟨#[115]⟩) a1 a2 a3 a4 a5 [Sd a] a7 a8 o b c d e f g i j (m.map Sd) k l (false,1)=some (.inr (.inr false)):=by unfold Qg;dsimp only;rw[jFj (show ¬(1:Int)<((⟨#[115]⟩:jSj).size:Int) by decide)]
  rw[Wy (by omega) q,Zf (by omega) p,jBj,h];dsimp only;rw[Zd,jBj];rfl
 ·have q:Qg n (⟨#[115]⟩) a1 a2 a3 a4 a5 [Sd a] a7 a8 o b c d e f g i j (m.map Sd) k l (false,0)=some (.inr (.inl ())):=by unfold Qg;dsimp only;rw[jTj (by decide),show WQ ⟨#[115]⟩ 0=some 115 from rfl,jBj,jFj (by decide),jTj (by decide),gs0,W4 m a (by omega) (by omega),jBj,jFj h]
  rw[Zf (by omega) q,jBj];simp only[Bool.not_eq_true] at h;rw[h];rfl
theorem XO {n:Nat}(r:1700<=n){a1:Int}{a2 a3:FnD}{a4:Int}{a5:jSj}{a7:jVj}{a8:jSj}{m b:jVj}{c d:Int}{e f:Bool}{g i j:Int}{k:jVj}{l:jVj}(ms:List Mir)(p:ms.length<=992)(a:jSj):Qk n (⟨#[109]⟩) a1 a2 a3 a4 a5 [Sd a] a7 a8 m b c d e f g i j k (ms.map QY) l=some (QF (!Zu (nmM ms) a) 10):=by
 unfold Qk;by_cases h:Zu (nmM ms) a=true
 ·have q:Qg n (⟨#[109]⟩) a1 a2 a3 a4 a5 [Sd a] a7 a8 m b c d e f g i j k (ms.map QY) l (false,0)=some (.inl (false,1)):=by unfold Qg;dsimp only;rw[jTj (by decide),show WQ ⟨#[109]⟩ 0=some 109 from rfl,jBj,jFj (by decide),jFj (by decide),UC ms (by omega) (by omega),jBj,gs0,W4 (nmM ms) a (by rw[Zo];omega) (by rw[Zo];omega),jBj,jTj h,jFj (by decide),jTj (by decide)];rfl
  have o:Qg n (⟨#[109]⟩) a1 a2 a3 a4 a5 [Sd a] a7 a8 m b c d e f g i j k (ms.map QY) l (false,1)=some (.inr (.inr false)):=by unfold Qg;dsimp only;rw[jFj (show ¬(1:Int)<((⟨#[109]⟩:jSj).size:Int) by decide)]
  rw[Wy (by omega) q,Zf (by omega) o,jBj,h];dsimp only;rw[Zd,jBj];rfl
 ·have q:Qg n (⟨#[109]⟩) a1 a2 a3 a4 a5 [Sd a] a7 a8 m b c d e f g i j k (ms.map QY) l (false,0)=some (.inr (.inl ())):=by unfold Qg;dsimp only;rw[jTj (by decide),show WQ ⟨#[109]⟩ 0=some 109 from rfl,jBj,jFj (by decide),jFj (by decide),UC ms (by omega) (by omega),jBj,gs0,W4 (nmM ms) a (by rw[Zo];omega) (by rw[Zo];omega),jBj,jFj h]
  rw[Zf (by omega) q,jBj];simp only[Bool.not_eq_true] at h;rw[h];rfl
theorem Qbo {n:Nat}(r:1700<=n){a1:Int}{a2 a3:FnD}{a4:Int}{a5:jSj}{a7:jVj}{a8:jSj}{o c:jVj}{d e:Int}{f g:Bool}{i j k:Int}{l:jVj}{m:jVj}(b:List Off)(s:b.length<=992)(a:jSj):Qk n (⟨#[111]⟩) a1 a2 a3 a4 a5 [Sd a] a7 a8 o c d e f g i j k l m (b.map Zj)=some (QF (!Zu (nmO b) a) 10):=by
 unfold Qk;by_cases h:Zu (nmO b) a=true
 ·have q:Qg n (⟨#[111]⟩) a1 a2 a3 a4 a5 [Sd a] a7 a8 o c d e f g i j k l m (b.map Zj) (false,0)=some (.inl (false,1)):=by unfold Qg;dsimp only;rw[jTj (by decide),show WQ ⟨#[111]⟩ 0=some 111 from rfl,jBj,jFj (by decide),jFj (by decide),EC b (by omega) (by omega),jBj,gs0,W4 (nmO b) a (by rw[Vq];omega) (by rw[Vq];omega),jBj,jTj h,jFj (by decide),jTj (by decide)];rfl
  have p:Qg n (⟨#[111]⟩) a1 a2 a3 a4 a5 [Sd a] a7 a8 o c d e f g i j k l m (b.map Zj) (false,1)=some (.inr (.inr false)):=by unfold Qg;dsimp only;rw[jFj (show ¬(1:Int)<((⟨#[111]⟩:jSj).size:Int) by decide)]
  rw[Wy (by omega) q,Zf (by omega) p,jBj,h];dsimp only;rw[Zd,jBj];rfl
 ·have q:Qg n (⟨#[111]⟩) a1 a2 a3 a4 a5 [Sd a] a7 a8 o c d e f g i j k l m (b.map Zj) (false,0)=some (.inr (.inl ())):=by unfold Qg;dsimp only;rw[jTj (by decide),show WQ ⟨#[111]⟩ 0=some 111 from rfl,jBj,jFj (by decide),jFj (by decide),EC b (by omega) (by omega),jBj,gs0,W4 (nmO b) a (by rw[Vq];omega) (by rw[Vq];omega),jBj,jFj h]
  rw[Zf (by omega) q,jBj];simp only[Bool.not_eq_true] at h;rw[h];rfl
theorem Qcx {n:Nat}(u:1700<=n){a1:Int}{a2 a3:FnD}{a4:Int}{a5:jSj}{a7:jVj}{a8:jSj}{p c:jVj}{d e:Int}{f i:Bool}{j k l:Int}{m:jVj}(o:List jSj)(v:o.length<=992)(ms:List Mir)(t:ms.length<=992)(a b:jSj):Qk n (⟨#[77,115]⟩) a1 a2 a3 a4 a5 [Sd a,Sd b] a7 a8 p c d e f i j k l (o.map Sd) (ms.map QY) m=some (if Zu o b=true then QF (Zu (nmM ms) a) 9 else 10):=by
 unfold Qk;have q:Qg n (⟨#[77,115]⟩) a1 a2 a3 a4 a5 [Sd a,Sd b] a7 a8 p c d e f i j k l (o.map Sd) (ms.map QY) m (false,0)=some (.inl (Zu (nmM ms) a,1)):=by unfold Qg;dsimp only;rw[jTj (by decide),show WQ ⟨#[77,115]⟩ 0=some 77 from rfl,jBj,jTj (by decide),jFj (by decide),show IntKind.wrap .u8 (77+32)=109 from by decide,UC ms (by omega) (by omega),jBj,gs0,W4 (nmM ms) a (by rw[Zo];omega) (by rw[Zo];omega),jBj,jFj (by decide),jTj (by decide)];rfl
 rw[Wy (by omega) q];by_cases h:Zu o b=true
 ·have r:Qg n (⟨#[77,115]⟩) a1 a2 a3 a4 a5 [Sd a,Sd b] a7 a8 p c d e f i j k l (o.map Sd) (ms.map QY) m (Zu (nmM ms) a,1)=some (.inl (Zu (nmM ms) a,2)):=by
   unfold Qg;dsimp only;rw[jTj (show(1:Int)<((⟨#[77,115]⟩:jSj).size:Int) by decide),show WQ ⟨#[77,115]⟩ 1=some 115 from rfl,jBj,jFj (by decide),jTj rfl,gs1,W4 o b (by omega) (by omega),jBj,jTj h];by_cases g:Zu (nmM ms) a=true
   ·rw[jTj g,jTj (by decide),g];rfl
   ·rw[jFj g,jTj (by decide)];simp only[Bool.not_eq_true] at g;rw[g];rfl
  have s:Qg n (⟨#[77,115]⟩) a1 a2 a3 a4 a5 [Sd a,Sd b] a7 a8 p c d e f i j k l (o.map Sd) (ms.map QY) m (Zu (nmM ms) a,2)=some (.inr (.inr (Zu (nmM ms) a))):=by unfold Qg;dsimp only;rw[jFj (show ¬(2:Int)<((⟨#[77,115]⟩:jSj).size:Int) by decide)]
  rw[Wy (by omega) r,Zf (by omega) s,jBj,jTj h];dsimp only;rw[Zd,jBj]
 ·have r:Qg n (⟨#[77,115]⟩) a1 a2 a3 a4 a5 [Sd a,Sd b] a7 a8 p c d e f i j k l (o.map Sd) (ms.map QY) m (Zu (nmM ms) a,1)=some (.inr (.inl ())):=by unfold Qg;dsimp only;rw[jTj (show(1:Int)<((⟨#[77,115]⟩:jSj).size:Int) by decide),show WQ ⟨#[77,115]⟩ 1=some 115 from rfl,jBj,jFj (by decide),jTj rfl,gs1,W4 o b (by omega) (by omega),jBj,jFj h]
  rw[Zf (by omega) r,jBj,jFj h]
theorem Xq {a b c:Int}{x:Option Int}(h:Qt [a,b]=0->x=some c):(if Qt [a,b]=0 then x else some (Qt [a,b]))=some (Qt [a,b,c]):=by
 by_cases d:Qt [a,b]=0
 ·rw[jTj d,h d];have g:=Zv d a (by simp);have i:=Zv d b (by simp);subst g i;simp only[Qt,if_true];by_cases hc:c=0
  ·rw[jTj hc,hc]
  ·rw[jFj hc]
 ·rw[jFj d];simp only[Qt] at d ⊢;by_cases e:a=0
  ·subst e;simp only[if_true] at d ⊢;by_cases f:b=0
   ·subst f;exact absurd rfl d
   ·rw[jFj f,jFj f]
  ·rw[jFj e,jFj e]
theorem qK {a b:Int}(h:Qt [a,b]=0):b=0:=Zv h b (by simp)
theorem YT {b:Bool}{e:Int}(a:e≠0)(h:QF b e=0):b=false:=by
 unfold QF at h;cases b
 ·rfl
 ·exact absurd h a
theorem ZW {b:Bool}(h:QF (!b) 10=0):b=true:=by have:=YT (by decide) h;simpa using this
theorem QaE {α a:Type}(f:α->a)(l:List α)(n:Int):(((l.map f).length:Int)==n)=((l.length:Int)==n):=by rw[jlj]
theorem Qa3 {n c:Nat}(j:1700<=n){r:Reg}(i:Inv c r)(hc:c<=992){num:Int}{kind x:jSj}{names:List jSj}{y:List Int}{evs cnt:jVj}(Q:evs.length<=5000) :
  ∀{k:Ki},k≠.undo->Good (num,kind,names,y,x) k->Qs n num kind (names.map Sd) (y.map I) x evs cnt r.tick r.level r.filled r.tripped r.light r.heat r.money (r.sectors.map Sd) (r.mirrors.map QY) (r.offers.map Zj)=some (if num=(evs.length:Int)+1 then acc k r names y else 11)
 | .sector,_,hg=>by
  have f:=hg.kind;dsimp only[kw] at f;obtain⟨a,t,rfl,rfl,g⟩:=hg.d11 rfl rfl;simp only[jCj,jnj];unfold Qs;rw[jTj (by unfold Qh;omega)];by_cases d:num=(evs.length:Int)+1
  ·rw[jTj d,jTj d,jFj (kne f (by decide))];unfold acc;rw[gi0];by_cases e:t<r.tick
   ·rw[jTj e,jTj (g0 e)]
   rw[jFj e,jFj (g0n e)];have l:okT r t:=okt e g;rw[jTj f,Za i hc j l,jBj];rw[Qc7 j r.sectors (by have:=i.secs;omega) a,jBj,VE (by omega),jBj];refine Xq fun p=>?_;rw[Zd,QaE];rfl
  ·rw[jFj d,jFj d]
 | .mirror,_,hg=>by
  have f:=hg.kind;dsimp only[kw] at f;obtain⟨a,b,t,m,rfl,rfl,g⟩:=hg.d22 rfl rfl;simp only[jCj,jnj];unfold Qs;rw[jTj (by unfold Qh;omega)];by_cases d:num=(evs.length:Int)+1
  ·rw[jTj d,jTj d,jFj (kne f (by decide))];unfold acc;rw[gi0];by_cases e:t<r.tick
   ·rw[jTj e,jTj (g0 e)]
   rw[jFj e,jFj (g0n e)];have l:okT r t:=okt e g;(iterate 1 rw[jFj (dne f (by decide))])
   rw[jTj f,Za i hc j l,jBj];rw[Qcx j r.sectors (by have:=i.secs;omega) r.mirrors (by have:=i.lenM;omega) a b,jBj,VE (by omega),jBj];refine Xq fun p=>?_;rw[gi1,V2,jBj,Zd,jBj,VE (by omega),QaE];rfl
  ·rw[jFj d,jFj d]
 | .soil,_,hg=>by
  have f:=hg.kind;dsimp only[kw] at f;obtain⟨a,t,m,rfl,rfl,g⟩:=hg.d12 rfl rfl;simp only[jCj,jnj];unfold Qs;rw[jTj (by unfold Qh;omega)];by_cases d:num=(evs.length:Int)+1
  ·rw[jTj d,jTj d,jFj (kne f (by decide))];unfold acc;rw[gi0];by_cases e:t<r.tick
   ·rw[jTj e,jTj (g0 e)]
   rw[jFj e,jFj (g0n e)];have l:okT r t:=okt e g;(iterate 2 rw[jFj (dne f (by decide))])
   rw[jTj f,Za i hc j l,jBj];rw[XO j r.mirrors (by have:=i.lenM;omega) a,jBj,VE (by omega),jBj];refine Xq fun p=>?_;rw[gi1,V2];rfl
  ·rw[jFj d,jFj d]
 | .clean,_,hg=>by
  have f:=hg.kind;dsimp only[kw] at f;obtain⟨a,t,rfl,rfl,g⟩:=hg.d11 rfl rfl;simp only[jCj,jnj];unfold Qs;rw[jTj (by unfold Qh;omega)];by_cases d:num=(evs.length:Int)+1
  ·rw[jTj d,jTj d,jFj (kne f (by decide))];unfold acc;rw[gi0];by_cases e:t<r.tick
   ·rw[jTj e,jTj (g0 e)]
   rw[jFj e,jFj (g0n e)];have l:okT r t:=okt e g;(iterate 3 rw[jFj (dne f (by decide))])
   rw[jTj f,Za i hc j l,jBj];rw[XO j r.mirrors (by have:=i.lenM;omega) a,jBj,VE (by omega),jBj];refine Xq fun p=>?_;rfl
  ·rw[jFj d,jFj d]
 | .defect,_,hg=>by
  have f:=hg.kind;dsimp only[kw] at f;obtain⟨a,t,rfl,rfl,g⟩:=hg.d11 rfl rfl;simp only[jCj,jnj];unfold Qs;rw[jTj (by unfold Qh;omega)];by_cases d:num=(evs.length:Int)+1
  ·rw[jTj d,jTj d,jFj (kne f (by decide))];unfold acc;rw[gi0];by_cases e:t<r.tick
   ·rw[jTj e,jTj (g0 e)]
   rw[jFj e,jFj (g0n e)];have l:okT r t:=okt e g;(iterate 4 rw[jFj (dne f (by decide))])
   rw[jTj f,Za i hc j l,jBj];rw[XO j r.mirrors (by have:=i.lenM;omega) a,jBj,VE (by omega),jBj];refine Xq fun p=>?_;have u:=ZW (qK p);obtain⟨q,v,s⟩:=WP u;have o:=Jl q v;rw[gs0,UC _ (by have:=i.lenM;omega) (by have:=i.lenM;omega),jBj,Wb _ _ (by rw[Zo];have:=i.lenM;omega) (by rw[Zo];have:=i.lenM;omega),jBj,jTj o,q,Q4 unM s,jBj];rw[Zd,jBj,Zd,jBj,VE (by omega)];rfl
  ·rw[jFj d,jFj d]
 | .repair,_,hg=>by
  have f:=hg.kind;dsimp only[kw] at f;obtain⟨a,t,rfl,rfl,g⟩:=hg.d11 rfl rfl;simp only[jCj,jnj];unfold Qs;rw[jTj (by unfold Qh;omega)];by_cases d:num=(evs.length:Int)+1
  ·rw[jTj d,jTj d,jFj (kne f (by decide))];unfold acc;rw[gi0];by_cases e:t<r.tick
   ·rw[jTj e,jTj (g0 e)]
   rw[jFj e,jFj (g0n e)];have l:okT r t:=okt e g;(iterate 5 rw[jFj (dne f (by decide))])
   rw[jTj f,Za i hc j l,jBj];rw[XO j r.mirrors (by have:=i.lenM;omega) a,jBj,VE (by omega),jBj];refine Xq fun p=>?_;have u:=ZW (qK p);obtain⟨q,v,s⟩:=WP u;have o:=Jl q v;rw[gs0,UC _ (by have:=i.lenM;omega) (by have:=i.lenM;omega),jBj,Wb _ _ (by rw[Zo];have:=i.lenM;omega) (by rw[Zo];have:=i.lenM;omega),jBj,jTj o,q,Q4 unM s,jBj];rw[Zd];rfl
  ·rw[jFj d,jFj d]
 | .aim,_,hg=>by
  have f:=hg.kind;dsimp only[kw] at f;obtain⟨a,t,rfl,rfl,g⟩:=hg.d11 rfl rfl;simp only[jCj,jnj];unfold Qs;rw[jTj (by unfold Qh;omega)];by_cases d:num=(evs.length:Int)+1
  ·rw[jTj d,jTj d,jFj (kne f (by decide))];unfold acc;rw[gi0];by_cases e:t<r.tick
   ·rw[jTj e,jTj (g0 e)]
   rw[jFj e,jFj (g0n e)];have l:okT r t:=okt e g;(iterate 6 rw[jFj (dne f (by decide))])
   rw[jTj f,Za i hc j l,jBj];rw[XO j r.mirrors (by have:=i.lenM;omega) a,jBj,VE (by omega),jBj];refine Xq fun p=>?_;have u:=ZW (qK p);obtain⟨q,v,s⟩:=WP u;have o:=Jl q v;rw[gs0,UC _ (by have:=i.lenM;omega) (by have:=i.lenM;omega),jBj,Wb _ _ (by rw[Zo];have:=i.lenM;omega) (by rw[Zo];have:=i.lenM;omega),jBj,jTj o,q];rw[Zd,jBj,Zd,jBj,Q4 unM s,jBj,Zd,jBj,Zd,jBj,QaK (by omega)];rfl
  ·rw[jFj d,jFj d]
 | .park,_,hg=>by
  have f:=hg.kind;dsimp only[kw] at f;obtain⟨a,t,rfl,rfl,g⟩:=hg.d11 rfl rfl;simp only[jCj,jnj];unfold Qs;rw[jTj (by unfold Qh;omega)];by_cases d:num=(evs.length:Int)+1
  ·rw[jTj d,jTj d,jFj (kne f (by decide))];unfold acc;rw[gi0];by_cases e:t<r.tick
   ·rw[jTj e,jTj (g0 e)]
   rw[jFj e,jFj (g0n e)];have l:okT r t:=okt e g;(iterate 7 rw[jFj (dne f (by decide))])
   rw[jTj f,Za i hc j l,jBj];rw[XO j r.mirrors (by have:=i.lenM;omega) a,jBj,VE (by omega),jBj];refine Xq fun p=>?_;have u:=ZW (qK p);obtain⟨q,v,s⟩:=WP u;have o:=Jl q v;rw[gs0,UC _ (by have:=i.lenM;omega) (by have:=i.lenM;omega),jBj,Wb _ _ (by rw[Zo];have:=i.lenM;omega) (by rw[Zo];have:=i.lenM;omega),jBj,jTj o,q,Q4 unM s,jBj];rw[Zd];rfl
  ·rw[jFj d,jFj d]
 | .dim,_,hg=>by
  have f:=hg.kind;dsimp only[kw] at f;obtain⟨a,t,rfl,rfl,g⟩:=hg.d11 rfl rfl;simp only[jCj,jnj];unfold Qs;rw[jTj (by unfold Qh;omega)];by_cases d:num=(evs.length:Int)+1
  ·rw[jTj d,jTj d,jFj (kne f (by decide))];unfold acc;rw[gi0];by_cases e:t<r.tick
   ·rw[jTj e,jTj (g0 e)]
   rw[jFj e,jFj (g0n e)];have l:okT r t:=okt e g;(iterate 8 rw[jFj (dne f (by decide))])
   rw[jTj f,Za i hc j l,jBj];rw[Qc6 j r.sectors (by have:=i.secs;omega) a,jBj,VE (by omega),jBj];refine Xq fun p=>?_;rfl
  ·rw[jFj d,jFj d]
 | .sun,_,hg=>by
  have f:=hg.kind;dsimp only[kw] at f;obtain⟨t,m,rfl,rfl,g⟩:=hg.d02 rfl rfl;simp only[jCj,jnj];unfold Qs;rw[jTj (by unfold Qh;omega)];by_cases d:num=(evs.length:Int)+1
  ·rw[jTj d,jTj d,jFj (kne f (by decide))];unfold acc;rw[gi0];by_cases e:t<r.tick
   ·rw[jTj e,jTj (g0 e)]
   rw[jFj e,jFj (g0n e)];have l:okT r t:=okt e g;(iterate 9 rw[jFj (dne f (by decide))])
   rw[jTj f,Za i hc j l,jBj];rw[Gd j,jBj,VE (by omega),jBj];refine Xq fun p=>?_;rw[gi1,V2];rfl
  ·rw[jFj d,jFj d]
 | .fill,_,hg=>by
  have f:=hg.kind;dsimp only[kw] at f;obtain⟨t,rfl,rfl,g⟩:=hg.d01 rfl rfl;simp only[jCj,jnj];unfold Qs;rw[jTj (by unfold Qh;omega)];by_cases d:num=(evs.length:Int)+1
  ·rw[jTj d,jTj d,jFj (kne f (by decide))];unfold acc;rw[gi0];by_cases e:t<r.tick
   ·rw[jTj e,jTj (g0 e)]
   rw[jFj e,jFj (g0n e)];have l:okT r t:=okt e g;(iterate 10 rw[jFj (dne f (by decide))])
   rw[jTj f,Za i hc j l,jBj];rw[Gd j,jBj,VE (by omega),jBj];refine Xq fun p=>?_;rw[Zd];rfl
  ·rw[jFj d,jFj d]
 | .drain,_,hg=>by
  have f:=hg.kind;dsimp only[kw] at f;obtain⟨t,rfl,rfl,g⟩:=hg.d01 rfl rfl;simp only[jCj,jnj];unfold Qs;rw[jTj (by unfold Qh;omega)];by_cases d:num=(evs.length:Int)+1
  ·rw[jTj d,jTj d,jFj (kne f (by decide))];unfold acc;rw[gi0];by_cases e:t<r.tick
   ·rw[jTj e,jTj (g0 e)]
   rw[jFj e,jFj (g0n e)];have l:okT r t:=okt e g;(iterate 11 rw[jFj (dne f (by decide))])
   rw[jTj f,Za i hc j l,jBj];rw[Gd j,jBj,VE (by omega),jBj];refine Xq fun p=>?_;rw[Zd,jBj,QdF _ (by have:=i.lenM;omega) (by have:=i.lenM;omega),jBj,Zd,jBj,VE (by omega)];rfl
  ·rw[jFj d,jFj d]
 | .trip,_,hg=>by
  have f:=hg.kind;dsimp only[kw] at f;obtain⟨t,rfl,rfl,g⟩:=hg.d01 rfl rfl;simp only[jCj,jnj];unfold Qs;rw[jTj (by unfold Qh;omega)];by_cases d:num=(evs.length:Int)+1
  ·rw[jTj d,jTj d,jFj (kne f (by decide))];unfold acc;rw[gi0];by_cases e:t<r.tick
   ·rw[jTj e,jTj (g0 e)]
   rw[jFj e,jFj (g0n e)];have l:okT r t:=okt e g;(iterate 12 rw[jFj (dne f (by decide))])
   rw[jTj f,Za i hc j l,jBj];rw[Gd j,jBj,VE (by omega),jBj];refine Xq fun p=>?_;rw[Zd];rfl
  ·rw[jFj d,jFj d]
 | .reset,_,hg=>by
  have f:=hg.kind;dsimp only[kw] at f;obtain⟨t,rfl,rfl,g⟩:=hg.d01 rfl rfl;simp only[jCj,jnj];unfold Qs;rw[jTj (by unfold Qh;omega)];by_cases d:num=(evs.length:Int)+1
  ·rw[jTj d,jTj d,jFj (kne f (by decide))];unfold acc;rw[gi0];by_cases e:t<r.tick
   ·rw[jTj e,jTj (g0 e)]
   rw[jFj e,jFj (g0n e)];have l:okT r t:=okt e g;(iterate 13 rw[jFj (dne f (by decide))])
   rw[jTj f,Za i hc j l,jBj];rw[Gd j,jBj,VE (by omega),jBj];refine Xq fun p=>?_;rw[Zd];rfl
  ·rw[jFj d,jFj d]
 | .offer,_,hg=>by
  have f:=hg.kind;dsimp only[kw] at f;obtain⟨a,t,m,z,A,C,rfl,rfl,g⟩:=hg.d15 rfl rfl;simp only[jCj,jnj];unfold Qs;rw[jTj (by unfold Qh;omega)];by_cases d:num=(evs.length:Int)+1
  ·rw[jTj d,jTj d,jFj (kne f (by decide))];unfold acc;rw[gi0];by_cases e:t<r.tick
   ·rw[jTj e,jTj (g0 e)]
   rw[jFj e,jFj (g0n e)];have l:okT r t:=okt e g;(iterate 14 rw[jFj (dne f (by decide))])
   rw[jTj f,Za i hc j l,jBj];rw[Qc8 j r.offers (by have:=i.lenO;omega) a,jBj,VE (by omega),jBj];refine Xq fun p=>?_;have P:WL n num kind [Sd a] [I t,I m,I z,I A,I C] x=some (m,z,ws [t,m,z,A,C]):=by
    unfold WL;rw[gi1,gi2,gi0];unfold ws;by_cases h:m<t
    ·rw[jTj h,jTj (show[t,m,z,A,C].getD 1 0<[t,m,z,A,C].getD 0 0 from h)];rfl
    ·rw[jFj h,jFj (show ¬[t,m,z,A,C].getD 1 0<[t,m,z,A,C].getD 0 0 from h),Zd];rfl
   rw[P,jBj,gi3,V2,jBj,gi4,V2,jBj,Zd,jBj,QaK (by omega),QaE];rfl
  ·rw[jFj d,jFj d]
 | .deliver,_,hg=>by
  have f:=hg.kind;dsimp only[kw] at f;obtain⟨a,t,m,rfl,rfl,g⟩:=hg.d12 rfl rfl;simp only[jCj,jnj];unfold Qs;rw[jTj (by unfold Qh;omega)];by_cases d:num=(evs.length:Int)+1
  ·rw[jTj d,jTj d,jFj (kne f (by decide))];unfold acc;rw[gi0];by_cases e:t<r.tick
   ·rw[jTj e,jTj (g0 e)]
   rw[jFj e,jFj (g0n e)];have l:okT r t:=okt e g;(iterate 15 rw[jFj (dne f (by decide))])
   rw[jTj f,Za i hc j l,jBj];rw[Qbo j r.offers (by have:=i.lenO;omega) a,jBj,VE (by omega),jBj];refine Xq fun p=>?_;have u:=ZW (qK p);obtain⟨q,v,s⟩:=JV u;have E:=i.offs _ (jgj s);have o:=uS q v;rw[gs0,EC _ (by have:=i.lenO;omega) (by have:=i.lenO;omega),jBj,Wb _ _ (by rw[Vq];have:=i.lenO;omega) (by rw[Vq];have:=i.lenO;omega),jBj,jTj o,q];rw[gi1,Q4 unO s,jBj,Zd,jBj];have O:∀w:Int,((Qm n (m==0) 3).bind fun J=>(Zg n (oAt r.offers a).1 (oAt r.offers a).2.1 (oAt r.offers a).2.2.1 (oAt r.offers a).2.2.2.1 (oAt r.offers a).2.2.2.2.1 (oAt r.offers a).2.2.2.2.2.1 (oAt r.offers a).2.2.2.2.2.2).bind fun K =>
     (Qm n (decide (m>K)) 20).bind fun L=>(Qo n ([I (QF (oAt r.offers a).2.2.2.2.2.2 23),I w,I J,I L])).bind fun F =>
     if F=0 then(if Qh (m*1000000) then(Q8 n t evs cnt r.tick r.level r.filled r.tripped r.light r.heat r.money (r.sectors.map Sd) (r.mirrors.map QY) (r.offers.map Zj)).bind fun M=>(Qm n (decide ((m*1000000)>M.2)) 16).bind fun N=>some N else none) else some F) =
     some (if Qt [QF (oAt r.offers a).2.2.2.2.2.2 23,w,QF (m==0) 3,QF (decide (m>Ws (oAt r.offers a))) 20]=0 then QF (decide (m*1000000>r.heat+ZL r t)) 16 else Qt [QF (oAt r.offers a).2.2.2.2.2.2 23,w,QF (m==0) 3,QF (decide (m>Ws (oAt r.offers a))) 20]):=by
    intro w;rw[Zd,jBj,Qag n E,jBj,Zd,jBj,QaK (by omega),jBj];by_cases H:Qt [QF (oAt r.offers a).2.2.2.2.2.2 23,w,QF (m==0) 3,QF (decide (m>Ws (oAt r.offers a))) 20]=0
    ·have S:=hg.val m (by simp);rw[jTj H,jTj H,jTj (by unfold Qh;omega),Z7 i hc j l,jBj,Zd,jBj]
    ·rw[jFj H,jFj H]
   unfold spec;simp only[List.getD_cons_zero,List.getD_cons_succ];by_cases G:t<(oAt r.offers a).2.1
   ·rw[jTj G];simp only[jTj G];exact O 14
   ·rw[jFj G,Zd,jBj];simp only[jFj G];exact O _
  ·rw[jFj d,jFj d]
 | .bill,_,hg=>by
  have f:=hg.kind;dsimp only[kw] at f;obtain⟨a,t,rfl,rfl,g⟩:=hg.d11 rfl rfl;simp only[jCj,jnj];unfold Qs;rw[jTj (by unfold Qh;omega)];by_cases d:num=(evs.length:Int)+1
  ·rw[jTj d,jTj d,jFj (kne f (by decide))];unfold acc;rw[gi0];by_cases e:t<r.tick
   ·rw[jTj e,jTj (g0 e)]
   rw[jFj e,jFj (g0n e)];have l:okT r t:=okt e g;(iterate 16 rw[jFj (dne f (by decide))])
   rw[jTj f,Za i hc j l,jBj];rw[Qbo j r.offers (by have:=i.lenO;omega) a,jBj,VE (by omega),jBj];refine Xq fun p=>?_;have u:=ZW (qK p);obtain⟨q,v,s⟩:=JV u;have E:=i.offs _ (jgj s);have o:=uS q v;rw[gs0,EC _ (by have:=i.lenO;omega) (by have:=i.lenO;omega),jBj,Wb _ _ (by rw[Vq];have:=i.lenO;omega) (by rw[Vq];have:=i.lenO;omega),jBj,jTj o,q,Q4 unO s,jBj];rw[Zd,jBj,Zd,jBj,VE (by omega)];rfl
  ·rw[jFj d,jFj d]
 | .undo,h,_=>absurd rfl h
def X7 (cnt:List Ev):Int:=match cnt.getLast? with
 | none=>12
 | some e=>if e.2.1.data.toList=kw .deliver\/e.2.1.data.toList=kw .bill then 21 else 0
theorem uc {n:Nat}(r:Reg){num:Int}{kind b:jSj}{names:List jSj}{c:List Int}{evs:jVj}(o:evs.length<=5000)(cnt:List Ev)(l:cnt.length<=5000)
  (m:Good (num,kind,names,c,b) .undo):Qs n num kind (names.map Sd) (c.map I) b evs (cnt.map Zr) r.tick r.level r.filled r.tripped r.light r.heat r.money (r.sectors.map Sd) (r.mirrors.map QY) (r.offers.map Zj)=some (if num=(evs.length:Int)+1 then X7 cnt else 11):=by
 have j:=m.kind;dsimp only at j;unfold Qs;rw[jTj (by unfold Qh;omega)];by_cases a:num=(evs.length:Int)+1
 ·rw[jTj a,jTj a,jTj (keq j rfl)];unfold X7;cases hl:cnt.getLast? with
  | none =>
   rw[List.getLast?_eq_none_iff.1 hl];rfl
  | some e =>
   have g:cnt≠[]:=fun h=>by rw[h] at hl;cases hl
   have k:=List.length_pos_iff.2 g;rw[List.getLast?_eq_getElem?] at hl;have hi:(((cnt.map Zr).length:Int) - 1)=((cnt.length - 1:Nat):Int):=by rw[jlj];omega
   rw[jFj (by rw[jlj];omega),hi,jTj (by unfold Qh;omega),jTj (by rw[jlj];omega),jtj,Ub,List.getElem?_map,hl];show(if(e.2.1.toList==(⟨#[100,101,108,105,118,101,114]⟩:jSj).toList)=true then(Un n).bind (fun i=>some i) else(Qm n (e.2.1.toList==(⟨#[98,105,108,108]⟩:jSj).toList) 21).bind fun i=>some i)=some (if e.2.1.data.toList=kw .deliver\/e.2.1.data.toList=kw .bill then 21 else 0);by_cases d:e.2.1.data.toList=kw .deliver
   ·rw[jTj (keq d rfl),jTj (.inl d)];rfl
   ·rw[jFj (fun h=>d (by rw[kq] at h;exact h)),Zd,jBj];by_cases f:e.2.1.data.toList=kw .bill
    ·rw[jTj (.inr f)];unfold QF;rw[jTj (keq f rfl)]
    ·rw[jFj (by rintro(h|h);exact d h;exact f h)];unfold QF;rw[jFj (fun h=>f (by rw[kq] at h;exact h))]
 ·rw[jFj a,jFj a]
def bkd (r:Reg)(t:Int):Reg:={ r with tick:=t,light:=r.light+ZL r t,heat:=r.heat+ZL r t }
def chgM (r:Reg)(a:jSj)(m:Mir):Reg:={ r with mirrors:=r.mirrors.set (iM r.mirrors a) m }
def chgO (r:Reg)(a:jSj)(o:Off):Reg:={ r with offers:=r.offers.set (iO r.offers a) o }
def X8 (m:Mir)(v:Int):Mir:=(m.1,m.2.1,m.2.2.1,v,m.2.2.2.2.1,m.2.2.2.2.2)
def zU (m:Mir)(b:Bool):Mir:=(m.1,m.2.1,m.2.2.1,m.2.2.2.1,b,m.2.2.2.2.2)
def aimM (m:Mir):Mir:=(m.1,m.2.1,m.2.2.1,m.2.2.2.1,m.2.2.2.2.1,true)
def yO (o:Off)(v:Int):Off:=(o.1,o.2.1,o.2.2.1,o.2.2.2.1,o.2.2.2.2.1,o.2.2.2.2.2.1+v,o.2.2.2.2.2.2)
def GV (o:Off):Off:=(o.1,o.2.1,o.2.2.1,o.2.2.2.1,o.2.2.2.2.1,o.2.2.2.2.2.1,true)
def act (k:Ki)(q:Reg)(ns:List jSj)(vs:List Int):Reg:=match k with
 | .sector=>{ q with sectors:=q.sectors++[ns.getD 0 ⟨#[]⟩] }
 | .mirror=>{ q with mirrors:=q.mirrors++[(ns.getD 0 ⟨#[]⟩,ns.getD 1 ⟨#[]⟩,vs.getD 1 0,0,false,false)] }
 | .soil=>chgM q (ns.getD 0 ⟨#[]⟩) (X8 (mAt q.mirrors (ns.getD 0 ⟨#[]⟩)) (vs.getD 1 0))
 | .clean=>chgM q (ns.getD 0 ⟨#[]⟩) (X8 (mAt q.mirrors (ns.getD 0 ⟨#[]⟩)) 0)
 | .defect=>chgM q (ns.getD 0 ⟨#[]⟩) (zU (mAt q.mirrors (ns.getD 0 ⟨#[]⟩)) true)
 | .repair=>chgM q (ns.getD 0 ⟨#[]⟩) (zU (mAt q.mirrors (ns.getD 0 ⟨#[]⟩)) false)
 | .aim=>chgM q (ns.getD 0 ⟨#[]⟩) (aimM (mAt q.mirrors (ns.getD 0 ⟨#[]⟩)))
 | .park=>chgM q (ns.getD 0 ⟨#[]⟩) (Ka (mAt q.mirrors (ns.getD 0 ⟨#[]⟩)))
 | .dim=>{ q with mirrors:=q.mirrors.map (EN (ns.getD 0 ⟨#[]⟩)) }
 | .sun=>{ q with level:=vs.getD 1 0 }
 | .fill=>{ q with filled:=true }
 | .drain=>{ q with filled:=false }
 | .trip=>{ q with tripped:=true,mirrors:=q.mirrors.map Ka }
 | .reset=>{ q with tripped:=false }
 | .offer=>{ q with offers:=q.offers++[(ns.getD 0 ⟨#[]⟩,vs.getD 1 0,vs.getD 2 0,vs.getD 3 0,vs.getD 4 0,0,false)] }
 | .deliver=>{ chgO q (ns.getD 0 ⟨#[]⟩) (yO (oAt q.offers (ns.getD 0 ⟨#[]⟩)) (vs.getD 1 0)) with heat:=q.heat - 1000000*vs.getD 1 0 }
 | .bill=>{ chgO q (ns.getD 0 ⟨#[]⟩) (GV (oAt q.offers (ns.getD 0 ⟨#[]⟩))) with money:=q.money+U5 (oAt q.offers (ns.getD 0 ⟨#[]⟩)) }
 | .undo=>q
def app (k:Ki)(r:Reg)(ns:List jSj)(vs:List Int):Reg:=act k (bkd r (vs.getD 0 0)) ns vs
abbrev X1:=Int×Int×Bool×Bool×Int×Int×Int×jVj×jVj×jVj
def Vb (r:Reg):X1:=(r.tick,r.level,r.filled,r.tripped,r.light,r.heat,r.money,r.sectors.map Sd,r.mirrors.map QY,r.offers.map Zj)
theorem set_encO {s:List Off}{i:Nat}{y:Off}:List.set (s.map Zj) i (Zj y)=(s.set i y).map Zj:=by rw[List.map_set]
theorem QS {k:Ki}{r:Reg}{ns:List jSj}{vs:List Int}(h:acc k r ns vs=0):¬vs.getD 0 0<r.tick/\Zk r (vs.getD 0 0)=0/\known k r ns=0/\spec k r ns vs=0:=by
 unfold acc at h;by_cases a:vs.getD 0 0<r.tick
 ·rw[jTj a] at h;cases h
 ·rw[jFj a] at h;exact⟨a,Zv h _ (by simp),Zv h _ (by simp),Zv h _ (by simp)⟩
theorem EO {r:Reg}{a:jSj}{t b:Int}(h:spec .deliver r [a] [t,b]=0):(oAt r.offers a).2.2.2.2.2.2=false/\b≠0/\b<=Ws (oAt r.offers a)/\b*1000000<=r.heat+ZL r t:=by
 have h:(if Qt [QF (oAt r.offers a).2.2.2.2.2.2 23,(if t<(oAt r.offers a).2.1 then 14 else QF (decide (t>=(oAt r.offers a).2.2.1)) 14),QF (b==0) 3,QF (decide (b>Ws (oAt r.offers a))) 20]=0 then QF (decide (b*1000000>r.heat+ZL r t)) 16 else Qt [QF (oAt r.offers a).2.2.2.2.2.2 23,(if t<(oAt r.offers a).2.1 then 14 else QF (decide (t>=(oAt r.offers a).2.2.1)) 14),QF (b==0) 3,QF (decide (b>Ws (oAt r.offers a))) 20])=0:=h;by_cases c:Qt [QF (oAt r.offers a).2.2.2.2.2.2 23,(if t<(oAt r.offers a).2.1 then 14 else QF (decide (t>=(oAt r.offers a).2.2.1)) 14),QF (b==0) 3,QF (decide (b>Ws (oAt r.offers a))) 20]=0
 ·rw[jTj c] at h;have a1:=YT (e:=23) (by decide) (Zv c (QF (oAt r.offers a).2.2.2.2.2.2 23) (by simp));have a2:=YT (e:=3) (by decide) (Zv c (QF (b==0) 3) (by simp));have a3:=YT (e:=20) (by decide) (Zv c (QF (decide (b>Ws (oAt r.offers a))) 20) (by simp));have a4:=YT (e:=16) (by decide) h;have d:=of_decide_eq_false a3;have f:=of_decide_eq_false a4;refine⟨a1,by simpa using a2,by omega,by omega⟩
 ·rw[jFj c] at h;exact absurd h c
theorem QcN {n c:Nat}(v:1700<=n){r:Reg}(g:Inv c r)(hc:c<=992){num:Int}{kind F:jSj}{names:List jSj}{C:List Int} :
  ∀{k:Ki},k≠.undo->Good (num,kind,names,C,F) k->acc k r names C=0->Qz n num kind (names.map Sd) (C.map I) F r.tick r.level r.filled r.tripped r.light r.heat r.money (r.sectors.map Sd) (r.mirrors.map QY) (r.offers.map Zj)=some (Vb (app k r names C))
 | .sector,_,hg,ha=>by have f:=hg.kind;dsimp only[kw] at f;obtain⟨a,t,rfl,rfl,e⟩:=hg.d11 rfl rfl;obtain⟨d,p,j,m⟩:=QS ha;have o:okT r t:=okt d e;simp only[jCj,jnj];refine Eq.trans ?_ (show some (rtM r t ((r.sectors++[a]).map Sd) (r.mirrors.map QY) (r.offers.map Zj))=some (Vb (app .sector r [a] [t])) from rfl);unfold Qz;rw[gi0,Wc g hc v o,jBj];rw[jTj f];rw[gs0,jTj (rmS g),List.map_append];rfl
 | .mirror,_,hg,ha=>by
  have f:=hg.kind;dsimp only[kw] at f;obtain⟨a,b,t,u,rfl,rfl,e⟩:=hg.d22 rfl rfl;obtain⟨d,p,j,m⟩:=QS ha;have o:okT r t:=okt d e;simp only[jCj,jnj];refine Eq.trans ?_ (show some (rtM r t (r.sectors.map Sd) ((r.mirrors++[((a,b,u,0,false,false):Mir)]).map QY) (r.offers.map Zj))=some (Vb (app .mirror r [a,b] [t,u])) from rfl);unfold Qz;rw[gi0,Wc g hc v o,jBj];(iterate 1 rw[jFj (dne f (by decide))])
  rw[jTj f];rw[gs0,gs1,gi1,jTj (rmM g (by omega)),List.map_append];rfl
 | .soil,_,hg,ha=>by
  have f:=hg.kind;dsimp only[kw] at f;obtain⟨a,t,u,rfl,rfl,e⟩:=hg.d12 rfl rfl;obtain⟨d,p,j,m⟩:=QS ha;have o:okT r t:=okt d e;simp only[jCj,jnj];refine Eq.trans ?_ (show some (rtM r t (r.sectors.map Sd) ((r.mirrors.set (iM r.mirrors a) (X8 (mAt r.mirrors a) u)).map QY) (r.offers.map Zj))=some (Vb (app .soil r [a] [t,u])) from rfl);unfold Qz;rw[gi0,Wc g hc v o,jBj];(iterate 2 rw[jFj (dne f (by decide))])
  rw[jTj f];have A:Zu (nmM r.mirrors) a=true:=ZW j;obtain⟨s,z,y⟩:=WP A;have q:=Jl s z;rw[gs0,XN _ (by have:=g.lenM;omega) (by have:=g.lenM;omega),jBj,Wb _ _ (by rw[Zo];have:=g.lenM;omega) (by rw[Zo];have:=g.lenM;omega),jBj,jTj q,s];rw[gi1];rw[Q4 unM y,jBj,<-WH,jtj];rfl
 | .clean,_,hg,ha=>by
  have f:=hg.kind;dsimp only[kw] at f;obtain⟨a,t,rfl,rfl,e⟩:=hg.d11 rfl rfl;obtain⟨d,p,j,m⟩:=QS ha;have o:okT r t:=okt d e;simp only[jCj,jnj];refine Eq.trans ?_ (show some (rtM r t (r.sectors.map Sd) ((r.mirrors.set (iM r.mirrors a) (X8 (mAt r.mirrors a) 0)).map QY) (r.offers.map Zj))=some (Vb (app .clean r [a] [t])) from rfl);unfold Qz;rw[gi0,Wc g hc v o,jBj];(iterate 3 rw[jFj (dne f (by decide))])
  rw[jTj f];have A:Zu (nmM r.mirrors) a=true:=ZW j;obtain⟨s,z,y⟩:=WP A;have q:=Jl s z;rw[gs0,XN _ (by have:=g.lenM;omega) (by have:=g.lenM;omega),jBj,Wb _ _ (by rw[Zo];have:=g.lenM;omega) (by rw[Zo];have:=g.lenM;omega),jBj,jTj q,s];rw[Q4 unM y,jBj,<-WH,jtj];rfl
 | .defect,_,hg,ha=>by
  have f:=hg.kind;dsimp only[kw] at f;obtain⟨a,t,rfl,rfl,e⟩:=hg.d11 rfl rfl;obtain⟨d,p,j,m⟩:=QS ha;have o:okT r t:=okt d e;simp only[jCj,jnj];refine Eq.trans ?_ (show some (rtM r t (r.sectors.map Sd) ((r.mirrors.set (iM r.mirrors a) (zU (mAt r.mirrors a) true)).map QY) (r.offers.map Zj))=some (Vb (app .defect r [a] [t])) from rfl);unfold Qz;rw[gi0,Wc g hc v o,jBj];(iterate 4 rw[jFj (dne f (by decide))])
  rw[jTj f];have A:Zu (nmM r.mirrors) a=true:=ZW j;obtain⟨s,z,y⟩:=WP A;have q:=Jl s z;rw[gs0,XN _ (by have:=g.lenM;omega) (by have:=g.lenM;omega),jBj,Wb _ _ (by rw[Zo];have:=g.lenM;omega) (by rw[Zo];have:=g.lenM;omega),jBj,jTj q,s];rw[Q4 unM y,jBj,<-WH,jtj];rfl
 | .repair,_,hg,ha=>by
  have f:=hg.kind;dsimp only[kw] at f;obtain⟨a,t,rfl,rfl,e⟩:=hg.d11 rfl rfl;obtain⟨d,p,j,m⟩:=QS ha;have o:okT r t:=okt d e;simp only[jCj,jnj];refine Eq.trans ?_ (show some (rtM r t (r.sectors.map Sd) ((r.mirrors.set (iM r.mirrors a) (zU (mAt r.mirrors a) false)).map QY) (r.offers.map Zj))=some (Vb (app .repair r [a] [t])) from rfl);unfold Qz;rw[gi0,Wc g hc v o,jBj];(iterate 5 rw[jFj (dne f (by decide))])
  rw[jTj f];have A:Zu (nmM r.mirrors) a=true:=ZW j;obtain⟨s,z,y⟩:=WP A;have q:=Jl s z;rw[gs0,XN _ (by have:=g.lenM;omega) (by have:=g.lenM;omega),jBj,Wb _ _ (by rw[Zo];have:=g.lenM;omega) (by rw[Zo];have:=g.lenM;omega),jBj,jTj q,s];rw[Q4 unM y,jBj,<-WH,jtj];rfl
 | .aim,_,hg,ha=>by
  have f:=hg.kind;dsimp only[kw] at f;obtain⟨a,t,rfl,rfl,e⟩:=hg.d11 rfl rfl;obtain⟨d,p,j,m⟩:=QS ha;have o:okT r t:=okt d e;simp only[jCj,jnj];refine Eq.trans ?_ (show some (rtM r t (r.sectors.map Sd) ((r.mirrors.set (iM r.mirrors a) (aimM (mAt r.mirrors a))).map QY) (r.offers.map Zj))=some (Vb (app .aim r [a] [t])) from rfl);unfold Qz;rw[gi0,Wc g hc v o,jBj];(iterate 6 rw[jFj (dne f (by decide))])
  rw[jTj f];have A:Zu (nmM r.mirrors) a=true:=ZW j;obtain⟨s,z,y⟩:=WP A;have q:=Jl s z;rw[gs0,XN _ (by have:=g.lenM;omega) (by have:=g.lenM;omega),jBj,Wb _ _ (by rw[Zo];have:=g.lenM;omega) (by rw[Zo];have:=g.lenM;omega),jBj,jTj q,s];rw[Q4 unM y,jBj,<-WH,jtj];rfl
 | .park,_,hg,ha=>by
  have f:=hg.kind;dsimp only[kw] at f;obtain⟨a,t,rfl,rfl,e⟩:=hg.d11 rfl rfl;obtain⟨d,p,j,m⟩:=QS ha;have o:okT r t:=okt d e;simp only[jCj,jnj];refine Eq.trans ?_ (show some (rtM r t (r.sectors.map Sd) ((r.mirrors.set (iM r.mirrors a) (Ka (mAt r.mirrors a))).map QY) (r.offers.map Zj))=some (Vb (app .park r [a] [t])) from rfl);unfold Qz;rw[gi0,Wc g hc v o,jBj];(iterate 7 rw[jFj (dne f (by decide))])
  rw[jTj f];have A:Zu (nmM r.mirrors) a=true:=ZW j;obtain⟨s,z,y⟩:=WP A;have q:=Jl s z;rw[gs0,XN _ (by have:=g.lenM;omega) (by have:=g.lenM;omega),jBj,Wb _ _ (by rw[Zo];have:=g.lenM;omega) (by rw[Zo];have:=g.lenM;omega),jBj,jTj q,s];rw[Q4 unM y,jBj,<-WH,jtj];rfl
 | .dim,_,hg,ha=>by
  have f:=hg.kind;dsimp only[kw] at f;obtain⟨a,t,rfl,rfl,e⟩:=hg.d11 rfl rfl;obtain⟨d,p,j,m⟩:=QS ha;have o:okT r t:=okt d e;simp only[jCj,jnj];refine Eq.trans ?_ (show some (rtM r t (r.sectors.map Sd) ((r.mirrors.map (EN a)).map QY) (r.offers.map Zj))=some (Vb (app .dim r [a] [t])) from rfl);unfold Qz;rw[gi0,Wc g hc v o,jBj];(iterate 8 rw[jFj (dne f (by decide))])
  rw[jTj f];rw[QdO _ (by have:=g.lenM;omega) (by have:=g.lenM;omega),jBj]
 | .sun,_,hg,ha=>by
  have f:=hg.kind;dsimp only[kw] at f;obtain⟨t,u,rfl,rfl,e⟩:=hg.d02 rfl rfl;obtain⟨d,p,j,m⟩:=QS ha;have o:okT r t:=okt d e;simp only[jCj,jnj];refine Eq.trans ?_ (show some ((t,u,r.filled,r.tripped,r.light+ZL r t,r.heat+ZL r t,r.money,r.sectors.map Sd,r.mirrors.map QY,r.offers.map Zj):X1)=some (Vb (app .sun r [] [t,u])) from rfl);unfold Qz;rw[gi0,Wc g hc v o,jBj];(iterate 9 rw[jFj (dne f (by decide))])
  rw[jTj f];rw[gi1]
 | .fill,_,hg,ha=>by
  have f:=hg.kind;dsimp only[kw] at f;obtain⟨t,rfl,rfl,e⟩:=hg.d01 rfl rfl;obtain⟨d,p,j,m⟩:=QS ha;have o:okT r t:=okt d e;simp only[jCj,jnj];refine Eq.trans ?_ (show some ((t,r.level,true,r.tripped,r.light+ZL r t,r.heat+ZL r t,r.money,r.sectors.map Sd,r.mirrors.map QY,r.offers.map Zj):X1)=some (Vb (app .fill r [] [t])) from rfl);unfold Qz;rw[gi0,Wc g hc v o,jBj];(iterate 10 rw[jFj (dne f (by decide))])
  rw[jTj f]
 | .drain,_,hg,ha=>by
  have f:=hg.kind;dsimp only[kw] at f;obtain⟨t,rfl,rfl,e⟩:=hg.d01 rfl rfl;obtain⟨d,p,j,m⟩:=QS ha;have o:okT r t:=okt d e;simp only[jCj,jnj];refine Eq.trans ?_ (show some ((t,r.level,false,r.tripped,r.light+ZL r t,r.heat+ZL r t,r.money,r.sectors.map Sd,r.mirrors.map QY,r.offers.map Zj):X1)=some (Vb (app .drain r [] [t])) from rfl);unfold Qz;rw[gi0,Wc g hc v o,jBj];(iterate 11 rw[jFj (dne f (by decide))])
  rw[jTj f]
 | .trip,_,hg,ha=>by
  have f:=hg.kind;dsimp only[kw] at f;obtain⟨t,rfl,rfl,e⟩:=hg.d01 rfl rfl;obtain⟨d,p,j,m⟩:=QS ha;have o:okT r t:=okt d e;simp only[jCj,jnj];refine Eq.trans ?_ (show some ((t,r.level,r.filled,true,r.light+ZL r t,r.heat+ZL r t,r.money,r.sectors.map Sd,(r.mirrors.map Ka).map QY,r.offers.map Zj):X1)=some (Vb (app .trip r [] [t])) from rfl);unfold Qz;rw[gi0,Wc g hc v o,jBj];(iterate 12 rw[jFj (dne f (by decide))])
  rw[jTj f];rw[QdN _ (by have:=g.lenM;omega) (by have:=g.lenM;omega),jBj]
 | .reset,_,hg,ha=>by
  have f:=hg.kind;dsimp only[kw] at f;obtain⟨t,rfl,rfl,e⟩:=hg.d01 rfl rfl;obtain⟨d,p,j,m⟩:=QS ha;have o:okT r t:=okt d e;simp only[jCj,jnj];refine Eq.trans ?_ (show some ((t,r.level,r.filled,false,r.light+ZL r t,r.heat+ZL r t,r.money,r.sectors.map Sd,r.mirrors.map QY,r.offers.map Zj):X1)=some (Vb (app .reset r [] [t])) from rfl);unfold Qz;rw[gi0,Wc g hc v o,jBj];(iterate 13 rw[jFj (dne f (by decide))])
  rw[jTj f]
 | .offer,_,hg,ha=>by
  have f:=hg.kind;dsimp only[kw] at f;obtain⟨a,t,u,H,N,O,rfl,rfl,e⟩:=hg.d15 rfl rfl;obtain⟨d,p,j,m⟩:=QS ha;have o:okT r t:=okt d e;simp only[jCj,jnj];refine Eq.trans ?_ (show some (rtM r t (r.sectors.map Sd) (r.mirrors.map QY) ((r.offers++[((a,u,H,N,O,0,false):Off)]).map Zj))=some (Vb (app .offer r [a] [t,u,H,N,O])) from rfl);unfold Qz;rw[gi0,Wc g hc v o,jBj];(iterate 14 rw[jFj (dne f (by decide))])
  rw[jTj f];have M:∃w,WL n num kind [Sd a] [I t,I u,I H,I N,I O] F=some (u,H,w):=by
   unfold WL;rw[gi1,gi2,gi0];by_cases h:u<t
   ·rw[jTj h];exact⟨14,rfl⟩
   ·rw[jFj h,Zd];exact⟨_,rfl⟩
  obtain⟨w,M⟩:=M;rw[M,jBj,gs0,gi3,gi4,jTj (rmO g (by omega)),List.map_append];rfl
 | .deliver,_,hg,ha=>by
  have f:=hg.kind;dsimp only[kw] at f;obtain⟨a,t,u,rfl,rfl,e⟩:=hg.d12 rfl rfl;obtain⟨d,p,j,m⟩:=QS ha;have o:okT r t:=okt d e;simp only[jCj,jnj];refine Eq.trans ?_ (show some ((t,r.level,r.filled,r.tripped,r.light+ZL r t,r.heat+ZL r t - 1000000*u,r.money,r.sectors.map Sd,r.mirrors.map QY,(r.offers.set (iO r.offers a) (yO (oAt r.offers a) u)).map Zj):X1)=some (Vb (app .deliver r [a] [t,u])) from rfl);unfold Qz;rw[gi0,Wc g hc v o,jBj];(iterate 15 rw[jFj (dne f (by decide))])
  rw[jTj f];have A:Zu (nmO r.offers) a=true:=ZW j;obtain⟨s,z,y⟩:=JV A;have E:=g.offs _ (jgj y);have q:=uS s z;rw[gs0,Qbh _ (by have:=g.lenO;omega) (by have:=g.lenO;omega),jBj,Wb _ _ (by rw[Vq];have:=g.lenO;omega) (by rw[Vq];have:=g.lenO;omega),jBj,jTj q,s];have Q:=EO m;have P:=YF E;have W:=hg.val u (by simp);have T:=K4 g hc o;have U:=g.heat;have K:=Q.2.2.1;have S:=E.2.2;unfold Ws at K;rw[Q4 unO y,jBj,gi1,jTj (by unfold Qh;have:=E.1;omega),jTj (by unfold Qh;omega),jTj (by unfold Qh;omega),<-set_encO,jtj];rfl
 | .bill,_,hg,ha=>by
  have f:=hg.kind;dsimp only[kw] at f;obtain⟨a,t,rfl,rfl,e⟩:=hg.d11 rfl rfl;obtain⟨d,p,j,m⟩:=QS ha;have o:okT r t:=okt d e;simp only[jCj,jnj];refine Eq.trans ?_ (show some ((t,r.level,r.filled,r.tripped,r.light+ZL r t,r.heat+ZL r t,r.money+U5 (oAt r.offers a),r.sectors.map Sd,r.mirrors.map QY,(r.offers.set (iO r.offers a) (GV (oAt r.offers a))).map Zj):X1)=some (Vb (app .bill r [a] [t])) from rfl);unfold Qz;rw[gi0,Wc g hc v o,jBj];(iterate 16 rw[jFj (dne f (by decide))])
  rw[jTj f];have A:Zu (nmO r.offers) a=true:=ZW j;obtain⟨s,z,y⟩:=JV A;have E:=g.offs _ (jgj y);have q:=uS s z;rw[gs0,Qbh _ (by have:=g.lenO;omega) (by have:=g.lenO;omega),jBj,Wb _ _ (by rw[Vq];have:=g.lenO;omega) (by rw[Vq];have:=g.lenO;omega),jBj,jTj q,s];have P:=(YF E).2.2.2;have V:=g.money;have L:(nth (List.set (r.offers.map Zj) (Int.toNat (iO r.offers a:Int)) (Zj (GV (oAt r.offers a))):jVj) (Int.toNat (iO r.offers a:Int))).bind Z6=some (GV (oAt r.offers a)):=by rw[jtj,set_encO];have:=Q4 (i:=iO r.offers a) (l:=r.offers.set (iO r.offers a) (GV (oAt r.offers a))) (x:=GV (oAt r.offers a)) unO (by rw[List.getElem?_set_self z]);rwa [jtj] at this
  have G:okO (GV (oAt r.offers a)):=E;have J:U5 (GV (oAt r.offers a))=U5 (oAt r.offers a):=rfl;rw[Q4 unO y,jBj];refine Eq.trans (congrArg (fun x:Option Off=>x.bind _) L) ?_;rw[jBj,Qbp n G,jBj,J,jTj (by unfold Qh;omega),<-set_encO,jtj];rfl
 | .undo,h,_,_=>absurd rfl h
theorem Qb1 {n c:Nat}(v:1700<=n){r:Reg}(g:Inv c r)(hc:c<=992){num:Int}{kind F:jSj}{names:List jSj}{C:List Int}{evs cnt:jVj} :
  ∀{k:Ki},k≠.undo->Good (num,kind,names,C,F) k->acc k r names C=0->Qy n num kind (names.map Sd) (C.map I) F evs cnt r.tick r.level r.filled r.tripped r.light r.heat r.money (r.sectors.map Sd) (r.mirrors.map QY) (r.offers.map Zj)=some (Vb (app k r names C))
 | .sector,_,hg,ha=>by have f:=hg.kind;dsimp only[kw] at f;obtain⟨a,t,rfl,rfl,e⟩:=hg.d11 rfl rfl;obtain⟨d,p,j,m⟩:=QS ha;have o:okT r t:=okt d e;simp only[jCj,jnj];refine Eq.trans ?_ (show some (rtM r t ((r.sectors++[a]).map Sd) (r.mirrors.map QY) (r.offers.map Zj))=some (Vb (app .sector r [a] [t])) from rfl);unfold Qy;rw[gi0,Z7 g hc v o,jBj];rw[jTj f];rw[gs0,jTj (rmS g),List.map_append];rfl
 | .mirror,_,hg,ha=>by
  have f:=hg.kind;dsimp only[kw] at f;obtain⟨a,b,t,u,rfl,rfl,e⟩:=hg.d22 rfl rfl;obtain⟨d,p,j,m⟩:=QS ha;have o:okT r t:=okt d e;simp only[jCj,jnj];refine Eq.trans ?_ (show some (rtM r t (r.sectors.map Sd) ((r.mirrors++[((a,b,u,0,false,false):Mir)]).map QY) (r.offers.map Zj))=some (Vb (app .mirror r [a,b] [t,u])) from rfl);unfold Qy;rw[gi0,Z7 g hc v o,jBj];(iterate 1 rw[jFj (dne f (by decide))])
  rw[jTj f];rw[gs0,gs1,gi1,jTj (rmM g (by omega)),List.map_append];rfl
 | .soil,_,hg,ha=>by
  have f:=hg.kind;dsimp only[kw] at f;obtain⟨a,t,u,rfl,rfl,e⟩:=hg.d12 rfl rfl;obtain⟨d,p,j,m⟩:=QS ha;have o:okT r t:=okt d e;simp only[jCj,jnj];refine Eq.trans ?_ (show some (rtM r t (r.sectors.map Sd) ((r.mirrors.set (iM r.mirrors a) (X8 (mAt r.mirrors a) u)).map QY) (r.offers.map Zj))=some (Vb (app .soil r [a] [t,u])) from rfl);unfold Qy;rw[gi0,Z7 g hc v o,jBj];(iterate 2 rw[jFj (dne f (by decide))])
  rw[jTj f];have A:Zu (nmM r.mirrors) a=true:=ZW j;obtain⟨s,z,y⟩:=WP A;have q:=Jl s z;rw[gs0,UC _ (by have:=g.lenM;omega) (by have:=g.lenM;omega),jBj,Wb _ _ (by rw[Zo];have:=g.lenM;omega) (by rw[Zo];have:=g.lenM;omega),jBj,jTj q,s];rw[gi1];rw[Q4 unM y,jBj,<-WH,jtj];rfl
 | .clean,_,hg,ha=>by
  have f:=hg.kind;dsimp only[kw] at f;obtain⟨a,t,rfl,rfl,e⟩:=hg.d11 rfl rfl;obtain⟨d,p,j,m⟩:=QS ha;have o:okT r t:=okt d e;simp only[jCj,jnj];refine Eq.trans ?_ (show some (rtM r t (r.sectors.map Sd) ((r.mirrors.set (iM r.mirrors a) (X8 (mAt r.mirrors a) 0)).map QY) (r.offers.map Zj))=some (Vb (app .clean r [a] [t])) from rfl);unfold Qy;rw[gi0,Z7 g hc v o,jBj];(iterate 3 rw[jFj (dne f (by decide))])
  rw[jTj f];have A:Zu (nmM r.mirrors) a=true:=ZW j;obtain⟨s,z,y⟩:=WP A;have q:=Jl s z;rw[gs0,UC _ (by have:=g.lenM;omega) (by have:=g.lenM;omega),jBj,Wb _ _ (by rw[Zo];have:=g.lenM;omega) (by rw[Zo];have:=g.lenM;omega),jBj,jTj q,s];rw[Q4 unM y,jBj,<-WH,jtj];rfl
 | .defect,_,hg,ha=>by
  have f:=hg.kind;dsimp only[kw] at f;obtain⟨a,t,rfl,rfl,e⟩:=hg.d11 rfl rfl;obtain⟨d,p,j,m⟩:=QS ha;have o:okT r t:=okt d e;simp only[jCj,jnj];refine Eq.trans ?_ (show some (rtM r t (r.sectors.map Sd) ((r.mirrors.set (iM r.mirrors a) (zU (mAt r.mirrors a) true)).map QY) (r.offers.map Zj))=some (Vb (app .defect r [a] [t])) from rfl);unfold Qy;rw[gi0,Z7 g hc v o,jBj];(iterate 4 rw[jFj (dne f (by decide))])
  rw[jTj f];have A:Zu (nmM r.mirrors) a=true:=ZW j;obtain⟨s,z,y⟩:=WP A;have q:=Jl s z;rw[gs0,UC _ (by have:=g.lenM;omega) (by have:=g.lenM;omega),jBj,Wb _ _ (by rw[Zo];have:=g.lenM;omega) (by rw[Zo];have:=g.lenM;omega),jBj,jTj q,s];rw[Q4 unM y,jBj,<-WH,jtj];rfl
 | .repair,_,hg,ha=>by
  have f:=hg.kind;dsimp only[kw] at f;obtain⟨a,t,rfl,rfl,e⟩:=hg.d11 rfl rfl;obtain⟨d,p,j,m⟩:=QS ha;have o:okT r t:=okt d e;simp only[jCj,jnj];refine Eq.trans ?_ (show some (rtM r t (r.sectors.map Sd) ((r.mirrors.set (iM r.mirrors a) (zU (mAt r.mirrors a) false)).map QY) (r.offers.map Zj))=some (Vb (app .repair r [a] [t])) from rfl);unfold Qy;rw[gi0,Z7 g hc v o,jBj];(iterate 5 rw[jFj (dne f (by decide))])
  rw[jTj f];have A:Zu (nmM r.mirrors) a=true:=ZW j;obtain⟨s,z,y⟩:=WP A;have q:=Jl s z;rw[gs0,UC _ (by have:=g.lenM;omega) (by have:=g.lenM;omega),jBj,Wb _ _ (by rw[Zo];have:=g.lenM;omega) (by rw[Zo];have:=g.lenM;omega),jBj,jTj q,s];rw[Q4 unM y,jBj,<-WH,jtj];rfl
 | .aim,_,hg,ha=>by
  have f:=hg.kind;dsimp only[kw] at f;obtain⟨a,t,rfl,rfl,e⟩:=hg.d11 rfl rfl;obtain⟨d,p,j,m⟩:=QS ha;have o:okT r t:=okt d e;simp only[jCj,jnj];refine Eq.trans ?_ (show some (rtM r t (r.sectors.map Sd) ((r.mirrors.set (iM r.mirrors a) (aimM (mAt r.mirrors a))).map QY) (r.offers.map Zj))=some (Vb (app .aim r [a] [t])) from rfl);unfold Qy;rw[gi0,Z7 g hc v o,jBj];(iterate 6 rw[jFj (dne f (by decide))])
  rw[jTj f];have A:Zu (nmM r.mirrors) a=true:=ZW j;obtain⟨s,z,y⟩:=WP A;have q:=Jl s z;rw[gs0,UC _ (by have:=g.lenM;omega) (by have:=g.lenM;omega),jBj,Wb _ _ (by rw[Zo];have:=g.lenM;omega) (by rw[Zo];have:=g.lenM;omega),jBj,jTj q,s];rw[Q4 unM y,jBj,<-WH,jtj];rfl
 | .park,_,hg,ha=>by
  have f:=hg.kind;dsimp only[kw] at f;obtain⟨a,t,rfl,rfl,e⟩:=hg.d11 rfl rfl;obtain⟨d,p,j,m⟩:=QS ha;have o:okT r t:=okt d e;simp only[jCj,jnj];refine Eq.trans ?_ (show some (rtM r t (r.sectors.map Sd) ((r.mirrors.set (iM r.mirrors a) (Ka (mAt r.mirrors a))).map QY) (r.offers.map Zj))=some (Vb (app .park r [a] [t])) from rfl);unfold Qy;rw[gi0,Z7 g hc v o,jBj];(iterate 7 rw[jFj (dne f (by decide))])
  rw[jTj f];have A:Zu (nmM r.mirrors) a=true:=ZW j;obtain⟨s,z,y⟩:=WP A;have q:=Jl s z;rw[gs0,UC _ (by have:=g.lenM;omega) (by have:=g.lenM;omega),jBj,Wb _ _ (by rw[Zo];have:=g.lenM;omega) (by rw[Zo];have:=g.lenM;omega),jBj,jTj q,s];rw[Q4 unM y,jBj,<-WH,jtj];rfl
 | .dim,_,hg,ha=>by
  have f:=hg.kind;dsimp only[kw] at f;obtain⟨a,t,rfl,rfl,e⟩:=hg.d11 rfl rfl;obtain⟨d,p,j,m⟩:=QS ha;have o:okT r t:=okt d e;simp only[jCj,jnj];refine Eq.trans ?_ (show some (rtM r t (r.sectors.map Sd) ((r.mirrors.map (EN a)).map QY) (r.offers.map Zj))=some (Vb (app .dim r [a] [t])) from rfl);unfold Qy;rw[gi0,Z7 g hc v o,jBj];(iterate 8 rw[jFj (dne f (by decide))])
  rw[jTj f];rw[Qdr _ (by have:=g.lenM;omega) (by have:=g.lenM;omega),jBj]
 | .sun,_,hg,ha=>by
  have f:=hg.kind;dsimp only[kw] at f;obtain⟨t,u,rfl,rfl,e⟩:=hg.d02 rfl rfl;obtain⟨d,p,j,m⟩:=QS ha;have o:okT r t:=okt d e;simp only[jCj,jnj];refine Eq.trans ?_ (show some ((t,u,r.filled,r.tripped,r.light+ZL r t,r.heat+ZL r t,r.money,r.sectors.map Sd,r.mirrors.map QY,r.offers.map Zj):X1)=some (Vb (app .sun r [] [t,u])) from rfl);unfold Qy;rw[gi0,Z7 g hc v o,jBj];(iterate 9 rw[jFj (dne f (by decide))])
  rw[jTj f];rw[gi1]
 | .fill,_,hg,ha=>by
  have f:=hg.kind;dsimp only[kw] at f;obtain⟨t,rfl,rfl,e⟩:=hg.d01 rfl rfl;obtain⟨d,p,j,m⟩:=QS ha;have o:okT r t:=okt d e;simp only[jCj,jnj];refine Eq.trans ?_ (show some ((t,r.level,true,r.tripped,r.light+ZL r t,r.heat+ZL r t,r.money,r.sectors.map Sd,r.mirrors.map QY,r.offers.map Zj):X1)=some (Vb (app .fill r [] [t])) from rfl);unfold Qy;rw[gi0,Z7 g hc v o,jBj];(iterate 10 rw[jFj (dne f (by decide))])
  rw[jTj f]
 | .drain,_,hg,ha=>by
  have f:=hg.kind;dsimp only[kw] at f;obtain⟨t,rfl,rfl,e⟩:=hg.d01 rfl rfl;obtain⟨d,p,j,m⟩:=QS ha;have o:okT r t:=okt d e;simp only[jCj,jnj];refine Eq.trans ?_ (show some ((t,r.level,false,r.tripped,r.light+ZL r t,r.heat+ZL r t,r.money,r.sectors.map Sd,r.mirrors.map QY,r.offers.map Zj):X1)=some (Vb (app .drain r [] [t])) from rfl);unfold Qy;rw[gi0,Z7 g hc v o,jBj];(iterate 11 rw[jFj (dne f (by decide))])
  rw[jTj f]
 | .trip,_,hg,ha=>by
  have f:=hg.kind;dsimp only[kw] at f;obtain⟨t,rfl,rfl,e⟩:=hg.d01 rfl rfl;obtain⟨d,p,j,m⟩:=QS ha;have o:okT r t:=okt d e;simp only[jCj,jnj];refine Eq.trans ?_ (show some ((t,r.level,r.filled,true,r.light+ZL r t,r.heat+ZL r t,r.money,r.sectors.map Sd,(r.mirrors.map Ka).map QY,r.offers.map Zj):X1)=some (Vb (app .trip r [] [t])) from rfl);unfold Qy;rw[gi0,Z7 g hc v o,jBj];(iterate 12 rw[jFj (dne f (by decide))])
  rw[jTj f];rw[Qdq _ (by have:=g.lenM;omega) (by have:=g.lenM;omega),jBj]
 | .reset,_,hg,ha=>by
  have f:=hg.kind;dsimp only[kw] at f;obtain⟨t,rfl,rfl,e⟩:=hg.d01 rfl rfl;obtain⟨d,p,j,m⟩:=QS ha;have o:okT r t:=okt d e;simp only[jCj,jnj];refine Eq.trans ?_ (show some ((t,r.level,r.filled,false,r.light+ZL r t,r.heat+ZL r t,r.money,r.sectors.map Sd,r.mirrors.map QY,r.offers.map Zj):X1)=some (Vb (app .reset r [] [t])) from rfl);unfold Qy;rw[gi0,Z7 g hc v o,jBj];(iterate 13 rw[jFj (dne f (by decide))])
  rw[jTj f]
 | .offer,_,hg,ha=>by
  have f:=hg.kind;dsimp only[kw] at f;obtain⟨a,t,u,H,N,O,rfl,rfl,e⟩:=hg.d15 rfl rfl;obtain⟨d,p,j,m⟩:=QS ha;have o:okT r t:=okt d e;simp only[jCj,jnj];refine Eq.trans ?_ (show some (rtM r t (r.sectors.map Sd) (r.mirrors.map QY) ((r.offers++[((a,u,H,N,O,0,false):Off)]).map Zj))=some (Vb (app .offer r [a] [t,u,H,N,O])) from rfl);unfold Qy;rw[gi0,Z7 g hc v o,jBj];(iterate 14 rw[jFj (dne f (by decide))])
  rw[jTj f];have M:∃w,WL n num kind [Sd a] [I t,I u,I H,I N,I O] F=some (u,H,w):=by
   unfold WL;rw[gi1,gi2,gi0];by_cases h:u<t
   ·rw[jTj h];exact⟨14,rfl⟩
   ·rw[jFj h,Zd];exact⟨_,rfl⟩
  obtain⟨w,M⟩:=M;rw[M,jBj,gs0,gi3,gi4,jTj (rmO g (by omega)),List.map_append];rfl
 | .deliver,_,hg,ha=>by
  have f:=hg.kind;dsimp only[kw] at f;obtain⟨a,t,u,rfl,rfl,e⟩:=hg.d12 rfl rfl;obtain⟨d,p,j,m⟩:=QS ha;have o:okT r t:=okt d e;simp only[jCj,jnj];refine Eq.trans ?_ (show some ((t,r.level,r.filled,r.tripped,r.light+ZL r t,r.heat+ZL r t - 1000000*u,r.money,r.sectors.map Sd,r.mirrors.map QY,(r.offers.set (iO r.offers a) (yO (oAt r.offers a) u)).map Zj):X1)=some (Vb (app .deliver r [a] [t,u])) from rfl);unfold Qy;rw[gi0,Z7 g hc v o,jBj];(iterate 15 rw[jFj (dne f (by decide))])
  rw[jTj f];have A:Zu (nmO r.offers) a=true:=ZW j;obtain⟨s,z,y⟩:=JV A;have E:=g.offs _ (jgj y);have q:=uS s z;rw[gs0,EC _ (by have:=g.lenO;omega) (by have:=g.lenO;omega),jBj,Wb _ _ (by rw[Vq];have:=g.lenO;omega) (by rw[Vq];have:=g.lenO;omega),jBj,jTj q,s];have Q:=EO m;have P:=YF E;have W:=hg.val u (by simp);have T:=K4 g hc o;have U:=g.heat;have K:=Q.2.2.1;have S:=E.2.2;unfold Ws at K;rw[Q4 unO y,jBj,gi1,jTj (by unfold Qh;have:=E.1;omega),jTj (by unfold Qh;omega),jTj (by unfold Qh;omega),<-set_encO,jtj];rfl
 | .bill,_,hg,ha=>by
  have f:=hg.kind;dsimp only[kw] at f;obtain⟨a,t,rfl,rfl,e⟩:=hg.d11 rfl rfl;obtain⟨d,p,j,m⟩:=QS ha;have o:okT r t:=okt d e;simp only[jCj,jnj];refine Eq.trans ?_ (show some ((t,r.level,r.filled,r.tripped,r.light+ZL r t,r.heat+ZL r t,r.money+U5 (oAt r.offers a),r.sectors.map Sd,r.mirrors.map QY,(r.offers.set (iO r.offers a) (GV (oAt r.offers a))).map Zj):X1)=some (Vb (app .bill r [a] [t])) from rfl);unfold Qy;rw[gi0,Z7 g hc v o,jBj];(iterate 16 rw[jFj (dne f (by decide))])
  rw[jTj f];have A:Zu (nmO r.offers) a=true:=ZW j;obtain⟨s,z,y⟩:=JV A;have E:=g.offs _ (jgj y);have q:=uS s z;rw[gs0,EC _ (by have:=g.lenO;omega) (by have:=g.lenO;omega),jBj,Wb _ _ (by rw[Vq];have:=g.lenO;omega) (by rw[Vq];have:=g.lenO;omega),jBj,jTj q,s];have P:=(YF E).2.2.2;have V:=g.money;have L:(nth (List.set (r.offers.map Zj) (Int.toNat (iO r.offers a:Int)) (Zj (GV (oAt r.offers a))):jVj) (Int.toNat (iO r.offers a:Int))).bind Z6=some (GV (oAt r.offers a)):=by rw[jtj,set_encO];have:=Q4 (i:=iO r.offers a) (l:=r.offers.set (iO r.offers a) (GV (oAt r.offers a))) (x:=GV (oAt r.offers a)) unO (by rw[List.getElem?_set_self z]);rwa [jtj] at this
  have G:okO (GV (oAt r.offers a)):=E;have J:U5 (GV (oAt r.offers a))=U5 (oAt r.offers a):=rfl;rw[Q4 unO y,jBj];refine Eq.trans (congrArg (fun x:Option Off=>x.bind _) L) ?_;rw[jBj,Qbp n G,jBj,J,jTj (by unfold Qh;omega),<-set_encO,jtj];rfl
 | .undo,h,_,_=>absurd rfl h
theorem wh {l:List jSj}{s:jSj}(h:¬Zu l s=true):YJ l s<0:=wC.2 fun a=>h (pos_mem.2 a)
theorem EY {l:List jSj}{s:jSj}(h:Zu l s=true):¬YJ l s<0:=fun a=>wC.1 a (pos_mem.1 h)
theorem XL {l:List jSj}{s:jSj}:YJ l s>=0↔Zu l s=true:=posI_nn.trans pos_mem.symm
theorem qm {n:Nat}(i:1700<=n){a0 a1:Int}{a2 a3:Bool}{a4 a5 a6:Int}{a7:jVj}{a8:jVj}{f:jVj}{c:jVj}{b:Int}{a:jSj}{d:jVj}{e:jSj}{k:Ki}(g:a.data.toList=kw k)(h:kr k=[]):QW n a0 a1 a2 a3 a4 a5 a6 a7 a8 f b a c d e=some (0):=by
 unfold QW;rw[JF n g,jBj,h];have q:Qj n a0 a1 a2 a3 a4 a5 a6 a7 a8 f b a c d e (mkS [],(kv k:Int),true) 0=some (.inr (.inr ())):=by unfold Qj;dsimp only;rw[jFj (show ¬(0:Int)<((mkS []).size:Int) by decide)]
 rw[Zf (by omega) q,jBj];dsimp only;rw[jFj (show ¬((mkS []).size:Int)>0 by decide)]
theorem QdX {n:Nat}(o:1700<=n){a0 a1:Int}{a2 a3:Bool}{a4 a5 a6:Int}{a8:jVj}{g:jVj}{c:Int}{b:jSj}{d:jVj}{e:jSj}(f:List jSj)(p:f.length<=992)(a:jSj){k:Ki}(j:b.data.toList=kw k)(l:kr k=[83]):QW n a0 a1 a2 a3 a4 a5 a6 (f.map Sd) a8 g c b [Sd a] d e=some (QF (Zu f a) 9):=by
 unfold QW;rw[JF n j,jBj,l];have q:Qj n a0 a1 a2 a3 a4 a5 a6 (f.map Sd) a8 g c b [Sd a] d e (mkS [83],(kv k:Int),true) 0=some (.inl 1):=by unfold Qj;dsimp only;rw[jTj (show(0:Int)<((mkS [83]).size:Int) by decide),show WQ (mkS [83]) 0=some 83 from rfl,jBj,jFj (by decide),jTj (by decide)];rfl
 have m:Qj n a0 a1 a2 a3 a4 a5 a6 (f.map Sd) a8 g c b [Sd a] d e (mkS [83],(kv k:Int),true) 1=some (.inr (.inr ())):=by unfold Qj;dsimp only;rw[jFj (show ¬(1:Int)<((mkS [83]).size:Int) by decide)]
 rw[Wy (by omega) q,Zf (by omega) m,jBj];dsimp only;rw[jTj (show((mkS [83]).size:Int)>0 by decide),show WQ (mkS [83]) 0=some 83 from rfl,jBj,jTj (by decide),gs0,show IntKind.wrap .u8 (IntKind.wrap .u8 (83+97) - 65)=115 from by decide,at_s f a (by omega) (by omega),jBj];unfold QF;by_cases h:Zu f a=true
 ·rw[jTj (XL.2 h),jTj h]
 ·rw[jFj (fun i=>h (XL.1 i)),jFj h]
theorem QdY {n:Nat}(m:1700<=n){a0 a1:Int}{a2 a3:Bool}{a4 a5 a6:Int}{a7:jVj}{a8:jVj}{c:Int}{b:jSj}{d:jVj}{e:jSj}(f:List Off)(o:f.length<=992)(a:jSj){k:Ki}(i:b.data.toList=kw k)(j:kr k=[79]):QW n a0 a1 a2 a3 a4 a5 a6 a7 a8 (f.map Zj) c b [Sd a] d e=some (QF (Zu (nmO f) a) 9):=by
 unfold QW;rw[JF n i,jBj,j];have q:Qj n a0 a1 a2 a3 a4 a5 a6 a7 a8 (f.map Zj) c b [Sd a] d e (mkS [79],(kv k:Int),true) 0=some (.inl 1):=by unfold Qj;dsimp only;rw[jTj (show(0:Int)<((mkS [79]).size:Int) by decide),show WQ (mkS [79]) 0=some 79 from rfl,jBj,jFj (by decide),jTj (by decide)];rfl
 have l:Qj n a0 a1 a2 a3 a4 a5 a6 a7 a8 (f.map Zj) c b [Sd a] d e (mkS [79],(kv k:Int),true) 1=some (.inr (.inr ())):=by unfold Qj;dsimp only;rw[jFj (show ¬(1:Int)<((mkS [79]).size:Int) by decide)]
 rw[Wy (by omega) q,Zf (by omega) l,jBj];dsimp only;rw[jTj (show((mkS [79]).size:Int)>0 by decide),show WQ (mkS [79]) 0=some 79 from rfl,jBj,jTj (by decide),gs0,show IntKind.wrap .u8 (IntKind.wrap .u8 (79+97) - 65)=111 from by decide,at_o f a (by omega) (by omega),jBj];unfold QF;by_cases h:Zu (nmO f) a=true
 ·rw[jTj (XL.2 h),jTj h]
 ·rw[jFj (fun g=>h (XL.1 g)),jFj h]
theorem QdW {n:Nat}(m:1700<=n){a0 a1:Int}{a2 a3:Bool}{a4 a5 a6:Int}{a8:jVj}{g:jVj}{c:Int}{b:jSj}{d:jVj}{e:jSj}(f:List jSj)(o:f.length<=992)(a:jSj){k:Ki}(i:b.data.toList=kw k)(j:kr k=[115]):QW n a0 a1 a2 a3 a4 a5 a6 (f.map Sd) a8 g c b [Sd a] d e=some (QF (!Zu f a) 10):=by
 unfold QW;rw[JF n i,jBj,j];by_cases h:Zu f a=true
 ·have q:Qj n a0 a1 a2 a3 a4 a5 a6 (f.map Sd) a8 g c b [Sd a] d e (mkS [115],(kv k:Int),true) 0=some (.inl 1):=by unfold Qj;dsimp only;rw[jTj (show(0:Int)<((mkS [115]).size:Int) by decide),show WQ (mkS [115]) 0=some 115 from rfl,jBj,jTj (by decide),gs0,at_s f a (by omega) (by omega),jBj,jFj (EY h),jTj (by decide)];rfl
  have l:Qj n a0 a1 a2 a3 a4 a5 a6 (f.map Sd) a8 g c b [Sd a] d e (mkS [115],(kv k:Int),true) 1=some (.inr (.inr ())):=by unfold Qj;dsimp only;rw[jFj (show ¬(1:Int)<((mkS [115]).size:Int) by decide)]
  rw[Wy (by omega) q,Zf (by omega) l,jBj,h];dsimp only;rw[jTj (show((mkS [115]).size:Int)>0 by decide),show WQ (mkS [115]) 0=some 115 from rfl,jBj,jFj (by decide)];rfl
 ·have q:Qj n a0 a1 a2 a3 a4 a5 a6 (f.map Sd) a8 g c b [Sd a] d e (mkS [115],(kv k:Int),true) 0=some (.inr (.inl ())):=by unfold Qj;dsimp only;rw[jTj (show(0:Int)<((mkS [115]).size:Int) by decide),show WQ (mkS [115]) 0=some 115 from rfl,jBj,jTj (by decide),gs0,at_s f a (by omega) (by omega),jBj,jTj (wh h)]
  rw[Zf (by omega) q,jBj];simp only[Bool.not_eq_true] at h;rw[h];rfl
theorem kQ {n:Nat}(m:1700<=n){a0 a1:Int}{a2 a3:Bool}{a4 a5 a6:Int}{a7:jVj}{f:jVj}{c:Int}{b:jSj}{d:jVj}{e:jSj}(ms:List Mir)(l:ms.length<=992)(a:jSj){k:Ki}(g:b.data.toList=kw k)(i:kr k=[109]):QW n a0 a1 a2 a3 a4 a5 a6 a7 (ms.map QY) f c b [Sd a] d e=some (QF (!Zu (nmM ms) a) 10):=by
 unfold QW;rw[JF n g,jBj,i];by_cases h:Zu (nmM ms) a=true
 ·have q:Qj n a0 a1 a2 a3 a4 a5 a6 a7 (ms.map QY) f c b [Sd a] d e (mkS [109],(kv k:Int),true) 0=some (.inl 1):=by unfold Qj;dsimp only;rw[jTj (show(0:Int)<((mkS [109]).size:Int) by decide),show WQ (mkS [109]) 0=some 109 from rfl,jBj,jTj (by decide),gs0,yT ms a (by omega) (by omega),jBj,jFj (EY h),jTj (by decide)];rfl
  have j:Qj n a0 a1 a2 a3 a4 a5 a6 a7 (ms.map QY) f c b [Sd a] d e (mkS [109],(kv k:Int),true) 1=some (.inr (.inr ())):=by unfold Qj;dsimp only;rw[jFj (show ¬(1:Int)<((mkS [109]).size:Int) by decide)]
  rw[Wy (by omega) q,Zf (by omega) j,jBj,h];dsimp only;rw[jTj (show((mkS [109]).size:Int)>0 by decide),show WQ (mkS [109]) 0=some 109 from rfl,jBj,jFj (by decide)];rfl
 ·have q:Qj n a0 a1 a2 a3 a4 a5 a6 a7 (ms.map QY) f c b [Sd a] d e (mkS [109],(kv k:Int),true) 0=some (.inr (.inl ())):=by unfold Qj;dsimp only;rw[jTj (show(0:Int)<((mkS [109]).size:Int) by decide),show WQ (mkS [109]) 0=some 109 from rfl,jBj,jTj (by decide),gs0,yT ms a (by omega) (by omega),jBj,jTj (wh h)]
  rw[Zf (by omega) q,jBj];simp only[Bool.not_eq_true] at h;rw[h];rfl
theorem Qdo {n:Nat}(l:1700<=n){a0 a1:Int}{a2 a3:Bool}{a4 a5 a6:Int}{a7:jVj}{a8:jVj}{c:Int}{b:jSj}{d:jVj}{e:jSj}(f:List Off)(m:f.length<=992)(a:jSj){k:Ki}(g:b.data.toList=kw k)(i:kr k=[111]):QW n a0 a1 a2 a3 a4 a5 a6 a7 a8 (f.map Zj) c b [Sd a] d e=some (QF (!Zu (nmO f) a) 10):=by
 unfold QW;rw[JF n g,jBj,i];by_cases h:Zu (nmO f) a=true
 ·have q:Qj n a0 a1 a2 a3 a4 a5 a6 a7 a8 (f.map Zj) c b [Sd a] d e (mkS [111],(kv k:Int),true) 0=some (.inl 1):=by unfold Qj;dsimp only;rw[jTj (show(0:Int)<((mkS [111]).size:Int) by decide),show WQ (mkS [111]) 0=some 111 from rfl,jBj,jTj (by decide),gs0,at_o f a (by omega) (by omega),jBj,jFj (EY h),jTj (by decide)];rfl
  have j:Qj n a0 a1 a2 a3 a4 a5 a6 a7 a8 (f.map Zj) c b [Sd a] d e (mkS [111],(kv k:Int),true) 1=some (.inr (.inr ())):=by unfold Qj;dsimp only;rw[jFj (show ¬(1:Int)<((mkS [111]).size:Int) by decide)]
  rw[Wy (by omega) q,Zf (by omega) j,jBj,h];dsimp only;rw[jTj (show((mkS [111]).size:Int)>0 by decide),show WQ (mkS [111]) 0=some 111 from rfl,jBj,jFj (by decide)];rfl
 ·have q:Qj n a0 a1 a2 a3 a4 a5 a6 a7 a8 (f.map Zj) c b [Sd a] d e (mkS [111],(kv k:Int),true) 0=some (.inr (.inl ())):=by unfold Qj;dsimp only;rw[jTj (show(0:Int)<((mkS [111]).size:Int) by decide),show WQ (mkS [111]) 0=some 111 from rfl,jBj,jTj (by decide),gs0,at_o f a (by omega) (by omega),jBj,jTj (wh h)]
  rw[Zf (by omega) q,jBj];simp only[Bool.not_eq_true] at h;rw[h];rfl
theorem QdD {n:Nat}(t:1700<=n){a0 a1:Int}{a2 a3:Bool}{a4 a5 a6:Int}{j:jVj}{d:Int}{c:jSj}{e:jVj}{f:jSj}(i:List jSj)(u:i.length<=992)(ms:List Mir)(s:ms.length<=992)(a b:jSj){k:Ki}(o:c.data.toList=kw k)(p:kr k=[77,115]):QW n a0 a1 a2 a3 a4 a5 a6 (i.map Sd) (ms.map QY) j d c [Sd a,Sd b] e f=some (if Zu i b=true then QF (Zu (nmM ms) a) 9 else 10):=by
 unfold QW;rw[JF n o,jBj,p];have q:Qj n a0 a1 a2 a3 a4 a5 a6 (i.map Sd) (ms.map QY) j d c [Sd a,Sd b] e f (mkS [77,115],(kv k:Int),true) 0=some (.inl 1):=by unfold Qj;dsimp only;rw[jTj (show(0:Int)<((mkS [77,115]).size:Int) by decide),show WQ (mkS [77,115]) 0=some 77 from rfl,jBj,jFj (by decide),jTj (by decide)];rfl
 rw[Wy (by omega) q];by_cases h:Zu i b=true
 ·have l:Qj n a0 a1 a2 a3 a4 a5 a6 (i.map Sd) (ms.map QY) j d c [Sd a,Sd b] e f (mkS [77,115],(kv k:Int),true) 1=some (.inl 2):=by unfold Qj;dsimp only;rw[jTj (show(1:Int)<((mkS [77,115]).size:Int) by decide),show WQ (mkS [77,115]) 1=some 115 from rfl,jBj,jTj (by decide),gs1,at_s i b (by omega) (by omega),jBj,jFj (EY h),jTj (by decide)];rfl
  have r:Qj n a0 a1 a2 a3 a4 a5 a6 (i.map Sd) (ms.map QY) j d c [Sd a,Sd b] e f (mkS [77,115],(kv k:Int),true) 2=some (.inr (.inr ())):=by unfold Qj;dsimp only;rw[jFj (show ¬(2:Int)<((mkS [77,115]).size:Int) by decide)]
  rw[Wy (by omega) l,Zf (by omega) r,jBj,jTj h];dsimp only;rw[jTj (show((mkS [77,115]).size:Int)>0 by decide),show WQ (mkS [77,115]) 0=some 77 from rfl,jBj,jTj (by decide),gs0,show IntKind.wrap .u8 (IntKind.wrap .u8 (77+97) - 65)=109 from by decide,yT ms a (by omega) (by omega),jBj];unfold QF;by_cases g:Zu (nmM ms) a=true
  ·rw[jTj (XL.2 g),jTj g]
  ·rw[jFj (fun m=>g (XL.1 m)),jFj g]
 ·have l:Qj n a0 a1 a2 a3 a4 a5 a6 (i.map Sd) (ms.map QY) j d c [Sd a,Sd b] e f (mkS [77,115],(kv k:Int),true) 1=some (.inr (.inl ())):=by unfold Qj;dsimp only;rw[jTj (show(1:Int)<((mkS [77,115]).size:Int) by decide),show WQ (mkS [77,115]) 1=some 115 from rfl,jBj,jTj (by decide),gs1,at_s i b (by omega) (by omega),jBj,jTj (wh h)]
  rw[Zf (by omega) l,jBj,jFj h]
def Vc (r:Reg)(e:Int):Int×Int×Bool×Bool×Int×Int×Int×jVj×jVj×jVj×Int:=(r.tick,r.level,r.filled,r.tripped,r.light,r.heat,r.money,r.sectors.map Sd,r.mirrors.map QY,r.offers.map Zj,e)
theorem VB {x:Option (Int×Int×Bool×Bool×Int×Int×Int×jVj×jVj×jVj×Int)}{k:Ki}{r:Reg}{ns:List jSj}{vs:List Int}{t:Int}(e:Int)(d:e≠0)(a:spec k r ns vs=e)(h:x=some (Vc (bkd r t) e)) :
  ∃b,x=some (Vc b (spec k r ns vs))/\(spec k r ns vs=0->b=app k r ns vs):=⟨bkd r t,by rw[a];exact h,fun c=>absurd (a.symm.trans c) d⟩
theorem UX {x:Option (Int×Int×Bool×Bool×Int×Int×Int×jVj×jVj×jVj×Int)}{k:Ki}{r:Reg}{ns:List jSj}{vs:List Int}(b:spec k r ns vs=0)(h:x=some (Vc (app k r ns vs) 0)) :
  ∃a,x=some (Vc a (spec k r ns vs))/\(spec k r ns vs=0->a=app k r ns vs):=⟨_,by rw[b];exact h,fun _=>rfl⟩
theorem QaI {x lo hi:Int}(h:x>hi):inR x lo hi=3:=by
 unfold inR;by_cases a:x<lo
 ·rw[jTj a]
 ·rw[jFj a,jTj h]
theorem QaH {x lo hi:Int}(a:lo<=x)(b:x<=hi):inR x lo hi=0:=YC.2 ⟨a,b⟩
theorem QN {a:Int}(l:List Int)(h:a=0):Qt (a::l)=Qt l:=by unfold Qt;rw[jTj h];cases l<;>rfl
theorem QT {a:Int}(l:List Int)(h:a≠0):Qt (a::l)=a:=by unfold Qt;rw[jFj h]
theorem Wz {x:Int}:Qt [x]=x:=by
 simp only[Qt];split
 ·rename_i h;exact h.symm
 ·rfl
theorem El (e:Int):QF true e=e:=rfl
theorem Xb (e:Int):QF false e=0:=rfl
theorem QcR {n c:Nat}(u:1700<=n){r:Reg}(l:Inv c r)(hc:c<=990){num:Int}{kind W:jSj}{names:List jSj}{F:List Int} :
  ∀{k:Ki},k≠.undo->Good (num,kind,names,F,W) k->∃s,QZ n r.tick r.level r.filled r.tripped r.light r.heat r.money (r.sectors.map Sd) (r.mirrors.map QY) (r.offers.map Zj) num kind (names.map Sd) (F.map I) W=some (Vc s (acc k r names F))/\(acc k r names F=0->s=app k r names F)
 | .sector,_,hg=>by
  have j:=hg.kind;dsimp only at j;have m:=j;dsimp only[kw] at m;obtain⟨a,t,rfl,rfl,o⟩:=hg.d11 rfl rfl;simp only[jCj,jnj];unfold QZ acc;rw[gi0];by_cases d:t<r.tick
  ·exact⟨r,by rw[jTj d,jTj (g0 d)];rfl,fun h=>by rw[jTj (g0 d)] at h;cases h⟩
  rw[jFj d,jFj (g0n d)];have v:okT r t:=okt d o;rw[Zs l (by omega) u v,jBj];show ∃s,_=some (Vc s (Qt [Zk r t,known .sector r [a],spec .sector r [a] [t]]))/\(Qt [Zk r t,known .sector r [a],spec .sector r [a] [t]]=0->_)
  by_cases g:Zk r t=0
  ·rw[jTj g,QN _ g];dsimp only;rw[jTj rfl,QdX u r.sectors (by have:=l.secs;omega) a j rfl,jBj];show ∃s,(if known .sector r [a]=0 then _ else _)=_/\_;by_cases f:known .sector r [a]=0
   ·rw[jTj f,QN _ f];rw[Wz,jTj (rzS l),jTj (rzM l (by omega)),jTj (rzO l (by omega))];(iterate 8 rw[jFj (kne m (by decide))])
    rw[jTj (keq m rfl)];have b2:=l.secs;have i:spec .sector r [a] [t]=QF ((r.sectors.length:Int)==8) 5:=rfl;by_cases h:((r.sectors.map Sd).length:Int)>=8
    ·have J:((r.sectors.length:Int)==8)=true:=by rw[jlj] at h;simp;omega
     exact VB (t:=t) 5 (by decide) (by rw[i,J];rfl) (by rw[jTj h];rfl)
    ·have J:((r.sectors.length:Int)==8)=false:=by rw[jlj] at h;simp;omega
     exact UX (by rw[i,J];rfl) (by rw[jFj h,gs0,jTj (V7 (by decide) (by rw[jlj];omega))];unfold Vc app act bkd;simp only[List.map_append];rfl)
   ·rw[jFj f,QT _ f];exact⟨r,rfl,fun h=>absurd h f⟩
  ·rw[jFj g,QT _ g];rw[bk4 g];exact⟨r,rfl,fun h=>by cases h⟩
 | .mirror,_,hg=>by
  have j:=hg.kind;dsimp only at j;have m:=j;dsimp only[kw] at m;obtain⟨a,b,t,p,rfl,rfl,o⟩:=hg.d22 rfl rfl;simp only[jCj,jnj];unfold QZ acc;rw[gi0];by_cases d:t<r.tick
  ·exact⟨r,by rw[jTj d,jTj (g0 d)];rfl,fun h=>by rw[jTj (g0 d)] at h;cases h⟩
  rw[jFj d,jFj (g0n d)];have v:okT r t:=okt d o;rw[Zs l (by omega) u v,jBj];show ∃s,_=some (Vc s (Qt [Zk r t,known .mirror r [a,b],spec .mirror r [a,b] [t,p]]))/\(Qt [Zk r t,known .mirror r [a,b],spec .mirror r [a,b] [t,p]]=0->_)
  by_cases g:Zk r t=0
  ·rw[jTj g,QN _ g];dsimp only;rw[jTj rfl,QdD u r.sectors (by have:=l.secs;omega) r.mirrors (by have:=l.lenM;omega) a b j rfl,jBj];show ∃s,(if known .mirror r [a,b]=0 then _ else _)=_/\_;by_cases f:known .mirror r [a,b]=0
   ·rw[jTj f,QN _ f];rw[Wz,jTj (rzS l),jTj (rzM l (by omega)),jTj (rzO l (by omega))];(iterate 9 rw[jFj (kne m (by decide))])
    rw[jTj (keq m rfl)];have a8:=l.lenM;have i:spec .mirror r [a,b] [t,p]=Qt [inR p 1 100,QF ((r.mirrors.length:Int)==32) 5]:=rfl;rw[gi1,YL,jBj];by_cases h:inR p 1 100=0
    ·rw[QN _ h] at i;by_cases X:r.mirrors.length=32
     ·have H:((r.mirrors.length:Int)==32)=true:=by simp[X]
      exact VB (t:=t) 5 (by decide) (by rw[i,H];rfl) (by rw[jFj (by simp[h]),jTj (by rw[jlj];omega)];rfl)
     ·have H:((r.mirrors.length:Int)==32)=false:=by simp;omega
      refine UX (by rw[i,H];rfl) (by rw[jFj (by simp[h]),jFj (by rw[jlj];omega),gs0,gs1,jTj (V7 (by decide) (by rw[jlj];omega))];unfold Vc app act bkd;simp only[List.map_append];rfl)
    ·have h':=(qO p 1 100).resolve_left h;exact VB (t:=t) 3 (by decide) (by rw[i,h'];rfl) (by rw[jTj (by simp[h])];rfl)
   ·rw[jFj f,QT _ f];exact⟨r,rfl,fun h=>absurd h f⟩
  ·rw[jFj g,QT _ g];rw[bk4 g];exact⟨r,rfl,fun h=>by cases h⟩
 | .soil,_,hg=>by
  have j:=hg.kind;dsimp only at j;have m:=j;dsimp only[kw] at m;obtain⟨a,t,p,rfl,rfl,o⟩:=hg.d12 rfl rfl;simp only[jCj,jnj];unfold QZ acc;rw[gi0];by_cases d:t<r.tick
  ·exact⟨r,by rw[jTj d,jTj (g0 d)];rfl,fun h=>by rw[jTj (g0 d)] at h;cases h⟩
  rw[jFj d,jFj (g0n d)];have v:okT r t:=okt d o;rw[Zs l (by omega) u v,jBj];show ∃s,_=some (Vc s (Qt [Zk r t,known .soil r [a],spec .soil r [a] [t,p]]))/\(Qt [Zk r t,known .soil r [a],spec .soil r [a] [t,p]]=0->_)
  by_cases g:Zk r t=0
  ·rw[jTj g,QN _ g];dsimp only;rw[jTj rfl,kQ u r.mirrors (by have:=l.lenM;omega) a j rfl,jBj];show ∃s,(if known .soil r [a]=0 then _ else _)=_/\_;by_cases f:known .soil r [a]=0
   ·rw[jTj f,QN _ f];rw[Wz,jTj (rzS l),jTj (rzM l (by omega)),jTj (rzO l (by omega))];(iterate 11 rw[jFj (kne m (by decide))])
    have C:Zu (nmM r.mirrors) a=true:=ZW f;obtain⟨z,A,E⟩:=WP C;have y:=Jl z A;have q:Int.toNat (YJ (nmM r.mirrors) a)<(r.mirrors.map QY).length:=by rw[z,jlj,jtj];exact A
    rw[gs0,yT _ _ (by have:=l.lenM;omega) (by have:=l.lenM;omega),jBj,jTj y];rw[z] at q ⊢;rw[Q4 unM E,jBj];rw[jTj (keq m rfl),gi1];by_cases h:p>1000
    ·exact VB (t:=t) 3 (by decide) (QaI h) (by rw[jTj h];rfl)
    ·exact UX (QaH (x:=p) (lo:=0) (hi:=1000) (hg.val p (by simp)).1 (by omega)) (by rw[jFj h];rw[jTj q,show some (Vc (app .soil r [a] [t,p]) 0)=some ((rtE r t (r.sectors.map Sd) ((r.mirrors.set (iM r.mirrors a) (X8 (mAt r.mirrors a) p)).map QY) (r.offers.map Zj))) from rfl,<-WH,jtj];rfl)
   ·rw[jFj f,QT _ f];exact⟨r,rfl,fun h=>absurd h f⟩
  ·rw[jFj g,QT _ g];rw[bk4 g];exact⟨r,rfl,fun h=>by cases h⟩
 | .clean,_,hg=>by
  have j:=hg.kind;dsimp only at j;have m:=j;dsimp only[kw] at m;obtain⟨a,t,rfl,rfl,o⟩:=hg.d11 rfl rfl;simp only[jCj,jnj];unfold QZ acc;rw[gi0];by_cases d:t<r.tick
  ·exact⟨r,by rw[jTj d,jTj (g0 d)];rfl,fun h=>by rw[jTj (g0 d)] at h;cases h⟩
  rw[jFj d,jFj (g0n d)];have v:okT r t:=okt d o;rw[Zs l (by omega) u v,jBj];show ∃s,_=some (Vc s (Qt [Zk r t,known .clean r [a],spec .clean r [a] [t]]))/\(Qt [Zk r t,known .clean r [a],spec .clean r [a] [t]]=0->_)
  by_cases g:Zk r t=0
  ·rw[jTj g,QN _ g];dsimp only;rw[jTj rfl,kQ u r.mirrors (by have:=l.lenM;omega) a j rfl,jBj];show ∃s,(if known .clean r [a]=0 then _ else _)=_/\_;by_cases f:known .clean r [a]=0
   ·rw[jTj f,QN _ f];rw[Wz,jTj (rzS l),jTj (rzM l (by omega)),jTj (rzO l (by omega))];(iterate 11 rw[jFj (kne m (by decide))])
    have C:Zu (nmM r.mirrors) a=true:=ZW f;obtain⟨z,A,E⟩:=WP C;have y:=Jl z A;have q:Int.toNat (YJ (nmM r.mirrors) a)<(r.mirrors.map QY).length:=by rw[z,jlj,jtj];exact A
    rw[gs0,yT _ _ (by have:=l.lenM;omega) (by have:=l.lenM;omega),jBj,jTj y];rw[z] at q ⊢;rw[Q4 unM E,jBj];rw[jFj (kne m (by decide)),jTj (keq m rfl)];exact UX rfl (by rw[jTj q,show some (Vc (app .clean r [a] [t]) 0)=some ((rtE r t (r.sectors.map Sd) ((r.mirrors.set (iM r.mirrors a) (X8 (mAt r.mirrors a) 0)).map QY) (r.offers.map Zj))) from rfl,<-WH,jtj];rfl)
   ·rw[jFj f,QT _ f];exact⟨r,rfl,fun h=>absurd h f⟩
  ·rw[jFj g,QT _ g];rw[bk4 g];exact⟨r,rfl,fun h=>by cases h⟩
 | .defect,_,hg=>by
  have j:=hg.kind;dsimp only at j;have m:=j;dsimp only[kw] at m;obtain⟨a,t,rfl,rfl,o⟩:=hg.d11 rfl rfl;simp only[jCj,jnj];unfold QZ acc;rw[gi0];by_cases d:t<r.tick
  ·exact⟨r,by rw[jTj d,jTj (g0 d)];rfl,fun h=>by rw[jTj (g0 d)] at h;cases h⟩
  rw[jFj d,jFj (g0n d)];have v:okT r t:=okt d o;rw[Zs l (by omega) u v,jBj];show ∃s,_=some (Vc s (Qt [Zk r t,known .defect r [a],spec .defect r [a] [t]]))/\(Qt [Zk r t,known .defect r [a],spec .defect r [a] [t]]=0->_)
  by_cases g:Zk r t=0
  ·rw[jTj g,QN _ g];dsimp only;rw[jTj rfl,kQ u r.mirrors (by have:=l.lenM;omega) a j rfl,jBj];show ∃s,(if known .defect r [a]=0 then _ else _)=_/\_;by_cases f:known .defect r [a]=0
   ·rw[jTj f,QN _ f];rw[Wz,jTj (rzS l),jTj (rzM l (by omega)),jTj (rzO l (by omega))];(iterate 11 rw[jFj (kne m (by decide))])
    have C:Zu (nmM r.mirrors) a=true:=ZW f;obtain⟨z,A,E⟩:=WP C;have y:=Jl z A;have q:Int.toNat (YJ (nmM r.mirrors) a)<(r.mirrors.map QY).length:=by rw[z,jlj,jtj];exact A
    rw[gs0,yT _ _ (by have:=l.lenM;omega) (by have:=l.lenM;omega),jBj,jTj y];rw[z] at q ⊢;rw[Q4 unM E,jBj];rw[jFj (kne m (by decide)),jFj (kne m (by decide)),jTj (keq m rfl)];have i:spec .defect r [a] [t]=Qt [QF (mAt r.mirrors a).2.2.2.2.1 9,QF (mAt r.mirrors a).2.2.2.2.2 31]:=rfl;cases hd:(mAt r.mirrors a).2.2.2.2.1 with
    | true=>exact VB (t:=t) 9 (by decide) (by rw[i,hd];rfl) (by rw[jTj rfl];rfl)
    | false =>
     rw[jFj (by decide)];cases T:(mAt r.mirrors a).2.2.2.2.2 with
     | true=>exact VB (t:=t) 31 (by decide) (by rw[i,hd,T];rfl) (by rw[jTj rfl];rfl)
     | false =>
      have Y:zU (mAt r.mirrors a) true=((mAt r.mirrors a).1,(mAt r.mirrors a).2.1,(mAt r.mirrors a).2.2.1,(mAt r.mirrors a).2.2.2.1,true,false):=by unfold zU;rw[T]
      exact UX (by rw[i,hd,T];rfl) (by rw[jFj (by decide)];rw[jTj q,show some (Vc (app .defect r [a] [t]) 0)=some ((rtE r t (r.sectors.map Sd) ((r.mirrors.set (iM r.mirrors a) (zU (mAt r.mirrors a) true)).map QY) (r.offers.map Zj))) from rfl,Y,<-WH,jtj];rfl)
   ·rw[jFj f,QT _ f];exact⟨r,rfl,fun h=>absurd h f⟩
  ·rw[jFj g,QT _ g];rw[bk4 g];exact⟨r,rfl,fun h=>by cases h⟩
 | .repair,_,hg=>by
  have j:=hg.kind;dsimp only at j;have m:=j;dsimp only[kw] at m;obtain⟨a,t,rfl,rfl,o⟩:=hg.d11 rfl rfl;simp only[jCj,jnj];unfold QZ acc;rw[gi0];by_cases d:t<r.tick
  ·exact⟨r,by rw[jTj d,jTj (g0 d)];rfl,fun h=>by rw[jTj (g0 d)] at h;cases h⟩
  rw[jFj d,jFj (g0n d)];have v:okT r t:=okt d o;rw[Zs l (by omega) u v,jBj];show ∃s,_=some (Vc s (Qt [Zk r t,known .repair r [a],spec .repair r [a] [t]]))/\(Qt [Zk r t,known .repair r [a],spec .repair r [a] [t]]=0->_)
  by_cases g:Zk r t=0
  ·rw[jTj g,QN _ g];dsimp only;rw[jTj rfl,kQ u r.mirrors (by have:=l.lenM;omega) a j rfl,jBj];show ∃s,(if known .repair r [a]=0 then _ else _)=_/\_;by_cases f:known .repair r [a]=0
   ·rw[jTj f,QN _ f];rw[Wz,jTj (rzS l),jTj (rzM l (by omega)),jTj (rzO l (by omega))];(iterate 11 rw[jFj (kne m (by decide))])
    have C:Zu (nmM r.mirrors) a=true:=ZW f;obtain⟨z,A,E⟩:=WP C;have y:=Jl z A;have q:Int.toNat (YJ (nmM r.mirrors) a)<(r.mirrors.map QY).length:=by rw[z,jlj,jtj];exact A
    rw[gs0,yT _ _ (by have:=l.lenM;omega) (by have:=l.lenM;omega),jBj,jTj y];rw[z] at q ⊢;rw[Q4 unM E,jBj];(iterate 3 rw[jFj (kne m (by decide))])
    rw[jTj (keq m rfl)];have i:spec .repair r [a] [t]=QF (!(mAt r.mirrors a).2.2.2.2.1) 22:=rfl;cases hd:(mAt r.mirrors a).2.2.2.2.1 with
    | false=>exact VB (t:=t) 22 (by decide) (by rw[i,hd];rfl) (by rw[jFj (by decide)];rfl)
    | true=>exact UX (by rw[i,hd];rfl) (by rw[jTj rfl];rw[jTj q,show some (Vc (app .repair r [a] [t]) 0)=some ((rtE r t (r.sectors.map Sd) ((r.mirrors.set (iM r.mirrors a) (zU (mAt r.mirrors a) false)).map QY) (r.offers.map Zj))) from rfl,<-WH,jtj];rfl)
   ·rw[jFj f,QT _ f];exact⟨r,rfl,fun h=>absurd h f⟩
  ·rw[jFj g,QT _ g];rw[bk4 g];exact⟨r,rfl,fun h=>by cases h⟩
 | .aim,_,hg=>by
  have j:=hg.kind;dsimp only at j;have m:=j;dsimp only[kw] at m;obtain⟨a,t,rfl,rfl,o⟩:=hg.d11 rfl rfl;simp only[jCj,jnj];unfold QZ acc;rw[gi0];by_cases d:t<r.tick
  ·exact⟨r,by rw[jTj d,jTj (g0 d)];rfl,fun h=>by rw[jTj (g0 d)] at h;cases h⟩
  rw[jFj d,jFj (g0n d)];have v:okT r t:=okt d o;rw[Zs l (by omega) u v,jBj];show ∃s,_=some (Vc s (Qt [Zk r t,known .aim r [a],spec .aim r [a] [t]]))/\(Qt [Zk r t,known .aim r [a],spec .aim r [a] [t]]=0->_)
  by_cases g:Zk r t=0
  ·rw[jTj g,QN _ g];dsimp only;rw[jTj rfl,kQ u r.mirrors (by have:=l.lenM;omega) a j rfl,jBj];show ∃s,(if known .aim r [a]=0 then _ else _)=_/\_;by_cases f:known .aim r [a]=0
   ·rw[jTj f,QN _ f];rw[Wz,jTj (rzS l),jTj (rzM l (by omega)),jTj (rzO l (by omega))];(iterate 11 rw[jFj (kne m (by decide))])
    have C:Zu (nmM r.mirrors) a=true:=ZW f;obtain⟨z,A,E⟩:=WP C;have y:=Jl z A;have q:Int.toNat (YJ (nmM r.mirrors) a)<(r.mirrors.map QY).length:=by rw[z,jlj,jtj];exact A
    rw[gs0,yT _ _ (by have:=l.lenM;omega) (by have:=l.lenM;omega),jBj,jTj y];rw[z] at q ⊢;rw[Q4 unM E,jBj];(iterate 4 rw[jFj (kne m (by decide))])
    rw[jTj (keq m rfl)];have i:spec .aim r [a] [t]=Qt [QF (!r.filled) 30,QF r.tripped 29,QF (mAt r.mirrors a).2.2.2.2.1 21,QF (mAt r.mirrors a).2.2.2.2.2 9]:=rfl;cases hf:r.filled with
    | false=>exact VB (t:=t) 30 (by decide) (by rw[i,hf];rfl) (by rw[jFj (by decide)];unfold Vc bkd;rw[hf])
    | true =>
     rw[jTj rfl];cases htr:r.tripped with
     | true=>exact VB (t:=t) 29 (by decide) (by rw[i,hf,htr];rfl) (by rw[jTj rfl];unfold Vc bkd;rw[hf,htr])
     | false =>
      rw[jFj (by decide)];cases hd:(mAt r.mirrors a).2.2.2.2.1 with
      | true=>exact VB (t:=t) 21 (by decide) (by rw[i,hf,htr,hd];rfl) (by rw[jTj rfl];unfold Vc bkd;rw[hf,htr])
      | false =>
       rw[jFj (by decide)];cases T:(mAt r.mirrors a).2.2.2.2.2 with
       | true=>exact VB (t:=t) 9 (by decide) (by rw[i,hf,htr,hd,T];rfl) (by rw[jTj rfl];unfold Vc bkd;rw[hf,htr])
       | false =>
        have Y:aimM (mAt r.mirrors a)=((mAt r.mirrors a).1,(mAt r.mirrors a).2.1,(mAt r.mirrors a).2.2.1,(mAt r.mirrors a).2.2.2.1,false,true):=by unfold aimM;rw[hd]
        exact UX (by rw[i,hf,htr,hd,T];rfl) (by rw[jFj (by decide)];rw[jTj q,show some (Vc (app .aim r [a] [t]) 0)=some ((rtE r t (r.sectors.map Sd) ((r.mirrors.set (iM r.mirrors a) (aimM (mAt r.mirrors a))).map QY) (r.offers.map Zj))) from rfl,rtE,Y,<-WH,jtj,hf,htr];rfl)
   ·rw[jFj f,QT _ f];exact⟨r,rfl,fun h=>absurd h f⟩
  ·rw[jFj g,QT _ g];rw[bk4 g];exact⟨r,rfl,fun h=>by cases h⟩
 | .park,_,hg=>by
  have j:=hg.kind;dsimp only at j;have m:=j;dsimp only[kw] at m;obtain⟨a,t,rfl,rfl,o⟩:=hg.d11 rfl rfl;simp only[jCj,jnj];unfold QZ acc;rw[gi0];by_cases d:t<r.tick
  ·exact⟨r,by rw[jTj d,jTj (g0 d)];rfl,fun h=>by rw[jTj (g0 d)] at h;cases h⟩
  rw[jFj d,jFj (g0n d)];have v:okT r t:=okt d o;rw[Zs l (by omega) u v,jBj];show ∃s,_=some (Vc s (Qt [Zk r t,known .park r [a],spec .park r [a] [t]]))/\(Qt [Zk r t,known .park r [a],spec .park r [a] [t]]=0->_)
  by_cases g:Zk r t=0
  ·rw[jTj g,QN _ g];dsimp only;rw[jTj rfl,kQ u r.mirrors (by have:=l.lenM;omega) a j rfl,jBj];show ∃s,(if known .park r [a]=0 then _ else _)=_/\_;by_cases f:known .park r [a]=0
   ·rw[jTj f,QN _ f];rw[Wz,jTj (rzS l),jTj (rzM l (by omega)),jTj (rzO l (by omega))];(iterate 11 rw[jFj (kne m (by decide))])
    have C:Zu (nmM r.mirrors) a=true:=ZW f;obtain⟨z,A,E⟩:=WP C;have y:=Jl z A;have q:Int.toNat (YJ (nmM r.mirrors) a)<(r.mirrors.map QY).length:=by rw[z,jlj,jtj];exact A
    rw[gs0,yT _ _ (by have:=l.lenM;omega) (by have:=l.lenM;omega),jBj,jTj y];rw[z] at q ⊢;rw[Q4 unM E,jBj];(iterate 5 rw[jFj (kne m (by decide))])
    have i:spec .park r [a] [t]=QF (!(mAt r.mirrors a).2.2.2.2.2) 22:=rfl;cases T:(mAt r.mirrors a).2.2.2.2.2 with
    | false=>exact VB (t:=t) 22 (by decide) (by rw[i,T];rfl) (by rw[jFj (by decide)];rfl)
    | true=>exact UX (by rw[i,T];rfl) (by rw[jTj rfl];rw[jTj q,show some (Vc (app .park r [a] [t]) 0)=some ((rtE r t (r.sectors.map Sd) ((r.mirrors.set (iM r.mirrors a) (Ka (mAt r.mirrors a))).map QY) (r.offers.map Zj))) from rfl,<-WH,jtj];rfl)
   ·rw[jFj f,QT _ f];exact⟨r,rfl,fun h=>absurd h f⟩
  ·rw[jFj g,QT _ g];rw[bk4 g];exact⟨r,rfl,fun h=>by cases h⟩
 | .dim,_,hg=>by
  have j:=hg.kind;dsimp only at j;have m:=j;dsimp only[kw] at m;obtain⟨a,t,rfl,rfl,o⟩:=hg.d11 rfl rfl;simp only[jCj,jnj];unfold QZ acc;rw[gi0];by_cases d:t<r.tick
  ·exact⟨r,by rw[jTj d,jTj (g0 d)];rfl,fun h=>by rw[jTj (g0 d)] at h;cases h⟩
  rw[jFj d,jFj (g0n d)];have v:okT r t:=okt d o;rw[Zs l (by omega) u v,jBj];show ∃s,_=some (Vc s (Qt [Zk r t,known .dim r [a],spec .dim r [a] [t]]))/\(Qt [Zk r t,known .dim r [a],spec .dim r [a] [t]]=0->_)
  by_cases g:Zk r t=0
  ·rw[jTj g,QN _ g];dsimp only;rw[jTj rfl,QdW u r.sectors (by have:=l.secs;omega) a j rfl,jBj];show ∃s,(if known .dim r [a]=0 then _ else _)=_/\_;by_cases f:known .dim r [a]=0
   ·rw[jTj f,QN _ f];rw[Wz,jTj (rzS l),jTj (rzM l (by omega)),jTj (rzO l (by omega))];(iterate 10 rw[jFj (kne m (by decide))])
    rw[jTj (keq m rfl)];exact UX rfl (by rw[gs0,Qch _ (by have:=l.lenM;omega) (by have:=l.lenM;omega),jBj];rfl)
   ·rw[jFj f,QT _ f];exact⟨r,rfl,fun h=>absurd h f⟩
  ·rw[jFj g,QT _ g];rw[bk4 g];exact⟨r,rfl,fun h=>by cases h⟩
 | .sun,_,hg=>by
  have j:=hg.kind;dsimp only at j;have m:=j;dsimp only[kw] at m;obtain⟨t,p,rfl,rfl,o⟩:=hg.d02 rfl rfl;simp only[jCj,jnj];unfold QZ acc;rw[gi0];by_cases d:t<r.tick
  ·exact⟨r,by rw[jTj d,jTj (g0 d)];rfl,fun h=>by rw[jTj (g0 d)] at h;cases h⟩
  rw[jFj d,jFj (g0n d)];have v:okT r t:=okt d o;rw[Zs l (by omega) u v,jBj];show ∃s,_=some (Vc s (Qt [Zk r t,known .sun r [],spec .sun r [] [t,p]]))/\(Qt [Zk r t,known .sun r [],spec .sun r [] [t,p]]=0->_)
  by_cases g:Zk r t=0
  ·rw[jTj g,QN _ g];dsimp only;rw[jTj rfl,qm u j rfl,jBj];show ∃s,(if known .sun r []=0 then _ else _)=_/\_;by_cases f:known .sun r []=0
   ·rw[jTj f,QN _ f];rw[Wz,jTj (rzS l),jTj (rzM l (by omega)),jTj (rzO l (by omega))];rw[jTj (keq m rfl)];rw[gi1];by_cases h:p>1000
    ·exact VB (t:=t) 3 (by decide) (QaI h) (by rw[jTj h];rfl)
    ·exact UX (QaH (x:=p) (lo:=0) (hi:=1000) (hg.val p (by simp)).1 (by omega)) (by rw[jFj h];rfl)
   ·rw[jFj f,QT _ f];exact⟨r,rfl,fun h=>absurd h f⟩
  ·rw[jFj g,QT _ g];rw[bk4 g];exact⟨r,rfl,fun h=>by cases h⟩
 | .fill,_,hg=>by
  have j:=hg.kind;dsimp only at j;have m:=j;dsimp only[kw] at m;obtain⟨t,rfl,rfl,o⟩:=hg.d01 rfl rfl;simp only[jCj,jnj];unfold QZ acc;rw[gi0];by_cases d:t<r.tick
  ·exact⟨r,by rw[jTj d,jTj (g0 d)];rfl,fun h=>by rw[jTj (g0 d)] at h;cases h⟩
  rw[jFj d,jFj (g0n d)];have v:okT r t:=okt d o;rw[Zs l (by omega) u v,jBj];show ∃s,_=some (Vc s (Qt [Zk r t,known .fill r [],spec .fill r [] [t]]))/\(Qt [Zk r t,known .fill r [],spec .fill r [] [t]]=0->_)
  by_cases g:Zk r t=0
  ·rw[jTj g,QN _ g];dsimp only;rw[jTj rfl,qm u j rfl,jBj];show ∃s,(if known .fill r []=0 then _ else _)=_/\_;by_cases f:known .fill r []=0
   ·rw[jTj f,QN _ f];rw[Wz,jTj (rzS l),jTj (rzM l (by omega)),jTj (rzO l (by omega))];(iterate 1 rw[jFj (kne m (by decide))])
    rw[jTj (keq m rfl)];cases hf:r.filled with
    | true=>exact VB (t:=t) 9 (by decide) (by unfold spec;rw[hf];rfl) (by rw[jTj rfl];unfold Vc bkd;rw[hf])
    | false=>exact UX (by unfold spec;rw[hf];rfl) (by rw[jFj (by decide)];rfl)
   ·rw[jFj f,QT _ f];exact⟨r,rfl,fun h=>absurd h f⟩
  ·rw[jFj g,QT _ g];rw[bk4 g];exact⟨r,rfl,fun h=>by cases h⟩
 | .drain,_,hg=>by
  have j:=hg.kind;dsimp only at j;have m:=j;dsimp only[kw] at m;obtain⟨t,rfl,rfl,o⟩:=hg.d01 rfl rfl;simp only[jCj,jnj];unfold QZ acc;rw[gi0];by_cases d:t<r.tick
  ·exact⟨r,by rw[jTj d,jTj (g0 d)];rfl,fun h=>by rw[jTj (g0 d)] at h;cases h⟩
  rw[jFj d,jFj (g0n d)];have v:okT r t:=okt d o;rw[Zs l (by omega) u v,jBj];show ∃s,_=some (Vc s (Qt [Zk r t,known .drain r [],spec .drain r [] [t]]))/\(Qt [Zk r t,known .drain r [],spec .drain r [] [t]]=0->_)
  by_cases g:Zk r t=0
  ·rw[jTj g,QN _ g];dsimp only;rw[jTj rfl,qm u j rfl,jBj];show ∃s,(if known .drain r []=0 then _ else _)=_/\_;by_cases f:known .drain r []=0
   ·rw[jTj f,QN _ f];rw[Wz,jTj (rzS l),jTj (rzM l (by omega)),jTj (rzO l (by omega))];(iterate 2 rw[jFj (kne m (by decide))])
    rw[jTj (keq m rfl)];cases hf:r.filled with
    | true =>
     rw[jTj rfl,zy _ (by have:=l.lenM;omega) (by have:=l.lenM;omega),jBj];have V:((((YQ r.mirrors).map Sd).length:Int)>0)↔r.mirrors.any isA=true:=by
      unfold YQ;rw[jlj,jlj,List.any_eq_true];constructor
      ·intro h;have:(r.mirrors.filter isA).length≠0:=by omega
       obtain⟨x,hx⟩:=List.exists_mem_of_length_pos (Nat.pos_of_ne_zero this);exact⟨x,(List.mem_filter.1 hx).1,(List.mem_filter.1 hx).2⟩
      ·rintro⟨x,G,M⟩;have:=List.length_pos_of_mem (List.mem_filter.2 ⟨G,M⟩);omega
     by_cases h:r.mirrors.any isA=true
     ·exact VB (t:=t) 31 (by decide) (by unfold spec;rw[hf,h];rfl) (by rw[jTj (V.2 h)];unfold Vc bkd;rw[hf])
     ·refine UX (by unfold spec;simp only[Bool.not_eq_true] at h;rw[hf,h];rfl) (by rw[jFj (fun C=>h (V.1 C))];rfl)
    | false=>exact VB (t:=t) 22 (by decide) (by unfold spec;rw[hf];rfl) (by rw[jFj (by decide)];unfold Vc bkd;rw[hf])
   ·rw[jFj f,QT _ f];exact⟨r,rfl,fun h=>absurd h f⟩
  ·rw[jFj g,QT _ g];rw[bk4 g];exact⟨r,rfl,fun h=>by cases h⟩
 | .trip,_,hg=>by
  have j:=hg.kind;dsimp only at j;have m:=j;dsimp only[kw] at m;obtain⟨t,rfl,rfl,o⟩:=hg.d01 rfl rfl;simp only[jCj,jnj];unfold QZ acc;rw[gi0];by_cases d:t<r.tick
  ·exact⟨r,by rw[jTj d,jTj (g0 d)];rfl,fun h=>by rw[jTj (g0 d)] at h;cases h⟩
  rw[jFj d,jFj (g0n d)];have v:okT r t:=okt d o;rw[Zs l (by omega) u v,jBj];show ∃s,_=some (Vc s (Qt [Zk r t,known .trip r [],spec .trip r [] [t]]))/\(Qt [Zk r t,known .trip r [],spec .trip r [] [t]]=0->_)
  by_cases g:Zk r t=0
  ·rw[jTj g,QN _ g];dsimp only;rw[jTj rfl,qm u j rfl,jBj];show ∃s,(if known .trip r []=0 then _ else _)=_/\_;by_cases f:known .trip r []=0
   ·rw[jTj f,QN _ f];rw[Wz,jTj (rzS l),jTj (rzM l (by omega)),jTj (rzO l (by omega))];(iterate 3 rw[jFj (kne m (by decide))])
    rw[jTj (keq m rfl)];cases hf:r.tripped with
    | true=>exact VB (t:=t) 9 (by decide) (by unfold spec;rw[hf];rfl) (by rw[jTj rfl];unfold Vc bkd;rw[hf])
    | false=>exact UX (by unfold spec;rw[hf];rfl) (by rw[jFj (by decide),Qcg _ (by have:=l.lenM;omega) (by have:=l.lenM;omega),jBj];rfl)
   ·rw[jFj f,QT _ f];exact⟨r,rfl,fun h=>absurd h f⟩
  ·rw[jFj g,QT _ g];rw[bk4 g];exact⟨r,rfl,fun h=>by cases h⟩
 | .reset,_,hg=>by
  have j:=hg.kind;dsimp only at j;have m:=j;dsimp only[kw] at m;obtain⟨t,rfl,rfl,o⟩:=hg.d01 rfl rfl;simp only[jCj,jnj];unfold QZ acc;rw[gi0];by_cases d:t<r.tick
  ·exact⟨r,by rw[jTj d,jTj (g0 d)];rfl,fun h=>by rw[jTj (g0 d)] at h;cases h⟩
  rw[jFj d,jFj (g0n d)];have v:okT r t:=okt d o;rw[Zs l (by omega) u v,jBj];show ∃s,_=some (Vc s (Qt [Zk r t,known .reset r [],spec .reset r [] [t]]))/\(Qt [Zk r t,known .reset r [],spec .reset r [] [t]]=0->_)
  by_cases g:Zk r t=0
  ·rw[jTj g,QN _ g];dsimp only;rw[jTj rfl,qm u j rfl,jBj];show ∃s,(if known .reset r []=0 then _ else _)=_/\_;by_cases f:known .reset r []=0
   ·rw[jTj f,QN _ f];rw[Wz,jTj (rzS l),jTj (rzM l (by omega)),jTj (rzO l (by omega))];(iterate 4 rw[jFj (kne m (by decide))])
    rw[jTj (keq m rfl)];cases hf:r.tripped with
    | true=>exact UX (by unfold spec;rw[hf];rfl) (by rw[jTj rfl];rfl)
    | false=>exact VB (t:=t) 22 (by decide) (by unfold spec;rw[hf];rfl) (by rw[jFj (by decide)];unfold Vc bkd;rw[hf])
   ·rw[jFj f,QT _ f];exact⟨r,rfl,fun h=>absurd h f⟩
  ·rw[jFj g,QT _ g];rw[bk4 g];exact⟨r,rfl,fun h=>by cases h⟩
 | .offer,_,hg=>by
  have j:=hg.kind;dsimp only at j;have m:=j;dsimp only[kw] at m;obtain⟨a,t,p,Q,K,L,rfl,rfl,o⟩:=hg.d15 rfl rfl;simp only[jCj,jnj];unfold QZ acc;rw[gi0];by_cases d:t<r.tick
  ·exact⟨r,by rw[jTj d,jTj (g0 d)];rfl,fun h=>by rw[jTj (g0 d)] at h;cases h⟩
  rw[jFj d,jFj (g0n d)];have v:okT r t:=okt d o;rw[Zs l (by omega) u v,jBj];show ∃s,_=some (Vc s (Qt [Zk r t,known .offer r [a],spec .offer r [a] [t,p,Q,K,L]]))/\(Qt [Zk r t,known .offer r [a],spec .offer r [a] [t,p,Q,K,L]]=0->_)
  by_cases g:Zk r t=0
  ·rw[jTj g,QN _ g];dsimp only;rw[jTj rfl,QdY u r.offers (by have:=l.lenO;omega) a j rfl,jBj];show ∃s,(if known .offer r [a]=0 then _ else _)=_/\_;by_cases f:known .offer r [a]=0
   ·rw[jTj f,QN _ f];rw[Wz,jTj (rzS l),jTj (rzM l (by omega)),jTj (rzO l (by omega))];(iterate 5 rw[jFj (kne m (by decide))])
    rw[jTj (keq m rfl)];rw[gi1];have i:spec .offer r [a] [t,p,Q,K,L]=Qt [ws [t,p,Q,K,L],inR K 1 1000,inR L 0 1000,QF ((r.offers.length:Int)==32) 5]:=rfl;by_cases G:p<t
    ·exact VB (t:=t) 14 (by decide) (by rw[i];unfold ws;rw[jTj (show[t,p,Q,K,L].getD 1 0<[t,p,Q,K,L].getD 0 0 from G)];rfl) (by rw[jTj G];rfl)
    rw[jFj G,gi2];have P:ws [t,p,Q,K,L]=QF (decide (p>=Q)) 14:=by unfold ws;rw[jFj (show ¬[t,p,Q,K,L].getD 1 0<[t,p,Q,K,L].getD 0 0 from G)];rfl
    by_cases M:p>=Q
    ·exact VB (t:=t) 14 (by decide) (by rw[i,P,jDj M];rfl) (by rw[jTj M];rfl)
    rw[jFj M,gi3,YL,jBj];rw[P,jEj M,Xb,QN _ rfl] at i;by_cases U:inR K 1 1000=0
    ·rw[jFj (by simp[U]),gi4];rw[QN _ U] at i;have a4:=hg.val L (by simp);by_cases S:L>1000
     ·exact VB (t:=t) 3 (by decide) (by rw[i,QaI S];rfl) (by rw[jTj S];rfl)
     ·rw[QN _ (QaH a4.1 (by omega))] at i;have a9:=l.lenO;by_cases X:r.offers.length=32
      ·have H:((r.offers.length:Int)==32)=true:=by simp[X]
       exact VB (t:=t) 5 (by decide) (by rw[i,H];rfl) (by rw[jFj S,jTj (by rw[jlj];omega)];rfl)
      ·have a3:¬(((r.offers.map Zj).length:Int)>=32):=by rw[jlj];omega
       have H:((r.offers.length:Int)==32)=false:=by simp;omega
       refine UX (by rw[i,H];rfl) (by rw[jFj S,jFj a3,gs0,jTj (V7 (by decide) (by rw[jlj];omega))];unfold Vc app act bkd;simp only[List.map_append];rfl)
    ·have N:=(qO K 1 1000).resolve_left U;exact VB (t:=t) 3 (by decide) (by rw[i,N];rfl) (by rw[jTj (by simp[U])];rfl)
   ·rw[jFj f,QT _ f];exact⟨r,rfl,fun h=>absurd h f⟩
  ·rw[jFj g,QT _ g];rw[bk4 g];exact⟨r,rfl,fun h=>by cases h⟩
 | .deliver,_,hg=>by
  have j:=hg.kind;dsimp only at j;have m:=j;dsimp only[kw] at m;obtain⟨a,t,p,rfl,rfl,o⟩:=hg.d12 rfl rfl;simp only[jCj,jnj];unfold QZ acc;rw[gi0];by_cases d:t<r.tick
  ·exact⟨r,by rw[jTj d,jTj (g0 d)];rfl,fun h=>by rw[jTj (g0 d)] at h;cases h⟩
  rw[jFj d,jFj (g0n d)];have v:okT r t:=okt d o;rw[Zs l (by omega) u v,jBj];show ∃s,_=some (Vc s (Qt [Zk r t,known .deliver r [a],spec .deliver r [a] [t,p]]))/\(Qt [Zk r t,known .deliver r [a],spec .deliver r [a] [t,p]]=0->_)
  by_cases g:Zk r t=0
  ·rw[jTj g,QN _ g];dsimp only;rw[jTj rfl,Qdo u r.offers (by have:=l.lenO;omega) a j rfl,jBj];show ∃s,(if known .deliver r [a]=0 then _ else _)=_/\_;by_cases f:known .deliver r [a]=0
   ·rw[jTj f,QN _ f];rw[Wz,jTj (rzS l),jTj (rzM l (by omega)),jTj (rzO l (by omega))];(iterate 6 rw[jFj (kne m (by decide))])
    rw[jTj (keq m rfl)];have C:Zu (nmO r.offers) a=true:=ZW f;obtain⟨z,A,E⟩:=JV C;have O:=l.offs _ (jgj E);have y:=uS z A;rw[gs0,at_o _ _ (by have:=l.lenO;omega) (by have:=l.lenO;omega),jBj,jTj y,z,Q4 unO E,jBj];have a0:=O;obtain⟨b4,b5,b6⟩:=a0;have b3:=hg.val p (by simp);have a6:=K4 l (by omega) v;have a7:=l.heat;have i:spec .deliver r [a] [t,p]=if Qt [QF (oAt r.offers a).2.2.2.2.2.2 23,(if t<(oAt r.offers a).2.1 then 14 else QF (decide (t>=(oAt r.offers a).2.2.1)) 14),QF (p==0) 3,QF (decide (p>Ws (oAt r.offers a))) 20]=0
     then QF (decide (p*1000000>r.heat+ZL r t)) 16
     else Qt [QF (oAt r.offers a).2.2.2.2.2.2 23,(if t<(oAt r.offers a).2.1 then 14 else QF (decide (t>=(oAt r.offers a).2.2.1)) 14),QF (p==0) 3,QF (decide (p>Ws (oAt r.offers a))) 20]:=rfl
    cases J:(oAt r.offers a).2.2.2.2.2.2 with
    | true =>
     rw[J,El,QT _ (by decide),jFj (by decide)] at i;exact VB (t:=t) 23 (by decide) i (by rw[jTj rfl];rfl)
    | false =>
     rw[J,Xb,QN _ rfl] at i;rw[jFj (by decide),jFj (kne m (by decide))];by_cases G:t<(oAt r.offers a).2.1
     ·rw[jTj G,QT _ (by decide),jFj (by decide)] at i;exact VB (t:=t) 14 (by decide) i (by rw[jTj G];rfl)
     rw[jFj G] at i;rw[jFj G];by_cases M:t>=(oAt r.offers a).2.2.1
     ·rw[jDj M,El,QT _ (by decide),jFj (by decide)] at i;exact VB (t:=t) 14 (by decide) i (by rw[jTj M];rfl)
     rw[jEj M,Xb,QN _ rfl] at i;rw[jFj M,gi1];by_cases U:p=0
     ·have N : (p==0)=true:=by simp[U]
      rw[N,El,QT _ (by decide),jFj (by decide)] at i;exact VB (t:=t) 3 (by decide) i (by rw[jTj U];rfl)
     have N : (p==0)=false:=by simp[U]
     rw[N,Xb,QN _ rfl] at i;have a1:=zx n O;rw[J] at a1;rw[jFj U,a1,jBj];by_cases S:p>Ws (oAt r.offers a)
     ·rw[jDj S,El,QT _ (by decide),jFj (by decide)] at i;exact VB (t:=t) 20 (by decide) i (by rw[jTj S];rfl)
     rw[jEj S,Xb,QN _ rfl,jTj (show Qt []=0 from rfl)] at i;rw[jFj S,jTj (by unfold Qh;omega)];by_cases h5:p*1000000>r.heat+ZL r t
     ·rw[jDj h5,El] at i;exact VB (t:=t) 16 (by decide) i (by rw[jTj h5];rfl)
     rw[jEj h5,Xb] at i;unfold Ws at S;have a2:r.heat+ZL r t - p*1000000=r.heat+ZL r t - 1000000*p:=by omega
     refine UX i ?_;rw[jFj h5,jTj (by unfold Qh;omega),jTj (by unfold Qh;omega),a2];have e:(r.offers.set (iO r.offers a) (yO (oAt r.offers a) p)).map Zj=List.set (r.offers.map Zj) (iO r.offers a) (Zj (yO (oAt r.offers a) p)):=set_encO.symm;have e2:Vc (app .deliver r [a] [t,p]) 0=(t,r.level,r.filled,r.tripped,r.light+ZL r t,r.heat+ZL r t - 1000000*p,r.money,r.sectors.map Sd,r.mirrors.map QY,(r.offers.set (iO r.offers a) (yO (oAt r.offers a) p)).map Zj,0):=rfl;have Y:yO (oAt r.offers a) p=((oAt r.offers a).1,(oAt r.offers a).2.1,(oAt r.offers a).2.2.1,(oAt r.offers a).2.2.2.1,(oAt r.offers a).2.2.2.2.1,(oAt r.offers a).2.2.2.2.2.1+p,false):=by unfold yO;rw[J]
     rw[e2,e,Y,jtj];rfl
   ·rw[jFj f,QT _ f];exact⟨r,rfl,fun h=>absurd h f⟩
  ·rw[jFj g,QT _ g];rw[bk4 g];exact⟨r,rfl,fun h=>by cases h⟩
 | .bill,_,hg=>by
  have j:=hg.kind;dsimp only at j;have m:=j;dsimp only[kw] at m;obtain⟨a,t,rfl,rfl,o⟩:=hg.d11 rfl rfl;simp only[jCj,jnj];unfold QZ acc;rw[gi0];by_cases d:t<r.tick
  ·exact⟨r,by rw[jTj d,jTj (g0 d)];rfl,fun h=>by rw[jTj (g0 d)] at h;cases h⟩
  rw[jFj d,jFj (g0n d)];have v:okT r t:=okt d o;rw[Zs l (by omega) u v,jBj];show ∃s,_=some (Vc s (Qt [Zk r t,known .bill r [a],spec .bill r [a] [t]]))/\(Qt [Zk r t,known .bill r [a],spec .bill r [a] [t]]=0->_)
  by_cases g:Zk r t=0
  ·rw[jTj g,QN _ g];dsimp only;rw[jTj rfl,Qdo u r.offers (by have:=l.lenO;omega) a j rfl,jBj];show ∃s,(if known .bill r [a]=0 then _ else _)=_/\_;by_cases f:known .bill r [a]=0
   ·rw[jTj f,QN _ f];rw[Wz,jTj (rzS l),jTj (rzM l (by omega)),jTj (rzO l (by omega))];(iterate 7 rw[jFj (kne m (by decide))])
    rw[jTj (keq m rfl)];have C:Zu (nmO r.offers) a=true:=ZW f;obtain⟨z,A,E⟩:=JV C;have O:=l.offs _ (jgj E);have y:=uS z A;rw[gs0,at_o _ _ (by have:=l.lenO;omega) (by have:=l.lenO;omega),jBj,jTj y,z,Q4 unO E,jBj];have a5:=(YF O).2.2.2;have T:=l.money;have i:spec .bill r [a] [t]=Qt [QF (oAt r.offers a).2.2.2.2.2.2 23,QF (decide (t<(oAt r.offers a).2.2.1)) 32]:=rfl;cases J:(oAt r.offers a).2.2.2.2.2.2 with
    | true =>
     rw[J,El,QT _ (by decide)] at i;exact VB (t:=t) 23 (by decide) i (by rw[jTj rfl];rfl)
    | false =>
     rw[J,Xb,QN _ rfl] at i;rw[jFj (by decide)];by_cases G:t<(oAt r.offers a).2.2.1
     ·rw[jDj G,El,QT _ (by decide)] at i;exact VB (t:=t) 32 (by decide) i (by rw[jTj G];rfl)
     rw[jEj G,Xb,QN _ rfl] at i;have Z:=Qar n O;rw[J] at Z;refine UX i ?_;rw[jFj G,Z,jBj,jTj (by unfold Qh;omega)];have e:(r.offers.set (iO r.offers a) (GV (oAt r.offers a))).map Zj=List.set (r.offers.map Zj) (iO r.offers a) (Zj (GV (oAt r.offers a))):=set_encO.symm;have e2:Vc (app .bill r [a] [t]) 0=(t,r.level,r.filled,r.tripped,r.light+ZL r t,r.heat+ZL r t,r.money+U5 (oAt r.offers a),r.sectors.map Sd,r.mirrors.map QY,(r.offers.set (iO r.offers a) (GV (oAt r.offers a))).map Zj,0):=rfl;rw[e2,e,jtj];rfl
   ·rw[jFj f,QT _ f];exact⟨r,rfl,fun h=>absurd h f⟩
  ·rw[jFj g,QT _ g];rw[bk4 g];exact⟨r,rfl,fun h=>by cases h⟩
 | .undo,h,_=>absurd rfl h
theorem W2 {c d:Nat}(h:c<=d){r:Reg}(a:Inv c r):Inv d r :=
 ⟨a.tick,a.level,a.light,a.heat,by have:=a.money;omega,a.secs,by have:=a.lenM;omega,by have:=a.lenO;omega,a.mirs,a.offs⟩
theorem VC {c:Nat}{r:Reg}(a:Inv c r)(hc:c<=992){t:Int}(f:okT r t)(d:Zk r t=0):Inv c (bkd r t):=by
 have l:=(K4 a hc f).2;have i:=a.light;have j:=a.heat;have k:=a.tick;have b : r.light+ZL r t<=1000000000000000/\r.heat+ZL r t<=1000000000000000:=by
  unfold Zk at d;split at d
  ·rename_i h;exact h
  ·cases d
 obtain⟨g,e⟩:=f;exact⟨⟨show 0<=t by omega,e⟩,a.level,⟨show 0<=r.light+ZL r t by omega,b.1⟩,⟨show 0<=r.heat+ZL r t by omega,b.2⟩,a.money,a.secs,a.lenM,a.lenO,a.mirs,a.offs⟩
theorem Ge {c:Nat}{q:Reg}(b:Inv c q)(a:jSj){m:Mir}(d:okM m):Inv c (chgM q a m) :=
 ⟨b.tick,b.level,b.light,b.heat,b.money,b.secs,by show(q.mirrors.set _ _).length<=min c 32;rw[List.length_set];exact b.lenM,b.lenO,fun x e=>by
  obtain h|h:=List.mem_or_eq_of_mem_set e
  ·exact b.mirs x h
  ·rw[h];exact d,b.offs⟩
theorem uP {c:Nat}{q:Reg}(b:Inv c q)(a:jSj){o:Off}(d:okO o):Inv c (chgO q a o) :=
 ⟨b.tick,b.level,b.light,b.heat,b.money,b.secs,b.lenM,by show(q.offers.set _ _).length<=min c 32;rw[List.length_set];exact b.lenO,b.mirs,fun x e=>by
  obtain h|h:=List.mem_or_eq_of_mem_set e
  ·exact b.offs x h
  ·rw[h];exact d⟩
theorem uQ {c:Nat}{q:Reg}(a:Inv c q)(f:Mir->Mir)(b:∀m,okM m->okM (f m)):Inv c { q with mirrors:=q.mirrors.map f } :=
 ⟨a.tick,a.level,a.light,a.heat,a.money,a.secs,by show(q.mirrors.map f).length<=min c 32;rw[jlj];exact a.lenM,a.lenO,fun x d=>by obtain⟨y,e,rfl⟩:=List.mem_map.1 d;exact b y (a.mirs y e),a.offs⟩
theorem QdC (s:jSj)(m:Mir)(h:okM m):okM (EN s m):=by
 unfold EN;split
 ·exact h
 ·exact h
theorem Qc9 {c:Nat}{r:Reg}(p:Inv c r)(hc:c<=990){num:Int}{kind C:jSj}{names:List jSj}{x:List Int} :
  ∀{k:Ki},k≠.undo->Good (num,kind,names,x,C) k->acc k r names x=0->Inv (c+1) (app k r names x)
 | .sector,_,hg,ha=>by
  obtain⟨a,t,rfl,rfl,i⟩:=hg.d11 rfl rfl;obtain⟨g,f,l,j⟩:=QS ha;have n:okT r t:=okt g i;have d:=W2 (Nat.le_succ c) (VC p (by omega) n f);have K:=YT (e:=5) (b:=((r.sectors.length:Int)==8)) (by decide) j;have L : ¬(r.sectors.length:Int)=8:=by simpa using K
  have q:=p.secs;exact⟨d.tick,d.level,d.light,d.heat,d.money,by show(r.sectors++[a]).length<=8;simp;omega,d.lenM,d.lenO,d.mirs,d.offs⟩
 | .mirror,_,hg,ha=>by
  obtain⟨a,b,t,v,rfl,rfl,i⟩:=hg.d22 rfl rfl;obtain⟨g,f,l,j⟩:=QS ha;have n:okT r t:=okt g i;have d:=W2 (Nat.le_succ c) (VC p (by omega) n f);have G:=YC.1 (Zv j (inR v 1 100) (by simp));have y:=YT (e:=5) (b:=((r.mirrors.length:Int)==32)) (by decide) (Zv j (QF ((r.mirrors.length:Int)==32) 5) (by simp));have A : ¬(r.mirrors.length:Int)=32:=by simpa using y
  have O:=p.lenM;refine⟨d.tick,d.level,d.light,d.heat,d.money,d.secs,by show(r.mirrors++[_]).length<=min (c+1) 32;rw[jaj,List.length_singleton];omega,d.lenO,fun m u=>?_,d.offs⟩;obtain h|h:=List.mem_append.1 u
  ·exact p.mirs m h
  ·rw[List.mem_singleton.1 h];exact⟨G,⟨Int.le_refl 0,show(0:Int)<=1000 by decide⟩⟩
 | .soil,_,hg,ha=>by obtain⟨a,t,v,rfl,rfl,i⟩:=hg.d12 rfl rfl;obtain⟨g,f,l,j⟩:=QS ha;have n:okT r t:=okt g i;have d:=W2 (Nat.le_succ c) (VC p (by omega) n f);have s:Zu (nmM r.mirrors) a=true:=ZW l;have u:=p.mirs _ (jgj (WP s).2.2);exact Ge d a (m:=X8 (mAt r.mirrors a) v) ⟨u.1,YC.1 j⟩
 | .clean,_,hg,ha=>by obtain⟨a,t,rfl,rfl,i⟩:=hg.d11 rfl rfl;obtain⟨g,f,l,j⟩:=QS ha;have n:okT r t:=okt g i;have d:=W2 (Nat.le_succ c) (VC p (by omega) n f);have s:Zu (nmM r.mirrors) a=true:=ZW l;have u:=p.mirs _ (jgj (WP s).2.2);exact Ge d a (m:=X8 (mAt r.mirrors a) 0) ⟨u.1,⟨Int.le_refl 0,show(0:Int)<=1000 by decide⟩⟩
 | .defect,_,hg,ha=>by obtain⟨a,t,rfl,rfl,i⟩:=hg.d11 rfl rfl;obtain⟨g,f,l,j⟩:=QS ha;have n:okT r t:=okt g i;have d:=W2 (Nat.le_succ c) (VC p (by omega) n f);have s:Zu (nmM r.mirrors) a=true:=ZW l;have u:=p.mirs _ (jgj (WP s).2.2);exact Ge d a (m:=zU (mAt r.mirrors a) true) u
 | .repair,_,hg,ha=>by obtain⟨a,t,rfl,rfl,i⟩:=hg.d11 rfl rfl;obtain⟨g,f,l,j⟩:=QS ha;have n:okT r t:=okt g i;have d:=W2 (Nat.le_succ c) (VC p (by omega) n f);have s:Zu (nmM r.mirrors) a=true:=ZW l;have u:=p.mirs _ (jgj (WP s).2.2);exact Ge d a (m:=zU (mAt r.mirrors a) false) u
 | .aim,_,hg,ha=>by obtain⟨a,t,rfl,rfl,i⟩:=hg.d11 rfl rfl;obtain⟨g,f,l,j⟩:=QS ha;have n:okT r t:=okt g i;have d:=W2 (Nat.le_succ c) (VC p (by omega) n f);have s:Zu (nmM r.mirrors) a=true:=ZW l;have u:=p.mirs _ (jgj (WP s).2.2);exact Ge d a (m:=aimM (mAt r.mirrors a)) u
 | .park,_,hg,ha=>by obtain⟨a,t,rfl,rfl,i⟩:=hg.d11 rfl rfl;obtain⟨g,f,l,j⟩:=QS ha;have n:okT r t:=okt g i;have d:=W2 (Nat.le_succ c) (VC p (by omega) n f);have s:Zu (nmM r.mirrors) a=true:=ZW l;have u:=p.mirs _ (jgj (WP s).2.2);exact Ge d a (m:=Ka (mAt r.mirrors a)) u
 | .dim,_,hg,ha=>by obtain⟨a,t,rfl,rfl,i⟩:=hg.d11 rfl rfl;obtain⟨g,f,l,j⟩:=QS ha;have n:okT r t:=okt g i;have d:=W2 (Nat.le_succ c) (VC p (by omega) n f);exact uQ d (EN a) (QdC a)
 | .sun,_,hg,ha=>by obtain⟨t,v,rfl,rfl,i⟩:=hg.d02 rfl rfl;obtain⟨g,f,l,j⟩:=QS ha;have n:okT r t:=okt g i;have d:=W2 (Nat.le_succ c) (VC p (by omega) n f);exact⟨d.tick,YC.1 j,d.light,d.heat,d.money,d.secs,d.lenM,d.lenO,d.mirs,d.offs⟩
 | .fill,_,hg,ha=>by obtain⟨t,rfl,rfl,i⟩:=hg.d01 rfl rfl;obtain⟨g,f,l,j⟩:=QS ha;have n:okT r t:=okt g i;have d:=W2 (Nat.le_succ c) (VC p (by omega) n f);exact⟨d.tick,d.level,d.light,d.heat,d.money,d.secs,d.lenM,d.lenO,d.mirs,d.offs⟩
 | .drain,_,hg,ha=>by obtain⟨t,rfl,rfl,i⟩:=hg.d01 rfl rfl;obtain⟨g,f,l,j⟩:=QS ha;have n:okT r t:=okt g i;have d:=W2 (Nat.le_succ c) (VC p (by omega) n f);exact⟨d.tick,d.level,d.light,d.heat,d.money,d.secs,d.lenM,d.lenO,d.mirs,d.offs⟩
 | .trip,_,hg,ha=>by obtain⟨t,rfl,rfl,i⟩:=hg.d01 rfl rfl;obtain⟨g,f,l,j⟩:=QS ha;have n:okT r t:=okt g i;have d:=W2 (Nat.le_succ c) (VC p (by omega) n f);have:=uQ d Ka (fun m h=>h);exact⟨this.tick,this.level,this.light,this.heat,this.money,this.secs,this.lenM,this.lenO,this.mirs,this.offs⟩
 | .reset,_,hg,ha=>by obtain⟨t,rfl,rfl,i⟩:=hg.d01 rfl rfl;obtain⟨g,f,l,j⟩:=QS ha;have n:okT r t:=okt g i;have d:=W2 (Nat.le_succ c) (VC p (by omega) n f);exact⟨d.tick,d.level,d.light,d.heat,d.money,d.secs,d.lenM,d.lenO,d.mirs,d.offs⟩
 | .offer,_,hg,ha=>by
  obtain⟨a,t,v,W,F,S,rfl,rfl,i⟩:=hg.d15 rfl rfl;obtain⟨g,f,l,j⟩:=QS ha;have n:okT r t:=okt g i;have d:=W2 (Nat.le_succ c) (VC p (by omega) n f);have H:=YC.1 (Zv j (inR F 1 1000) (by simp));have J:=YC.1 (Zv j (inR S 0 1000) (by simp));have y:=YT (e:=5) (b:=((r.offers.length:Int)==32)) (by decide) (Zv j (QF ((r.offers.length:Int)==32) 5) (by simp));have A : ¬(r.offers.length:Int)=32:=by simpa using y
  have O:=p.lenO;refine⟨d.tick,d.level,d.light,d.heat,d.money,d.secs,d.lenM,by show(r.offers++[_]).length<=min (c+1) 32;rw[jaj,List.length_singleton];omega,d.mirs,fun o z=>?_⟩;obtain h|h:=List.mem_append.1 z
  ·exact p.offs o h
  ·rw[List.mem_singleton.1 h];exact⟨H,J,⟨Int.le_refl 0,show(0:Int)<=F by omega⟩⟩
 | .deliver,_,hg,ha=>by obtain⟨a,t,v,rfl,rfl,i⟩:=hg.d12 rfl rfl;obtain⟨g,f,l,j⟩:=QS ha;have n:okT r t:=okt g i;have d:=W2 (Nat.le_succ c) (VC p (by omega) n f);have s:Zu (nmO r.offers) a=true:=ZW l;have z:=p.offs _ (jgj (JV s).2.2);have M:=EO j;have U:=hg.val v (by simp);have E:=M.2.2.1;unfold Ws at E;obtain⟨P,Q,V⟩:=z;have q:=uP d a (o:=yO (oAt r.offers a) v) ⟨P,Q,⟨show 0<=(oAt r.offers a).2.2.2.2.2.1+v by omega,show(oAt r.offers a).2.2.2.2.2.1+v<=(oAt r.offers a).2.2.2.1 by omega⟩⟩;have s:=d.heat;have N:0<=r.heat+ZL r t/\r.heat+ZL r t<=1000000000000000:=s;exact⟨q.tick,q.level,q.light,⟨show 0<=r.heat+ZL r t - 1000000*v by omega,show r.heat+ZL r t - 1000000*v<=1000000000000000 by omega⟩,q.money,q.secs,q.lenM,q.lenO,q.mirs,q.offs⟩
 | .bill,_,hg,ha=>by obtain⟨a,t,rfl,rfl,i⟩:=hg.d11 rfl rfl;obtain⟨g,f,l,j⟩:=QS ha;have n:okT r t:=okt g i;have d:=W2 (Nat.le_succ c) (VC p (by omega) n f);have s:Zu (nmO r.offers) a=true:=ZW l;have z:=p.offs _ (jgj (JV s).2.2);have q:=uP d a (o:=GV (oAt r.offers a)) z;have T:=(YF z).2.2.2;have u:=p.money;exact⟨q.tick,q.level,q.light,q.heat,⟨show -(2000000*((c+1:Nat):Int))<=r.money+U5 (oAt r.offers a) by omega,show r.money+U5 (oAt r.offers a)<=2000000*((c+1:Nat):Int) by omega⟩,q.secs,q.lenM,q.lenO,q.mirs,q.offs⟩
 | .undo,h,_,_=>absurd rfl h
theorem Qcz:Inv 0 Reg.zero:=⟨by decide,by decide,by decide,by decide,by decide,by decide,jLj _,jLj _,fun m a=>(List.not_mem_nil a).elim,fun o b=>(List.not_mem_nil b).elim⟩
def kdE (e:Ev):Option Ki:=yJ e.2.1.data.toList
def appE (r:Reg)(e:Ev):Reg:=match kdE e with
 | some k=>app k r e.2.2.1 e.2.2.2.1
 | none=>r
def X0 (r:Reg)(e:Ev):Int:=match kdE e with
 | some k=>acc k r e.2.2.1 e.2.2.2.1
 | none=>0
def QD (l:List Ev):Reg:=l.foldl appE Reg.zero
theorem GA (l:List Ev)(e:Ev):QD (l++[e])=appE (QD l) e:=by unfold QD;rw[List.foldl_append];rfl
theorem yI {e:Ev}{k:Ki}(h:Good e k):kdE e=some k:=by unfold kdE;rw[h.kind,E7]
theorem XR {e:Ev}{k:Ki}(h:Good e k)(r:Reg):appE r e=app k r e.2.2.1 e.2.2.2.1:=by unfold appE;rw[yI h]
theorem Gq {e:Ev}{k:Ki}(h:Good e k)(r:Reg):X0 r e=acc k r e.2.2.1 e.2.2.2.1:=by unfold X0;rw[yI h]
def OkL (l:List Ev):Prop:=∀(i:Nat) (e:Ev),l[i]?=some e->∃k,k≠.undo/\Good e k/\acc k (QD (l.take i)) e.2.2.1 e.2.2.2.1=0
theorem Jx:OkL []:=fun i e h=>by simp at h
theorem uH {l:List Ev}(h:OkL l)(j:Nat):OkL (l.take j):=fun i e a=>by
 rw[List.getElem?_take] at a;split at a
 ·rename_i f;obtain⟨k,b,c,d⟩:=h i e a;refine⟨k,b,c,?_⟩;rw[List.take_take,Nat.min_eq_left (by omega)];exact d
 ·cases a
theorem Qcm {l:List Ev}(h:OkL l){e:Ev}{k:Ki}(g:k≠.undo)(f:Good e k)(d:acc k (QD l) e.2.2.1 e.2.2.2.1=0):OkL (l++[e]):=fun i x a=>by
 by_cases hi:i<l.length
 ·rw[List.getElem?_append_left hi] at a;rw[List.take_append_of_le_length (by omega)];exact h i x a
 ·rw[List.getElem?_append_right (by omega)] at a;have b:i - l.length=0:=by
   obtain c|c:=Nat.eq_zero_or_pos (i - l.length)
   ·exact c
   ·rw[List.getElem?_eq_none (by simp;omega)] at a;cases a
  rw[b] at a;cases a;have:i=l.length:=by omega
  subst this;rw[List.take_left];exact⟨k,g,f,d⟩
theorem yw {l:List Ev}(h:OkL l)(d:l.length<=990):∀j,j<=l.length->Inv j (QD (l.take j))
 | 0,_=>by rw[List.take_zero];exact Qcz
 | j+1,hj=>by have f:=yw h d j (by omega);have e:=jej (l:=l) (i:=j) (by omega);obtain⟨k,b,a,c⟩:=h j _ e;rw[List.take_succ_eq_append_getElem (by omega),GA,XR a];exact Qc9 f (by omega) b a c
theorem GG {l:List Ev}(h:OkL l)(a:l.length<=990):Inv l.length (QD l):=by have:=yw h a l.length (jLj _);rwa [List.take_length] at this
def isU (e:Ev):Bool:=decide (kdE e=some .undo)
def YM (i:Nat)(cnt:List Ev)(e:Ev):Int:=if chk e=0 then(if e.1=(i:Int)+1 then(if isU e=true then X7 cnt else X0 (QD cnt) e) else 11) else chk e
def VO (cnt:List Ev)(e:Ev):List Ev:=if isU e=true then cnt.dropLast else cnt++[e]
def rep:Nat->List Ev->List Ev->(Int×Int)⊕List Ev
 | _,cnt,[]=>.inr cnt
 | i,cnt,e::l=>if YM i cnt e=0 then rep (i+1) (VO cnt e) l else .inl ((i:Int)+1,YM i cnt e)
theorem KY {e:Ev}{k:Ki}(h:Good e k):isU e=decide (k=.undo):=by
 unfold isU;rw[yI h];by_cases a:k=.undo
 ·simp[a]
 ·simp[a]
theorem kJ {i:Nat}{cnt:List Ev}{e:Ev}(h:YM i cnt e=0):∃k,Good e k/\e.1=(i:Int)+1/\(if isU e=true then X7 cnt else X0 (QD cnt) e)=0:=by
 unfold YM at h;by_cases hc:chk e=0
 ·rw[jTj hc] at h;obtain⟨k,b⟩:=qn hc;by_cases a:e.1=(i:Int)+1
  ·rw[jTj a] at h;exact⟨k,b,a,h⟩
  ·rw[jFj a] at h;cases h
 ·rw[jFj hc] at h;exact absurd h hc
theorem Qan {cnt:List Ev}(h:X7 cnt=0):cnt≠[]:=by intro e;subst e;cases h
theorem Xk {i:Nat}{cnt:List Ev}(d:OkL cnt)(hc:cnt.length<=i){e:Ev}(h:YM i cnt e=0):OkL (VO cnt e)/\(VO cnt e).length<=i+1:=by
 obtain⟨k,c,_,b⟩:=kJ h;unfold VO;by_cases a:isU e=true
 ·rw[jTj a];rw[List.dropLast_eq_take];exact⟨uH d _,by simp;omega⟩
 ·rw[jFj a] at b ⊢;rw[KY c] at a;rw[Gq c] at b;exact⟨Qcm d (by simpa using a) c b,by simp;omega⟩
theorem uF {x:D}(l:jVj):l.take ((List.replicate (Int.toNat ((l.length:Nat):Int)) (x:D)):jVj).length++(List.replicate (Int.toNat ((l.length:Nat):Int)) (x:D)).drop l.length=l:=by rw[List.length_replicate,jtj,List.take_length,List.drop_eq_nil_of_le (by rw[List.length_replicate];exact jLj _),List.append_nil]
theorem Qal {n:Nat}(i:1700<=n){cnt:List Ev}(g:OkL cnt)(hc:cnt.length<=990){evs:jVj}(d:evs.length<=5000){e:Ev}(f:chk e=0) :
  Qs n e.1 e.2.1 (e.2.2.1.map Sd) (e.2.2.2.1.map I) e.2.2.2.2 evs (cnt.map Zr) (QD cnt).tick (QD cnt).level (QD cnt).filled (QD cnt).tripped (QD cnt).light (QD cnt).heat (QD cnt).money ((QD cnt).sectors.map Sd) ((QD cnt).mirrors.map QY) ((QD cnt).offers.map Zj)=some (YM evs.length cnt e):=by
 obtain⟨k,b⟩:=qn f;unfold YM;rw[jTj f];by_cases c:isU e=true
 ·have a:k=.undo:=by rw[KY b] at c;exact of_decide_eq_true c
  subst a;rw[uc (QD cnt) d cnt (by omega) b,jTj c]
 ·have a:k≠.undo:=fun h=>c (by rw[KY b];exact jDj h);rw[Qa3 i (GG g hc) (by omega) d a b,jFj c,Gq b]
abbrev AddT:=jVj×jVj×Int×Int×Bool×Bool×Int×Int×Int×jVj×jVj×jVj
def outA (evs cnt:jVj)(r:Reg):AddT:=(evs,cnt,Vb r)
theorem unEs (e:Ev):(Option.map Zr (some e)).bind Ze=some (e.1,e.2.1,e.2.2.1.map Sd,e.2.2.2.1.map I,e.2.2.2.2):=rfl
theorem Qc5 {n:Nat}(G:1700<=n){a0:Int}{a1:jSj}{a2 a3:jVj}{a4:jSj}{a5:jVj}{cnt:List Ev}{a7 a8:Int}{A c:Bool}{d f g:Int}{h j o:jVj}(y:OkL cnt)(hc:cnt.length<=990)(z:cnt≠[]) :
  Q2 (Zm n a0 a1 a2 a3 a4 a5 (cnt.map Zr) a7 a8 A c d f g h j o) n (.inl ())=some (if cnt.dropLast=[] then .inl () else .inr (Vb (QD cnt.dropLast))):=by
 have a:((cnt.map Zr).take (Int.toNat (((cnt.map Zr).length:Int) - 1)))=cnt.dropLast.map Zr:=by
  rw[jlj,List.dropLast_eq_take,List.map_take];congr 1
  have:=List.length_pos_iff.2 z;omega
 have v:OkL cnt.dropLast:=by rw[List.dropLast_eq_take];exact uH y _
 have p:cnt.dropLast.length<=990:=by simp;omega
 generalize cnt.dropLast=l at a v p ⊢;have step:∀(i:Nat) (e:Ev),l[i]?=some e->Qz n e.1 e.2.1 (e.2.2.1.map Sd) (e.2.2.2.1.map I) e.2.2.2.2 (QD (l.take i)).tick (QD (l.take i)).level (QD (l.take i)).filled (QD (l.take i)).tripped (QD (l.take i)).light (QD (l.take i)).heat (QD (l.take i)).money ((QD (l.take i)).sectors.map Sd) ((QD (l.take i)).mirrors.map QY) ((QD (l.take i)).offers.map Zj)=some (Vb (QD (l.take (i+1)))):=by
  intro i e b;have hi:=(jGj b).1;obtain⟨k,E,C,F⟩:=v i e b;have q:=yw v p i (by omega);rw[QcN G q (by omega) E C F];have:l.take (i+1)=l.take i++[e]:=by rw[List.take_succ_eq_append_getElem hi];rw[jej hi] at b;rw[Option.some.inj b]
  rw[this,GA,XR C]
 have s:∀(m i k:Nat),0<i->i+m=l.length->m<k->Q2 (Zm n a0 a1 a2 a3 a4 a5 (cnt.map Zr) a7 a8 A c d f g h j o) k (.inr ((i:Int),Vb (QD (l.take i))))=some (.inr (Vb (QD l))):=by
  intro m;induction m with
  | zero =>
   intro i k t hi y;have:i=l.length:=by omega
   subst this;rw[List.take_length];rw[Zf (by omega)];unfold Zm;dsimp only;rw[a,jFj (by simp)]
  | succ m ih =>
   intro i k t hi y;have b:=jej (l:=l) (i:=i) (by omega);rw[Wy (s':=.inr (((i+1:Nat):Int),Vb (QD (l.take (i+1))))) (by omega) ?_]
   ·exact ih (i+1) (k - 1) (by omega) (by omega) (by omega)
   ·unfold Zm;dsimp only;rw[a,jTj (ZD b),jTj ⟨Int.natCast_nonneg i,ZD b⟩,jtj,Ub,List.getElem?_map,b,unEs,jBj];refine Eq.trans (congrArg (fun x=>Option.bind x _) (step i _ b)) ?_;rw[jBj,jTj (by unfold Qh;omega)];rfl
 by_cases u:l=[]
 ·rw[jTj u];refine Zf (by omega) ?_;unfold Zm;dsimp only;rw[a,u,jFj (by decide)]
 ·rw[jFj u];have r:=List.length_pos_iff.2 u;have b:=jej (l:=l) (i:=0) r;rw[Wy (s':=.inr (((1:Nat):Int),Vb (QD (l.take 1)))) (by omega) ?_]
  ·exact s (l.length - 1) 1 (n - 1) (by omega) (by omega) (by omega)
  ·unfold Zm;dsimp only;rw[a,jTj (by simp;omega),jTj (by simp;omega),Ub,List.getElem?_map,b,unEs,jBj];have t:=step 0 _ b;rw[List.take_zero] at t;refine Eq.trans (congrArg (fun x=>Option.bind x _) t) ?_;rfl
theorem addE {n:Nat}(l:1700<=n){cnt:List Ev}(j:OkL cnt)(hc:cnt.length<=990){evs:jVj}(q:evs.length<=4000){e:Ev}(p:Shw n e)(h:YM evs.length cnt e=0) :
  WO n e.1 e.2.1 (e.2.2.1.map Sd) (e.2.2.2.1.map I) e.2.2.2.2 evs (cnt.map Zr) (QD cnt).tick (QD cnt).level (QD cnt).filled (QD cnt).tripped (QD cnt).light (QD cnt).heat (QD cnt).money ((QD cnt).sectors.map Sd) ((QD cnt).mirrors.map QY) ((QD cnt).offers.map Zj)=some (outA (evs++[Zr e]) ((VO cnt e).map Zr) (QD (VO cnt e))):=by
 obtain⟨k,c,m,g⟩:=kJ h;obtain⟨r,s,t⟩:=p;unfold WO;rw[jTj (by rw[jlj];omega),jTj (by rw[jlj];omega),jTj (V7 (by decide) (by omega)),uF,uF];unfold VO;by_cases d:isU e=true
 ·have a:k=.undo:=by rw[KY c] at d;exact of_decide_eq_true d
  subst a;rw[jTj d] at g;have f:=Qan g;have o:=List.length_pos_iff.2 f;have b:((cnt.map Zr).take (Int.toNat (((cnt.map Zr).length:Int) - 1)))=cnt.dropLast.map Zr:=by
   rw[jlj,List.dropLast_eq_take,List.map_take];congr 1
   omega
  rw[jTj (keq c.kind rfl),jTj (by rw[jlj];unfold Qh;omega),jTj (by rw[jlj];omega),Qc5 l j hc f,jBj,jTj d];by_cases i:cnt.dropLast=[]
  ·rw[jTj i,b,i];rfl
  ·rw[jFj i,b];rfl
 ·have a:k≠.undo:=fun h=>d (by rw[KY c];exact jDj h);rw[jFj d,Gq c] at g;rw[jFj (by rw[kq,c.kind];intro h;exact a (by have:=E7 k;rw[h] at this;exact(Option.some.inj this).symm)),jTj (V7 (by decide) (by rw[jlj];omega)),Qb1 l (GG j hc) (by omega) a c g,jBj,jFj d,GA,XR c,List.map_append];rfl
abbrev StT:=Int×Int×Bool×Bool×Int×Int×Int×jVj×jVj×jVj×jVj×jVj
def stS (evs cnt:jVj)(r:Reg):StT:=(r.tick,r.level,r.filled,r.tripped,r.light,r.heat,r.money,evs,cnt,r.sectors.map Sd,r.mirrors.map QY,r.offers.map Zj)
theorem qf {l:List Ev}{i:Nat}{e:Ev}(h:l[i]?=some e):el Ze (l.map Zr) (i:Int)=some (e.1,e.2.1,e.2.2.1.map Sd,e.2.2.2.1.map I,e.2.2.2.2):=by unfold el;rw[jTj (Int.natCast_nonneg i),jtj,Ub,List.getElem?_map,h];rfl
theorem Gg {i:Nat}{cnt:List Ev}{e:Ev}(h:¬chk e=0):YM i cnt e=chk e:=by unfold YM;rw[jFj h]
theorem ux {n:Nat}(o:1700<=n)(l:List Ev)(v:l.length<=990)(t:∀e,e∈l->Shw n e):∀(m pre cnt:List Ev) (k:Nat),l=pre++m->pre≠[]->OkL cnt->cnt.length<=pre.length->m.length<k ->
  (match rep pre.length cnt m with
   | .inr c=>Q2 (QR n (l.map Zr)) k (.inr ((pre.length:Int),stS (pre.map Zr) (cnt.map Zr) (QD cnt)))=some (.inr (.inr (.inr (stS (l.map Zr) (c.map Zr) (QD c)))))/\OkL c/\c.length<=l.length
   | .inl (i,err)=>err≠0/\∃w,Q2 (QR n (l.map Zr)) k (.inr ((pre.length:Int),stS (pre.map Zr) (cnt.map Zr) (QD cnt)))=some (.inl (i,err,w)))
 | [],pre,cnt,k,hl0,hne,hok,hc,hk=>by rw[List.append_nil] at hl0;subst hl0;unfold rep;refine⟨?_,hok,hc⟩;refine Zf (by omega) ?_;unfold QR;dsimp only;rw[jFj (by rw[jlj];omega)]
 | e::m,pre,cnt,k,hl0,hne,hok,hc,hk=>by
  have s:l.length=pre.length+(m.length+1):=by rw[hl0];simp
  have j:l[pre.length]?=some e:=by rw[hl0,List.getElem?_append_right (jLj _),Nat.sub_self];rfl
  have f:=t e (jgj j);have a:(pre.map Zr).length=pre.length:=jlj _;unfold rep;by_cases g:chk e=0
  ·have b:=Qal o hok (by omega) (evs:=pre.map Zr) (by rw[a];omega) g;rw[a] at b;by_cases d:YM pre.length cnt e=0
   ·rw[jTj d];obtain⟨q,r⟩:=Xk hok hc d;have p:=addE o hok (by omega) (evs:=pre.map Zr) (by rw[a];omega) f (by rw[a];exact d);have h:QR n (l.map Zr) (.inr ((pre.length:Int),stS (pre.map Zr) (cnt.map Zr) (QD cnt)))=some (.inl (.inr (((pre++[e]).length:Int),stS ((pre++[e]).map Zr) ((VO cnt e).map Zr) (QD (VO cnt e))))):=by unfold QR;dsimp only;rw[jTj (ZD j),qf j,jBj,V3 o e f,jBj,jTj g];refine Eq.trans (congrArg (fun x=>Option.bind x _) b) ?_;rw[jBj,jTj d];refine Eq.trans (congrArg (fun x=>Option.bind x _) p) ?_;rw[jBj,jTj (by unfold Qh;omega),List.map_append,jaj];rfl
    rw[Wy (by omega) h];have:=ux o l v t m (pre++[e]) (VO cnt e) (k - 1) (by rw[hl0];simp) (by simp) q (by rw[jaj];exact r) (by simp at hk;omega);have u:(pre++[e]).length=pre.length+1:=by simp
    rw[u] at this ⊢;exact this
   ·rw[jFj d];refine⟨d,stS (pre.map Zr) (cnt.map Zr) (QD cnt),?_⟩;refine Zf (by omega) ?_;unfold QR;dsimp only;rw[jTj (ZD j),qf j,jBj,V3 o e f,jBj,jTj g];refine Eq.trans (congrArg (fun x=>Option.bind x _) b) ?_;rw[jBj,jFj d,jTj (by unfold Qh;omega)];try rfl
  ·have d:¬YM pre.length cnt e=0:=by rw[Gg g];exact g
   rw[jFj d,Gg g];refine⟨g,stS (pre.map Zr) (cnt.map Zr) (QD cnt),?_⟩;refine Zf (by omega) ?_;unfold QR;dsimp only;rw[jTj (ZD j),qf j,jBj,V3 o e f,jBj,jFj g,jTj (by unfold Qh;omega)];try rfl
theorem Xg {n:Nat}(s:1700<=n)(l:List Ev)(C:l.length<=990)(E:∀e,e∈l->Shw n e) :
  (match rep 0 [] l with
   | .inr c=>Q6 n (l.map Zr)=some (0,0,l.map Zr,c.map Zr,Vb (QD c))/\OkL c/\c.length<=l.length
   | .inl (i,err)=>err≠0/\∃w,Q6 n (l.map Zr)=some (i,err,w)):=by
 have g:¬(((l.map Zr).length:Int)>1000):=by rw[jlj];omega
 cases l with
 | nil =>
  unfold rep Q6;refine⟨?_,Jx,jLj _⟩;rw[jFj g];have:Q2 (QR n (([]:List Ev).map Zr)) n (.inl ())=some (.inr (.inr (.inl ()))):=by refine Zf (by omega) ?_;unfold QR;dsimp only;rw[jFj (by decide)]
  rw[this];rfl
 | cons e m =>
  have A:(e::m)[0]?=some e:=rfl;have h:=E e jMj;have d:(0:Int)<(((e::m).map Zr).length:Int):=by simp only[jCj,List.length_cons];omega
  unfold rep;by_cases o:chk e=0
  ·have j:=Qal s Jx (by simp) (evs:=[]) (by simp) o;by_cases f:YM 0 [] e=0
   ·rw[jTj f];obtain⟨y,z⟩:=Xk Jx (jLj _) f;have t:=addE s Jx (by simp) (evs:=[]) (by simp) h f;have r:QR n ((e::m).map Zr) (.inl ())=some (.inl (.inr ((([e]:List Ev).length:Int),stS ([e].map Zr) ((VO [] e).map Zr) (QD (VO [] e))))):=by unfold QR;dsimp only;rw[jTj d,show el Ze ((e::m).map Zr) 0=_ from qf A,jBj,V3 s e h,jBj,jTj o];refine Eq.trans (congrArg (fun x=>Option.bind x _) j) ?_;rw[jBj,jTj (show YM ([]:jVj).length [] e=0 from f)];refine Eq.trans (congrArg (fun x=>Option.bind x _) t) ?_;rfl
    have a:=ux s (e::m) C E m [e] (VO [] e) (n - 1) rfl (by simp) y (by simpa using z) (by simp at C;omega);have b:=Wy (k:=n) (by omega) r;have q:([e]:List Ev).length=0+1:=rfl;rw[q] at a b;unfold Q6;rw[jFj g,b];cases hr:rep (0+1) (VO [] e) m with
    | inr c =>
     rw[hr] at a;obtain⟨u,v,F⟩:=a;refine⟨?_,v,F⟩;rw[u];rfl
    | inl p =>
     obtain⟨i,err⟩:=p;rw[hr] at a;obtain⟨u,w,v⟩:=a;refine⟨u,?_⟩;rw[v];exact⟨_,rfl⟩
   ·rw[jFj f];refine⟨f,?_⟩;unfold Q6;have:Q2 (QR n ((e::m).map Zr)) n (.inl ())=some (.inl (1,YM 0 [] e,0,0,false,false,0,0,0,[],[],[],[],[])):=by refine Zf (by omega) ?_;unfold QR;dsimp only;rw[jTj d,show el Ze ((e::m).map Zr) 0=_ from qf A,jBj,V3 s e h,jBj,jTj o];refine Eq.trans (congrArg (fun x=>Option.bind x _) j) ?_;rw[jBj,jFj (show ¬YM ([]:jVj).length [] e=0 from f)];rfl
    rw[jFj g,this];exact⟨_,rfl⟩
  ·have f:¬YM 0 [] e=0:=by rw[Gg o];exact o
   rw[jFj f,Gg o];refine⟨o,?_⟩;unfold Q6;have:Q2 (QR n ((e::m).map Zr)) n (.inl ())=some (.inr (.inl (chk e))):=by refine Zf (by omega) ?_;unfold QR;dsimp only;rw[jTj d,show el Ze ((e::m).map Zr) 0=_ from qf A,jBj,V3 s e h,jBj,jFj o]
   rw[jFj g,this];exact⟨_,rfl⟩
def encR (r:Reg):D:=Vn (Vb r)
def z0:D:=jZj
def Ur (cnt:List Ev):jVj:=z0::(List.range cnt.length).map fun j=>encR (QD (cnt.take (j+1)))
theorem Yd (cnt:List Ev):(Ur cnt).length=cnt.length+1:=by unfold Ur;simp
theorem Qde (r:Reg):ZT (some (encR r))=false:=by
 unfold encR Vn ZT;split
 ·rename_i h;simp at h
 ·rfl
theorem wl {cnt:List Ev}{j:Nat}(h:j<cnt.length):(Ur cnt)[j+1]?=some (encR (QD (cnt.take (j+1)))):=by unfold Ur;rw[List.getElem?_cons_succ,List.getElem?_map,List.getElem?_range h];rfl
theorem kV {cnt:List Ev}(h:cnt≠[]):(Ur cnt)[cnt.length]?=some (encR (QD cnt)):=by have hp:=List.length_pos_iff.2 h;have:=wl (cnt:=cnt) (j:=cnt.length - 1) (by omega);rw[show cnt.length - 1+1=cnt.length by omega,List.take_length] at this;exact this
theorem XU (cnt:List Ev)(e:Ev):Ur cnt++[encR (QD (cnt++[e]))]=Ur (cnt++[e]):=by
 apply List.ext_getElem?;intro i;by_cases b:i=0
 ·subst b;rfl
 obtain⟨j,rfl⟩:∃j,i=j+1:=⟨i - 1,by omega⟩
 by_cases c:j<cnt.length
 ·rw[List.getElem?_append_left (by rw[Yd];omega),wl c,wl (by simp;omega),List.take_append_of_le_length (by omega)]
 ·by_cases a:j=cnt.length
  ·subst a;rw[List.getElem?_append_right (by rw[Yd];omega),Yd,Nat.sub_self,wl (by simp)];have e:(cnt++[e]).take (cnt.length+1)=cnt++[e]:=by rw[List.take_of_length_le];simp
   rw[e];rfl
  ·rw[List.getElem?_eq_none (by rw[jaj,Yd];simp;omega),List.getElem?_eq_none (by rw[Yd];simp;omega)]
theorem QcQ {cnt:List Ev}(h:cnt≠[]):(Ur cnt).take cnt.length=Ur cnt.dropLast:=by
 have hp:=List.length_pos_iff.2 h;have a:cnt=cnt.dropLast++[cnt.getLast h]:=(List.dropLast_concat_getLast h).symm;have b:cnt.length=(Ur cnt.dropLast).length:=by rw[Yd];simp;omega
 have e:Ur cnt=Ur cnt.dropLast++[encR (QD cnt)]:=by have:=XU cnt.dropLast (cnt.getLast h);rw[<-a] at this;exact this.symm
 conv=>lhs;rw[e,b]
 rw[List.take_left]
theorem wE {cnt:List Ev}:ZT (nth (Ur cnt) (Int.toNat (cnt.length:Int)))=decide (cnt=[]):=by
 rw[jtj,Ub];by_cases h:cnt=[]
 ·subst h;rfl
 ·rw[kV h,Qde];simp[h]
theorem elA {cnt:List Ev}(h:cnt≠[]):el Vy (Ur cnt) (cnt.length:Int)=some (Vb (QD cnt)):=by unfold el;rw[jTj (Int.natCast_nonneg _),jtj,Ub,kV h];rfl
theorem QcS {n:Nat}(i:1700<=n){cnt:List Ev}(g:OkL cnt)(hc:cnt.length<=990){e:Ev}(l:chk e=0)(j:¬isU e=true) :
  ∃b,QZ n (QD cnt).tick (QD cnt).level (QD cnt).filled (QD cnt).tripped (QD cnt).light (QD cnt).heat (QD cnt).money ((QD cnt).sectors.map Sd) ((QD cnt).mirrors.map QY) ((QD cnt).offers.map Zj) e.1 e.2.1 (e.2.2.1.map Sd) (e.2.2.2.1.map I) e.2.2.2.2=some (Vc b (X0 (QD cnt) e))/\(X0 (QD cnt) e=0->b=QD (cnt++[e])):=by
 obtain⟨k,a⟩:=qn l;have c:k≠.undo:=fun h=>j (by rw[KY a];exact jDj h);obtain⟨b,d,f⟩:=QcR i (GG g hc) hc c a;refine⟨b,by rw[Gq a];exact d,fun h=>?_⟩;rw[Gq a] at h;rw[GA,XR a];exact f h
theorem Qa7 {e:Ev}(c:chk e=0):isU e=true↔e.2.1.data.toList=kw .undo:=by
 obtain⟨k,b⟩:=qn c;rw[KY b,decide_eq_true_eq];have:=b.kind;constructor
 ·rintro rfl;exact this
 ·intro h;have a:=E7 k;rw[<-this,h,E7] at a;exact(Option.some.inj a).symm
theorem uV {i:Nat}{cnt:List Ev}{e:Ev}(b:chk e=0)(a:¬e.1=(i:Int)+1):YM i cnt e=11:=by unfold YM;rw[jTj b,jFj a]
theorem QcF {i:Nat}{cnt:List Ev}{e:Ev}(c:chk e=0)(a:e.1=(i:Int)+1)(b:isU e=true):YM i cnt e=X7 cnt:=by unfold YM;rw[jTj c,jTj a,jTj b]
theorem QcG {i:Nat}{cnt:List Ev}{e:Ev}(c:chk e=0)(a:e.1=(i:Int)+1)(b:¬isU e=true):YM i cnt e=X0 (QD cnt) e:=by unfold YM;rw[jTj c,jTj a,jFj b]
theorem QcL {n:Nat}(G:1700<=n)(l:List Ev)(L:l.length<=990){i:Nat}{e:Ev}(F:l[i]?=some e)(E:Shw n e){cnt:List Ev}(A:OkL cnt)(hc:cnt.length<=i) :
  Zh n (l.map Zr) (.inr (cnt.map Zr,Ur cnt,(i:Int)))=some (if YM i cnt e=0 then .inl (.inr ((VO cnt e).map Zr,Ur (VO cnt e),((i+1:Nat):Int))) else .inr (.inl (((i+1:Nat):Int),YM i cnt e))):=by
 have hi:=(jGj F).1;have b:(cnt.map Zr).length=cnt.length:=jlj _;have hin:Qh ((i:Int)+1):=by unfold Qh;omega
 unfold Zh;dsimp only;rw[jTj (ZD F),qf F,jBj,Ga G e E,jBj];by_cases m:chk e=0
 ·rw[jTj m,jTj hin];by_cases d:e.1=(i:Int)+1
  ·rw[jTj d];by_cases q:isU e=true
   ·rw[jTj (keq ((Qa7 m).1 q) rfl),QcF m d q];unfold VO;rw[jTj q];cases hgl:cnt.getLast? with
    | none =>
     have K:=List.getLast?_eq_none_iff.1 hgl;subst K;rw[jTj (by rfl),jFj (show ¬X7 []=0 by decide)];rfl
    | some x =>
     have f:X7 cnt=if x.2.1.data.toList=kw .deliver\/x.2.1.data.toList=kw .bill then 21 else 0:=by unfold X7;rw[hgl]
     have c:cnt≠[]:=fun h=>by rw[h] at hgl;cases hgl
     have hp:=List.length_pos_iff.2 c;have y:=QcQ c;rw[List.getLast?_eq_getElem?] at hgl;have z:(((cnt.map Zr).length:Int) - 1)=((cnt.length - 1:Nat):Int):=by rw[b];omega
     rw[jFj (by rw[b];omega),z,jTj (by unfold Qh;omega),qf hgl,jBj];dsimp only;by_cases t:x.2.1.data.toList=kw .deliver
     ·rw[jTj (Or.inl t)] at f;rw[jTj (keq t rfl),f,jFj (by decide)];rfl
     ·rw[jFj (fun h=>t (by rw[kq] at h;exact h))];by_cases u:x.2.1.data.toList=kw .bill
      ·rw[jTj (Or.inr u)] at f;rw[jTj (keq u rfl),f,jFj (by decide)];rfl
      ·have C:¬(x.2.1.data.toList=kw .deliver\/x.2.1.data.toList=kw .bill):=by
        rintro(h|h)
        ·exact t h
        ·exact u h
       rw[jFj C] at f;rw[jFj (fun h=>u (by rw[kq] at h;exact h)),f,jTj rfl,jTj (by rw[b];refine⟨by omega,by omega,by omega,.inr rfl⟩),jTj (by rw[b,Yd];refine⟨by omega,by omega,by omega,.inr rfl⟩)];have H:((cnt.map Zr).take (Int.toNat ((cnt.length - 1:Nat):Int))).drop (Int.toNat 0)=cnt.dropLast.map Zr:=by rw[jtj,Int.toNat_zero,List.drop_zero,List.dropLast_eq_take,List.map_take]
       have J:((Ur cnt).take (Int.toNat ((cnt.map Zr).length:Int))).drop (Int.toNat 0)=Ur cnt.dropLast:=by rw[jtj,Int.toNat_zero,List.drop_zero,b,y]
       rw[H,J];rfl
   ·rw[jFj (fun h=>q ((Qa7 m).2 (by rw[kq] at h;exact h))),QcG m d q];obtain⟨v,r,s⟩:=QcS G A (by omega) m q;unfold VO;rw[jFj q];have a:Wa 88 (0+(cnt.map Zr).length)/\Wa 88 ((cnt.map Zr).length+1)/\Wa 120 (0+(Ur cnt).length)/\Wa 120 ((Ur cnt).length+1) :=
     ⟨V7 (by decide) (by rw[b];omega),V7 (by decide) (by rw[b];omega),V7 (by decide) (by rw[Yd];omega),V7 (by decide) (by rw[Yd];omega)⟩
    by_cases c:cnt=[]
    ·have k:ZT (nth (Ur cnt) (Int.toNat ((cnt.map Zr).length:Int)))=true:=by rw[b,wE];exact jDj c
     rw[jTj k,jTj (Int.natCast_nonneg _)];have o:=r;rw[c] at o;refine Eq.trans (congrArg (fun x=>Option.bind x _) o) ?_;rw[jBj];by_cases g:X0 (QD cnt) e=0
     ·have p:=s g;have j:=g;rw[c] at j;rw[jTj (show(Vc v (X0 (QD []) e)).2.2.2.2.2.2.2.2.2.2=0 from j),jTj a.1,jTj a.2.1,jTj a.2.2.1,jTj a.2.2.2,jTj g,List.map_append,<-XU,p];rfl
     ·have j:=g;rw[c] at j;rw[jFj (show ¬(Vc v (X0 (QD []) e)).2.2.2.2.2.2.2.2.2.2=0 from j),jFj g,c];rfl
    ·have k:¬ZT (nth (Ur cnt) (Int.toNat ((cnt.map Zr).length:Int)))=true:=by rw[b,wE];simpa using c
     rw[jFj k,b,elA c,jBj];refine Eq.trans (congrArg (fun x=>Option.bind x _) r) ?_;rw[b] at a;rw[jBj];by_cases g:X0 (QD cnt) e=0
     ·have p:=s g;rw[jTj (show(Vc v (X0 (QD cnt) e)).2.2.2.2.2.2.2.2.2.2=0 from g),jTj a.1,jTj a.2.1,jTj a.2.2.1,jTj a.2.2.2,jTj g,List.map_append,<-XU,p];rfl
     ·rw[jFj (show ¬(Vc v (X0 (QD cnt) e)).2.2.2.2.2.2.2.2.2.2=0 from g),jFj g];rfl
  ·rw[jFj d,uV m d,jFj (by decide)];rfl
 ·rw[jFj m,Gg m,jFj m,jTj hin];rfl
theorem QbV {n:Nat}(l:1700<=n)(e:Ev)(m:List Ev)(k:Shw n e) :
  Zh n ((e::m).map Zr) (.inl ())=some (if YM 0 [] e=0 then .inl (.inr ((VO [] e).map Zr,Ur (VO [] e),1)) else .inr (.inl (1,YM 0 [] e))):=by
 have p:(e::m)[0]?=some e:=rfl;have f:(0:Int)<(((e::m).map Zr).length:Int):=by simp only[jCj,List.length_cons];omega
 unfold Zh;dsimp only;rw[jTj f,show el Ze ((e::m).map Zr) 0=_ from qf p,jBj,Ga l e k,jBj];by_cases b:chk e=0
 ·rw[jTj b];by_cases a:e.1=((0:Nat):Int)+1
  ·rw[jTj (show e.1=1 from a)];by_cases c:isU e=true
   ·rw[jTj (keq ((Qa7 b).1 c) rfl),QcF b a c,jFj (show ¬X7 []=0 by decide)];rfl
   ·rw[jFj (fun h=>c ((Qa7 b).2 (by rw[kq] at h;exact h))),QcG b a c];obtain⟨o,g,i⟩:=QcS l Jx (by simp) b c;unfold VO;rw[jFj c];refine Eq.trans (congrArg (fun x=>Option.bind x _) g) ?_;rw[jBj];by_cases d:X0 (QD []) e=0
    ·have j:=i d;rw[jTj (show(Vc o (X0 (QD []) e)).2.2.2.2.2.2.2.2.2.2=0 from d),jTj d,<-XU,j];rfl
    ·rw[jFj (show ¬(Vc o (X0 (QD []) e)).2.2.2.2.2.2.2.2.2.2=0 from d),jFj d];rfl
  ·rw[jFj (show ¬e.1=1 from a),uV b a,jFj (by decide)]
 ·rw[jFj b,Gg b,jFj b]
theorem Qad {n:Nat}(i:1700<=n)(l:List Ev)(g:l.length<=990)(j:∀e,e∈l->Shw n e):∀(m pre cnt:List Ev) (k:Nat),l=pre++m->OkL cnt->cnt.length<=pre.length->m.length<k ->
  Q2 (Zh n (l.map Zr)) k (.inr (cnt.map Zr,Ur cnt,(pre.length:Int)))=some (match rep pre.length cnt m with
   | .inr c=>.inr (.inr (c.map Zr,Ur c))
   | .inl p=>.inl p)
 | [],pre,cnt,k,hl0,hok,hc,hk=>by rw[List.append_nil] at hl0;subst hl0;unfold rep;refine Zf (by omega) ?_;unfold Zh;dsimp only;rw[jFj (by rw[jlj];omega)]
 | e::m,pre,cnt,k,hl0,hok,hc,hk=>by
  have h:l.length=pre.length+(m.length+1):=by rw[hl0];simp
  have o:l[pre.length]?=some e:=by rw[hl0,List.getElem?_append_right (jLj _),Nat.sub_self];rfl
  have a:=QcL i l g o (j e (jgj o)) hok hc;unfold rep;by_cases b:YM pre.length cnt e=0
  ·rw[jTj b] at a ⊢;obtain⟨d,f⟩:=Xk hok hc b;rw[Wy (by omega) a];have:=Qad i l g j m (pre++[e]) (VO cnt e) (k - 1) (by rw[hl0];simp) d (by rw[jaj];exact f) (by simp at hk;omega);have q:(pre++[e]).length=pre.length+1:=by simp
   rw[q] at this;exact this
  ·rw[jFj b] at a ⊢;exact Zf (by omega) a
def cntD:(Int×Int)⊕List Ev->jVj×jVj×Int×Int
 | .inr c=>(c.map Zr,Ur c,0,0)
 | .inl p=>([],[],p.1,p.2)
theorem QaS {n:Nat}(i:1700<=n)(l:List Ev)(h:l.length<=990)(j:∀e,e∈l->Shw n e):V1 n (l.map Zr)=some (cntD (rep 0 [] l)):=by
 have d:¬(((l.map Zr).length:Int)>1000):=by rw[jlj];omega
 unfold V1;rw[jFj d];cases l with
 | nil =>
  have:Q2 (Zh n (([]:List Ev).map Zr)) n (.inl ())=some (.inr (.inl ())):=by refine Zf (by omega) ?_;unfold Zh;dsimp only;rw[jFj (by decide)]
  rw[this];rfl
 | cons e m =>
  have a:=QbV i e m (j e jMj);unfold rep;by_cases b:YM 0 [] e=0
  ·rw[jTj b] at a ⊢;obtain⟨f,g⟩:=Xk Jx (jLj _) b;have:=Qad i (e::m) h j m [e] (VO [] e) (n - 1) rfl f (by simpa using g) (by simp at h;omega);have k:([e]:List Ev).length=0+1:=rfl;rw[k] at this;rw[Wy (by omega) a,show Q2 (Zh n ((e::m).map Zr)) (n - 1) (.inr ((VO [] e).map Zr,Ur (VO [] e),1))=_ from this];cases rep (0+1) (VO [] e) m with
   | inr c=>rfl
   | inl p=>rfl
  ·rw[jFj b] at a ⊢;rw[Zf (by omega) a];rfl
abbrev RepT:=Int×Int×Bool×Bool×Int×Int×Int×jVj×jVj×jVj×Int×Int
def outF (r:Reg)(a b:Int):RepT:=(r.tick,r.level,r.filled,r.tripped,r.light,r.heat,r.money,r.sectors.map Sd,r.mirrors.map QY,r.offers.map Zj,a,b)
def repD:(Int×Int)⊕List Ev->RepT
 | .inr c=>outF (QD c) 0 0
 | .inl p=>outF Reg.zero p.1 p.2
theorem yn:∀(l cnt:List Ev) (i:Nat) (p:Int×Int),rep i cnt l=.inl p->p.2≠0
 | [],cnt,i,p,h=>by cases h
 | e::l,cnt,i,p,h=>by
  unfold rep at h;by_cases a:YM i cnt e=0
  ·rw[jTj a] at h;exact yn l _ _ p h
  ·rw[jFj a] at h;cases h;exact a
theorem Qaq:∀(l cnt:List Ev) (i:Nat) (c:List Ev),OkL cnt->cnt.length<=i->rep i cnt l=.inr c->OkL c/\c.length<=i+l.length
 | [],cnt,i,c,h1,h2,h=>by cases h;exact⟨h1,by simpa using h2⟩
 | e::l,cnt,i,c,h1,h2,h=>by
  unfold rep at h;by_cases a:YM i cnt e=0
  ·rw[jTj a] at h;obtain⟨b,d⟩:=Xk h1 h2 a;obtain⟨f,g⟩:=Qaq l _ _ c b d h;exact⟨f,by simp;omega⟩
  ·rw[jFj a] at h;cases h
theorem yp {n:Nat}(f:1700<=n)(l:List Ev)(d:l.length<=990)(g:∀e,e∈l->Shw n e):Vo n (l.map Zr)=some (repD (rep 0 [] l)):=by
 unfold Vo;rw[QaS f l d g,jBj];cases hr:rep 0 [] l with
 | inl p =>
  have hp:=yn _ _ _ _ hr;unfold cntD;dsimp only;rw[jFj hp];rfl
 | inr c =>
  have hc:=(Qaq l [] 0 c Jx (jLj 0) hr).2;have b:=Yd c;have a:(((Ur c).length:Int) - 1)=(c.length:Int):=by rw[Yd];omega
  unfold cntD;dsimp only;rw[jTj rfl,a,jTj (by unfold Qh;omega),wE];by_cases h:c=[]
  ·rw[jTj (jDj h),jTj (Int.natCast_nonneg _),h];rfl
  ·rw[jFj (by simpa using h),elA h,jBj];rfl
instance (e:Ev):Decidable (Short e):=by unfold Short;infer_instance
theorem KL {n:Nat}(l:List jSj)(c:l.length<=5000)(b:l.length<n):Z5 n (l.map Sd) (l.map Sd)=some true:=by
 unfold Z5;rw[jTj rfl];have q:=ZK (step:=Wd n (l.map Sd) (l.map Sd)) (E:=Unit⊕Unit) (fun(_:Unit) (_:jSj)=>.inl ()) (fun _=>.inr ()) (fun i _=>(i:Int)) l (fun _ _=>True)
  (fun i _ s a _=>by have hi:=(jGj a).1;refine⟨?_,trivial⟩;unfold Wd;rw[jTj (ZD a),jH a,jBj,jBj,jFj (by rw[XZ];simp),jTj (by unfold Qh;omega)];rfl)
  (fun s _=>by unfold Wd;rw[jFj (by simp)]) (s:=()) (k:=n) trivial b
 have e:∀(l:List jSj),Y6 (E:=Unit⊕Unit) (fun(_:Unit) (_:jSj)=>.inl ()) (fun _=>.inr ()) l ()=.inr ():=by
  intro l;induction l with
  | nil=>rfl
  | cons x l ih=>exact ih
 rw[e] at q;rw[show Q2 (Wd n (l.map Sd) (l.map Sd)) n 0=_ from q];rfl
theorem Qeu {n:Nat}(l:List Int)(c:l.length<=5000)(b:l.length<n):Qd7 n (l.map I) (l.map I)=some true:=by
 unfold Qd7;rw[jTj rfl];have q:=ZK (step:=Qd2 n (l.map I) (l.map I)) (E:=Unit⊕Unit) (fun(_:Unit) (_:Int)=>.inl ()) (fun _=>.inr ()) (fun i _=>(i:Int)) l (fun _ _=>True)
  (fun i _ s a _=>by have hi:=(jGj a).1;refine⟨?_,trivial⟩;unfold Qd2;rw[jTj (ZD a),EM a,jBj,jBj,jTj rfl,jTj (by unfold Qh;omega)];rfl)
  (fun s _=>by unfold Qd2;rw[jFj (by simp)]) (s:=()) (k:=n) trivial b
 have e:∀(l:List Int),Y6 (E:=Unit⊕Unit) (fun(_:Unit) (_:Int)=>.inl ()) (fun _=>.inr ()) l ()=.inr ():=by
  intro l;induction l with
  | nil=>rfl
  | cons x l ih=>exact ih
 rw[e] at q;rw[show Q2 (Qd2 n (l.map I) (l.map I)) n 0=_ from q];rfl
theorem Qec {n:Nat}(l:List Ev)(d:∀e,e∈l->e.2.2.1.length<=60/\e.2.2.2.1.length<=60)(g:l.length<=5000)(b:l.length<n)(c:100<=n):Qd1 n (l.map Zr) (l.map Zr)=some true:=by
 unfold Qd1;rw[jTj rfl];have q:=ZK (step:=Qd0 n (l.map Zr) (l.map Zr)) (E:=Unit⊕Unit) (fun(_:Unit) (_:Ev)=>.inl ()) (fun _=>.inr ()) (fun i _=>(i:Int)) l (fun _ _=>True)
  (fun i _ e a _=>by have hi:=(jGj a).1;obtain⟨b1,f⟩:=d e (jgj a);refine⟨?_,trivial⟩;unfold Qd0;rw[jTj (ZD a),qf a,jBj,jBj];dsimp only;rw[jTj rfl,jFj (by rw[XZ];simp),KL _ (by omega) (by omega),jBj,jTj rfl,Qeu _ (by omega) (by omega),jBj,jTj rfl,jFj (by rw[XZ];simp),jTj (by unfold Qh;omega)];rfl)
  (fun s _=>by unfold Qd0;rw[jFj (by simp)]) (s:=()) (k:=n) trivial b
 have e:∀(l:List Ev),Y6 (E:=Unit⊕Unit) (fun(_:Unit) (_:Ev)=>.inl ()) (fun _=>.inr ()) l ()=.inr ():=by
  intro l;induction l with
  | nil=>rfl
  | cons x l ih=>exact ih
 rw[e] at q;rw[show Q2 (Qd0 n (l.map Zr) (l.map Zr)) n 0=_ from q];rfl
def cg (a:jSj)(s:Int×Int)(m:Mir):Int×Int:=if m.2.1=a then(s.1+1,if isA m=true then s.2+1 else s.2) else s
def cntM (a:jSj)(ms:List Mir):Int×Int:=Y6 (E:=Int×Int) (fun s m=>.inl (cg a s m)) (fun s=>s) ms (0,0)
theorem QeN {a:jSj}{s:Int×Int}{m:Mir}{i:Nat}(h:(0<=s.1/\s.1<=(i:Int))/\0<=s.2/\s.2<=(i:Int)):(0<=(cg a s m).1/\(cg a s m).1<=((i+1:Nat):Int))/\0<=(cg a s m).2/\(cg a s m).2<=((i+1:Nat):Int):=by
 unfold cg;split
 ·split
  ·simp only[Int.natCast_add,Int.natCast_one];omega
  ·simp only[Int.natCast_add,Int.natCast_one];omega
 ·simp only[Int.natCast_add,Int.natCast_one];omega
theorem QeM {n:Nat}(a:jSj){a1 a2:jVj}{a3 a4:Int}{a5 a6:Bool}{a7 a8 g:Int}{b c:jVj}(ms:List Mir)(t:ms.length<=4000)(l:ms.length<n):VV n a a1 a2 a3 a4 a5 a6 a7 a8 g b (ms.map QY) c=some (cntM a ms):=by
 unfold VV;have q:=ZK (step:=Vu n a a1 a2 a3 a4 a5 a6 a7 a8 g b (ms.map QY) c) (E:=Int×Int) (fun(s:Int×Int) (m:Mir)=>.inl (cg a s m)) (fun s=>s) (fun i s=>(((i:Int),s.1,s.2):Int×Int×Int)) ms (fun i s=>(0<=s.1/\s.1<=(i:Int))/\0<=s.2/\s.2<=(i:Int))
  (fun i s m f h=>by
   have hi:=(jGj f).1;refine⟨?_,QeN h⟩;obtain⟨⟨b1,o⟩,p,r⟩:=h;unfold Vu;dsimp only;rw[jTj (ZD f),jTj ⟨Int.natCast_nonneg i,ZD f⟩,Q4 unM f,jBj];by_cases d:m.2.1=a
   ·rw[jFj (by rw[XZ,jDj d];decide),jTj (by unfold Qh;omega)];by_cases e:m.2.2.2.2.2=true
    ·rw[jTj e,jTj (by unfold Qh;omega),jTj (by unfold Qh;omega),show cg a s m=(s.1+1,s.2+1) from by unfold cg isA;rw[jTj d,jTj e]];rfl
    ·rw[jFj e,jTj (by unfold Qh;omega),show cg a s m=(s.1+1,s.2) from by unfold cg isA;rw[jTj d,jFj e]];rfl
   ·rw[jTj (by rw[XZ,jEj d];rfl),jTj (by unfold Qh;omega),show cg a s m=s from by unfold cg;rw[jFj d]];rfl)
  (fun s _=>by unfold Vu;dsimp only;rw[jFj (by simp)]) (s:=(0,0)) (by simp) (k:=n) l
 exact(congrArg (fun x:Option (Int×Int)=>x.bind fun j=>some (j.1,j.2)) q)
theorem QeQ {l:List Ev}{i:Nat}{e:Ev}(h:l[i]?=some e):(nth (l.map Zr) (Int.toNat (i:Int))).bind Ze=some (e.1,e.2.1,e.2.2.1.map Sd,e.2.2.2.1.map I,e.2.2.2.2):=by rw[jtj,Ub,List.getElem?_map,h];rfl
theorem QeV (k:Ki):kn k<=60:=by cases k<;>decide
theorem QeU (k:Ki):kv k<=60:=by cases k<;>decide
def accD (i:Nat)(e:Ev):(Int×Int)⊕List Ev->Int
 | .inr c=>YM i c e
 | .inl p=>p.2
theorem Qgk (e:Ev):∀(l cnt:List Ev) (i:Nat),rep i cnt (l++[e])=(match rep i cnt l with
  | .inr c=>if YM (i+l.length) c e=0 then .inr (VO c e) else .inl (((i+l.length:Nat):Int)+1,YM (i+l.length) c e)
  | .inl p=>.inl p)
 | [],cnt,i=>by
  show rep i cnt [e]=_;show(if YM i cnt e=0 then rep (i+1) (VO cnt e) [] else .inl ((i:Int)+1,YM i cnt e))=(if YM i cnt e=0 then .inr (VO cnt e) else .inl (((i:Nat):Int)+1,YM i cnt e))
  by_cases h:YM i cnt e=0
  ·rw[jTj h,jTj h];rfl
  ·rw[jFj h,jFj h]
 | x::l,cnt,i=>by
  rw[List.cons_append];unfold rep;by_cases h:YM i cnt x=0
  ·rw[jTj h,jTj h,Qgk e l,show i+1+l.length=i+(x::l).length by rw[List.length_cons];omega]
  ·rw[jFj h,jFj h]
theorem QfF {n:Nat}(a:1700<=n)(l:List Ev)(k:l.length<=989)(i:∀e,e∈l->Shw n e)(e:Ev)(f:Shw n e):Qfd n (l.map Zr) e.1 e.2.1 (e.2.2.1.map Sd) (e.2.2.2.1.map I) e.2.2.2.2=some (accD l.length e (rep 0 [] l)):=by
 unfold Qfd;rw[yp a l (by omega) i,jBj];cases hr:rep 0 [] l with
 | inl p =>
  have b:¬p.2=0:=yn _ _ _ _ hr;exact jFj b
 | inr c =>
  refine Eq.trans (jTj rfl) ?_;show _=some (YM l.length c e);rw[Ga a e f,jBj];by_cases d:chk e=0
  ·have g:=yp a (l++[e]) (by rw[jaj,List.length_singleton];omega) (fun x j=>by
    obtain h|h:=List.mem_append.1 j
    ·exact i x h
    ·rw[List.mem_singleton.1 h];exact f)
   rw[jTj d,jFj (by rw[jlj];omega),jTj (V7 (by decide) (by rw[jlj];omega)),jTj (V7 (by decide) (by rw[jlj];omega))];rw[List.map_append] at g;refine Eq.trans (congrArg (fun x=>Option.bind x _) g) ?_;rw[jBj,Qgk,hr];dsimp only;rw[Nat.zero_add];by_cases h:YM l.length c e=0
   ·rw[jTj h,h];rfl
   ·rw[jFj h];rfl
  ·rw[jFj d];unfold YM;rw[jFj d]
end Go.Proofs.YtabbjgnpiijghaaGreatDoor
