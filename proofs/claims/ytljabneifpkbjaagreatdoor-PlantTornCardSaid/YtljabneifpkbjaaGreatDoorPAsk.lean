/- Own texts. -/
import Derived.Test.YtljabneifpkbjaaGreatDoorRec2
set_option linter.unusedSimpArgs false
set_option maxRecDepth 20000
namespace Go.Proofs.YtljabneifpkbjaaGreatDoor
open Go.SX
def iM (ms:List Mir)(a:jSj):Nat:=(pos (nmM ms) a).getD 0
def iO (b:List Off)(a:jSj):Nat:=(pos (nmO b) a).getD 0
def zM:Mir:=(⟨#[]⟩,⟨#[]⟩,0,0,false,false)
def zO:Off:=(⟨#[]⟩,0,0,0,0,0,false)
def mAt (ms:List Mir)(a:jSj):Mir:=ms.getD (iM ms a) zM
def oAt (b:List Off)(a:jSj):Off:=b.getD (iO b a) zO
theorem WP {ms:List Mir}{a:jSj}(h:Zu (nmM ms) a=true):YJ (nmM ms) a=(iM ms a:Int)/\iM ms a<ms.length/\ms[iM ms a]?=some (mAt ms a):=by
 obtain⟨i,hi⟩:=Option.isSome_iff_exists.1 h;obtain⟨b,d⟩:=wB hi;have e:iM ms a=i:=by unfold iM;rw[hi];rfl
 have c:i<ms.length:=by unfold nmM at b;simpa using b
 refine⟨by unfold YJ;rw[hi,e],by rw[e];exact c,?_⟩;unfold mAt;rw[e,List.getD_eq_getElem?_getD,jej c];rfl
theorem JV {b:List Off}{a:jSj}(h:Zu (nmO b) a=true):YJ (nmO b) a=(iO b a:Int)/\iO b a<b.length/\b[iO b a]?=some (oAt b a):=by
 obtain⟨i,hi⟩:=Option.isSome_iff_exists.1 h;obtain⟨c,f⟩:=wB hi;have e:iO b a=i:=by unfold iO;rw[hi];rfl
 have d:i<b.length:=by unfold nmO at c;simpa using c
 refine⟨by unfold YJ;rw[hi,e],by rw[e];exact d,?_⟩;unfold oAt;rw[e,List.getD_eq_getElem?_getD,jej d];rfl
def known (k:Ki)(r:Reg)(ns:List jSj):Int:=match k with
 | .sector=>QF (Zu r.sectors (ns.getD 0 ⟨#[]⟩)) 9
 | .mirror=>if Zu r.sectors (ns.getD 1 ⟨#[]⟩)=true then QF (Zu (nmM r.mirrors) (ns.getD 0 ⟨#[]⟩)) 9 else 10
 | .dim=>QF (!Zu r.sectors (ns.getD 0 ⟨#[]⟩)) 10
 | .offer=>QF (Zu (nmO r.offers) (ns.getD 0 ⟨#[]⟩)) 9
 | .deliver=>QF (!Zu (nmO r.offers) (ns.getD 0 ⟨#[]⟩)) 10
 | .bill=>QF (!Zu (nmO r.offers) (ns.getD 0 ⟨#[]⟩)) 10
 | .soil=>QF (!Zu (nmM r.mirrors) (ns.getD 0 ⟨#[]⟩)) 10
 | .clean=>QF (!Zu (nmM r.mirrors) (ns.getD 0 ⟨#[]⟩)) 10
 | .defect=>QF (!Zu (nmM r.mirrors) (ns.getD 0 ⟨#[]⟩)) 10
 | .repair=>QF (!Zu (nmM r.mirrors) (ns.getD 0 ⟨#[]⟩)) 10
 | .aim=>QF (!Zu (nmM r.mirrors) (ns.getD 0 ⟨#[]⟩)) 10
 | .park=>QF (!Zu (nmM r.mirrors) (ns.getD 0 ⟨#[]⟩)) 10
 | _=>0
def ws (vs:List Int):Int:=if vs.getD 1 0<vs.getD 0 0 then 14 else QF (decide (vs.getD 1 0>=vs.getD 2 0)) 14
def spec (k:Ki)(r:Reg)(ns:List jSj)(vs:List Int):Int:=match k with
 | .sector=>QF ((r.sectors.length:Int)==8) 5
 | .mirror=>Qt [inR (vs.getD 1 0) 1 100,QF ((r.mirrors.length:Int)==32) 5]
 | .soil=>inR (vs.getD 1 0) 0 1000
 | .defect=>Qt [QF (mAt r.mirrors (ns.getD 0 ⟨#[]⟩)).2.2.2.2.1 9,QF (mAt r.mirrors (ns.getD 0 ⟨#[]⟩)).2.2.2.2.2 31]
 | .repair=>QF (!(mAt r.mirrors (ns.getD 0 ⟨#[]⟩)).2.2.2.2.1) 22
 | .aim=>Qt [QF (!r.filled) 30,QF r.tripped 29,QF (mAt r.mirrors (ns.getD 0 ⟨#[]⟩)).2.2.2.2.1 21,QF (mAt r.mirrors (ns.getD 0 ⟨#[]⟩)).2.2.2.2.2 9]
 | .park=>QF (!(mAt r.mirrors (ns.getD 0 ⟨#[]⟩)).2.2.2.2.2) 22
 | .sun=>inR (vs.getD 1 0) 0 1000
 | .fill=>QF r.filled 9
 | .drain=>Qt [QF (!r.filled) 22,QF (r.mirrors.any isA) 31]
 | .trip=>QF r.tripped 9
 | .reset=>QF (!r.tripped) 22
 | .offer=>Qt [ws vs,inR (vs.getD 3 0) 1 1000,inR (vs.getD 4 0) 0 1000,QF ((r.offers.length:Int)==32) 5]
 | .deliver=>if Qt [QF (oAt r.offers (ns.getD 0 ⟨#[]⟩)).2.2.2.2.2.2 23,if vs.getD 0 0<(oAt r.offers (ns.getD 0 ⟨#[]⟩)).2.1 then 14 else QF (decide (vs.getD 0 0>=(oAt r.offers (ns.getD 0 ⟨#[]⟩)).2.2.1)) 14,QF (vs.getD 1 0==0) 3,QF (decide (vs.getD 1 0>Ws (oAt r.offers (ns.getD 0 ⟨#[]⟩)))) 20]=0
   then QF (decide (vs.getD 1 0*1000000>r.heat+ZL r (vs.getD 0 0))) 16
   else Qt [QF (oAt r.offers (ns.getD 0 ⟨#[]⟩)).2.2.2.2.2.2 23,if vs.getD 0 0<(oAt r.offers (ns.getD 0 ⟨#[]⟩)).2.1 then 14 else QF (decide (vs.getD 0 0>=(oAt r.offers (ns.getD 0 ⟨#[]⟩)).2.2.1)) 14,QF (vs.getD 1 0==0) 3,QF (decide (vs.getD 1 0>Ws (oAt r.offers (ns.getD 0 ⟨#[]⟩)))) 20]
 | .bill=>Qt [QF (oAt r.offers (ns.getD 0 ⟨#[]⟩)).2.2.2.2.2.2 23,QF (decide (vs.getD 0 0<(oAt r.offers (ns.getD 0 ⟨#[]⟩)).2.2.1)) 32]
 | _=>0
def acc (k:Ki)(r:Reg)(ns:List jSj)(vs:List Int):Int:=if vs.getD 0 0<r.tick then 22 else Qt [Zk r (vs.getD 0 0),known k r ns,spec k r ns vs]
theorem Wy {S E:Type}{step:S->Option (S⊕E)}{k:Nat}{s s' : S}(a:0<k)(h:step s=some (.inl s')):Q2 step k s=Q2 step (k - 1) s':=by
 obtain⟨j,rfl⟩:∃j,k=j+1:=⟨k - 1,by omega⟩
 exact E3 h
theorem Zf {S E:Type}{step:S->Option (S⊕E)}{k:Nat}{s:S}{e:E}(a:0<k)(h:step s=some (.inr e)):Q2 step k s=some e:=by
 obtain⟨j,rfl⟩:∃j,k=j+1:=⟨k - 1,by omega⟩
 exact JB h
theorem Gd {n:Nat}(w:100<=n){s:jVj}{l:Int}{m o:FnD}{p:Int}{r:jSj}{t:jVj}{u:jSj}{v a:jVj}{b c:Int}{d e:Bool}{f g h:Int}{i:jVj}{j:jVj}{k:jVj}:Qk n (⟨#[]⟩) l m o p r s t u v a b c d e f g h i j k=some (0):=by
 unfold Qk;have q:Qg n (⟨#[]⟩) l m o p r s t u v a b c d e f g h i j k (false,0)=some (.inr (.inr false)):=by unfold Qg;dsimp only;rw[jFj (by decide)]
 rw[Zf (by omega) q,jBj];dsimp only;rw[Zd,jBj];rfl
theorem Qc7 {n:Nat}(x:100<=n){m:Int}{o p:FnD}{r:Int}{s:jSj}{t:jVj}{u:jSj}{v c:jVj}{d e:Int}{f g:Bool}{h i j:Int}{k:jVj}{l:jVj}(b:List jSj)(y:b.length<=40)(a:jSj):Qk n (⟨#[83]⟩) m o p r s [Sd a] t u v c d e f g h i j (b.map Sd) k l=some (QF (Zu b a) 9):=by
 unfold Qk;have q:Qg n (⟨#[83]⟩) m o p r s [Sd a] t u v c d e f g h i j (b.map Sd) k l (false,0)=some (.inl (Zu b a,1)):=by unfold Qg;dsimp only;rw[jTj (by decide),show WQ ⟨#[83]⟩ 0=some 83 from rfl,jBj,jTj (by decide),jTj (by decide),gs0,W4 b a (by omega) (by omega),jBj,jFj (by decide),jTj (by decide)];rfl
 have w:Qg n (⟨#[83]⟩) m o p r s [Sd a] t u v c d e f g h i j (b.map Sd) k l (Zu b a,1)=some (.inr (.inr (Zu b a))):=by unfold Qg;dsimp only;rw[jFj (show ¬(1:Int)<((⟨#[83]⟩:jSj).size:Int) by decide)]
 rw[Wy (by omega) q,Zf (by omega) w,jBj];dsimp only;rw[Zd,jBj]
theorem Qc8 {n:Nat}(x:100<=n){m:Int}{o p:FnD}{r:Int}{s:jSj}{t:jVj}{u:jSj}{v c:jVj}{d e:Int}{f g:Bool}{h i j:Int}{k:jVj}{l:jVj}(b:List Off)(y:b.length<=40)(a:jSj):Qk n (⟨#[79]⟩) m o p r s [Sd a] t u v c d e f g h i j k l (b.map Zj)=some (QF (Zu (nmO b) a) 9):=by
 unfold Qk;have q:Qg n (⟨#[79]⟩) m o p r s [Sd a] t u v c d e f g h i j k l (b.map Zj) (false,0)=some (.inl (Zu (nmO b) a,1)):=by unfold Qg;dsimp only;rw[jTj (by decide),show WQ ⟨#[79]⟩ 0=some 79 from rfl,jBj,jTj (by decide),jFj (by decide),show IntKind.wrap .u8 (79+32)=111 from by decide,EC b (by omega) (by omega),jBj,gs0,W4 (nmO b) a (by rw[Vq];omega) (by rw[Vq];omega),jBj,jFj (by decide),jTj (by decide)];rfl
 have w:Qg n (⟨#[79]⟩) m o p r s [Sd a] t u v c d e f g h i j k l (b.map Zj) (Zu (nmO b) a,1)=some (.inr (.inr (Zu (nmO b) a))):=by unfold Qg;dsimp only;rw[jFj (show ¬(1:Int)<((⟨#[79]⟩:jSj).size:Int) by decide)]
 rw[Wy (by omega) q,Zf (by omega) w,jBj];dsimp only;rw[Zd,jBj]
theorem Qc6 {n:Nat}(y:100<=n){o:Int}{p r:FnD}{s:Int}{t:jSj}{u:jVj}{v:jSj}{w b:jVj}{c d:Int}{e f:Bool}{g i j:Int}{k:jVj}{l:jVj}(m:List jSj)(z:m.length<=40)(a:jSj):Qk n (⟨#[115]⟩) o p r s t [Sd a] u v w b c d e f g i j (m.map Sd) k l=some (QF (!Zu m a) 10):=by
 unfold Qk;by_cases h:Zu m a=true
 ·have q:Qg n (⟨#[115]⟩) o p r s t [Sd a] u v w b c d e f g i j (m.map Sd) k l (false,0)=some (.inl (false,1)):=by unfold Qg;dsimp only;rw[jTj (by decide),show WQ ⟨#[115]⟩ 0=some 115 from rfl,jBj,jFj (by decide),jTj (by decide),gs0,W4 m a (by omega) (by omega),jBj,jTj h,jFj (by decide),jTj (by decide)];rfl
  have x:Qg n (⟨#[115]⟩) o p r s t [Sd a] u v w b c d e f g i j (m.map Sd) k l (false,1)=some (.inr (.inr false)):=by unfold Qg;dsimp only;rw[jFj (show ¬(1:Int)<((⟨#[115]⟩:jSj).size:Int) by decide)]
  rw[Wy (by omega) q,Zf (by omega) x,jBj,h];dsimp only;rw[Zd,jBj];rfl
 ·have q:Qg n (⟨#[115]⟩) o p r s t [Sd a] u v w b c d e f g i j (m.map Sd) k l (false,0)=some (.inr (.inl ())):=by unfold Qg;dsimp only;rw[jTj (by decide),show WQ ⟨#[115]⟩ 0=some 115 from rfl,jBj,jFj (by decide),jTj (by decide),gs0,W4 m a (by omega) (by omega),jBj,jFj h]
  rw[Zf (by omega) q,jBj];simp only[Bool.not_eq_true] at h;rw[h];rfl
theorem XO {n:Nat}(y:100<=n){m:Int}{o p:FnD}{r:Int}{s:jSj}{t:jVj}{u:jSj}{v b:jVj}{c d:Int}{e f:Bool}{g i j:Int}{k:jVj}{l:jVj}(ms:List Mir)(x:ms.length<=40)(a:jSj):Qk n (⟨#[109]⟩) m o p r s [Sd a] t u v b c d e f g i j k (ms.map QY) l=some (QF (!Zu (nmM ms) a) 10):=by
 unfold Qk;by_cases h:Zu (nmM ms) a=true
 ·have q:Qg n (⟨#[109]⟩) m o p r s [Sd a] t u v b c d e f g i j k (ms.map QY) l (false,0)=some (.inl (false,1)):=by unfold Qg;dsimp only;rw[jTj (by decide),show WQ ⟨#[109]⟩ 0=some 109 from rfl,jBj,jFj (by decide),jFj (by decide),UC ms (by omega) (by omega),jBj,gs0,W4 (nmM ms) a (by rw[Zo];omega) (by rw[Zo];omega),jBj,jTj h,jFj (by decide),jTj (by decide)];rfl
  have w:Qg n (⟨#[109]⟩) m o p r s [Sd a] t u v b c d e f g i j k (ms.map QY) l (false,1)=some (.inr (.inr false)):=by unfold Qg;dsimp only;rw[jFj (show ¬(1:Int)<((⟨#[109]⟩:jSj).size:Int) by decide)]
  rw[Wy (by omega) q,Zf (by omega) w,jBj,h];dsimp only;rw[Zd,jBj];rfl
 ·have q:Qg n (⟨#[109]⟩) m o p r s [Sd a] t u v b c d e f g i j k (ms.map QY) l (false,0)=some (.inr (.inl ())):=by unfold Qg;dsimp only;rw[jTj (by decide),show WQ ⟨#[109]⟩ 0=some 109 from rfl,jBj,jFj (by decide),jFj (by decide),UC ms (by omega) (by omega),jBj,gs0,W4 (nmM ms) a (by rw[Zo];omega) (by rw[Zo];omega),jBj,jFj h]
  rw[Zf (by omega) q,jBj];simp only[Bool.not_eq_true] at h;rw[h];rfl
theorem Qbo {n:Nat}(y:100<=n){o:Int}{p r:FnD}{s:Int}{t:jSj}{u:jVj}{v:jSj}{w c:jVj}{d e:Int}{f g:Bool}{i j k:Int}{l:jVj}{m:jVj}(b:List Off)(z:b.length<=40)(a:jSj):Qk n (⟨#[111]⟩) o p r s t [Sd a] u v w c d e f g i j k l m (b.map Zj)=some (QF (!Zu (nmO b) a) 10):=by
 unfold Qk;by_cases h:Zu (nmO b) a=true
 ·have q:Qg n (⟨#[111]⟩) o p r s t [Sd a] u v w c d e f g i j k l m (b.map Zj) (false,0)=some (.inl (false,1)):=by unfold Qg;dsimp only;rw[jTj (by decide),show WQ ⟨#[111]⟩ 0=some 111 from rfl,jBj,jFj (by decide),jFj (by decide),EC b (by omega) (by omega),jBj,gs0,W4 (nmO b) a (by rw[Vq];omega) (by rw[Vq];omega),jBj,jTj h,jFj (by decide),jTj (by decide)];rfl
  have x:Qg n (⟨#[111]⟩) o p r s t [Sd a] u v w c d e f g i j k l m (b.map Zj) (false,1)=some (.inr (.inr false)):=by unfold Qg;dsimp only;rw[jFj (show ¬(1:Int)<((⟨#[111]⟩:jSj).size:Int) by decide)]
  rw[Wy (by omega) q,Zf (by omega) x,jBj,h];dsimp only;rw[Zd,jBj];rfl
 ·have q:Qg n (⟨#[111]⟩) o p r s t [Sd a] u v w c d e f g i j k l m (b.map Zj) (false,0)=some (.inr (.inl ())):=by unfold Qg;dsimp only;rw[jTj (by decide),show WQ ⟨#[111]⟩ 0=some 111 from rfl,jBj,jFj (by decide),jFj (by decide),EC b (by omega) (by omega),jBj,gs0,W4 (nmO b) a (by rw[Vq];omega) (by rw[Vq];omega),jBj,jFj h]
  rw[Zf (by omega) q,jBj];simp only[Bool.not_eq_true] at h;rw[h];rfl
theorem Qcx {n:Nat}(C:100<=n){p:Int}{r s:FnD}{t:Int}{u:jSj}{v:jVj}{w:jSj}{x c:jVj}{d e:Int}{f i:Bool}{j k l:Int}{m:jVj}(o:List jSj)(E:o.length<=40)(ms:List Mir)(A:ms.length<=40)(a b:jSj):Qk n (⟨#[77,115]⟩) p r s t u [Sd a,Sd b] v w x c d e f i j k l (o.map Sd) (ms.map QY) m=some (if Zu o b=true then QF (Zu (nmM ms) a) 9 else 10):=by
 unfold Qk;have q:Qg n (⟨#[77,115]⟩) p r s t u [Sd a,Sd b] v w x c d e f i j k l (o.map Sd) (ms.map QY) m (false,0)=some (.inl (Zu (nmM ms) a,1)):=by unfold Qg;dsimp only;rw[jTj (by decide),show WQ ⟨#[77,115]⟩ 0=some 77 from rfl,jBj,jTj (by decide),jFj (by decide),show IntKind.wrap .u8 (77+32)=109 from by decide,UC ms (by omega) (by omega),jBj,gs0,W4 (nmM ms) a (by rw[Zo];omega) (by rw[Zo];omega),jBj,jFj (by decide),jTj (by decide)];rfl
 rw[Wy (by omega) q];by_cases h:Zu o b=true
 ·have y:Qg n (⟨#[77,115]⟩) p r s t u [Sd a,Sd b] v w x c d e f i j k l (o.map Sd) (ms.map QY) m (Zu (nmM ms) a,1)=some (.inl (Zu (nmM ms) a,2)):=by
   unfold Qg;dsimp only;rw[jTj (show(1:Int)<((⟨#[77,115]⟩:jSj).size:Int) by decide),show WQ ⟨#[77,115]⟩ 1=some 115 from rfl,jBj,jFj (by decide),jTj rfl,gs1,W4 o b (by omega) (by omega),jBj,jTj h];by_cases g:Zu (nmM ms) a=true
   ·rw[jTj g,jTj (by decide),g];rfl
   ·rw[jFj g,jTj (by decide)];simp only[Bool.not_eq_true] at g;rw[g];rfl
  have z:Qg n (⟨#[77,115]⟩) p r s t u [Sd a,Sd b] v w x c d e f i j k l (o.map Sd) (ms.map QY) m (Zu (nmM ms) a,2)=some (.inr (.inr (Zu (nmM ms) a))):=by unfold Qg;dsimp only;rw[jFj (show ¬(2:Int)<((⟨#[77,115]⟩:jSj).size:Int) by decide)]
  rw[Wy (by omega) y,Zf (by omega) z,jBj,jTj h];dsimp only;rw[Zd,jBj]
 ·have y:Qg n (⟨#[77,115]⟩) p r s t u [Sd a,Sd b] v w x c d e f i j k l (o.map Sd) (ms.map QY) m (Zu (nmM ms) a,1)=some (.inr (.inl ())):=by unfold Qg;dsimp only;rw[jTj (show(1:Int)<((⟨#[77,115]⟩:jSj).size:Int) by decide),show WQ ⟨#[77,115]⟩ 1=some 115 from rfl,jBj,jFj (by decide),jTj rfl,gs1,W4 o b (by omega) (by omega),jBj,jFj h]
  rw[Zf (by omega) y,jBj,jFj h]
theorem Xq {a b c:Int}{x:Option Int}(h:Qt [a,b]=0->x=some c):(if Qt [a,b]=0 then x else some (Qt [a,b]))=some (Qt [a,b,c]):=by
 by_cases d:Qt [a,b]=0
 ·rw[jTj d,h d];have g:=Zv d a (by simp);have i:=Zv d b (by simp);subst g i;simp only[Qt,if_true];by_cases hc:c=0
  ·rw[jTj hc,hc]
  ·rw[jFj hc]
 ·rw[jFj d];simp only[Qt] at d ⊢;by_cases e:a=0
  ·subst e;simp only[if_true] at d ⊢;by_cases f:b=0
   ·subst f;exact absurd rfl d
   ·rw[jFj f,jFj f]
  ·rw[jFj e,jFj e]
theorem qK {a b:Int}(h:Qt [a,b]=0):b=0:=Zv h b (by simp)
theorem YT {b:Bool}{e:Int}(a:e≠0)(h:QF b e=0):b=false:=by
 unfold QF at h;cases b
 ·rfl
 ·exact absurd h a
theorem ZW {b:Bool}(h:QF (!b) 10=0):b=true:=by have:=YT (by decide) h;simpa using this
theorem QaE {a b:Type}(f:a->b)(l:List a)(n:Int):(((l.map f).length:Int)==n)=((l.length:Int)==n):=by rw[jlj]
theorem Qa3 {n c:Nat}(j:100<=n){r:Reg}(i:Inv c r)(hc:c<=40){num:Int}{kind x:jSj}{names:List jSj}{y:List Int}{evs cnt:jVj}(Q:evs.length<=5000) :
  ∀{k:Ki},k≠.undo->Good (num,kind,names,y,x) k->Qs n num kind (names.map Sd) (y.map I) x evs cnt r.tick r.level r.filled r.tripped r.light r.heat r.money (r.sectors.map Sd) (r.mirrors.map QY) (r.offers.map Zj)=some (if num=(evs.length:Int)+1 then acc k r names y else 11)
 | .sector,_,hg=>by
  have f:=hg.kind;dsimp only[kw] at f;obtain⟨a,t,rfl,rfl,g⟩:=hg.d11 rfl rfl;simp only[jCj,jnj];unfold Qs;rw[jTj (by unfold Qh;omega)];by_cases d:num=(evs.length:Int)+1
  ·rw[jTj d,jTj d,jFj (kne f (by decide))];unfold acc;rw[gi0];by_cases e:t<r.tick
   ·rw[jTj e,jTj (g0 e)]
   rw[jFj e,jFj (g0n e)];have l:okT r t:=okt e g;rw[jTj f,Za i hc j l,jBj];rw[Qc7 j r.sectors (by have:=i.secs;omega) a,jBj,VE (by omega),jBj];refine Xq fun p=>?_;rw[Zd,QaE];rfl
  ·rw[jFj d,jFj d]
 | .mirror,_,hg=>by
  have f:=hg.kind;dsimp only[kw] at f;obtain⟨a,b,t,m,rfl,rfl,g⟩:=hg.d22 rfl rfl;simp only[jCj,jnj];unfold Qs;rw[jTj (by unfold Qh;omega)];by_cases d:num=(evs.length:Int)+1
  ·rw[jTj d,jTj d,jFj (kne f (by decide))];unfold acc;rw[gi0];by_cases e:t<r.tick
   ·rw[jTj e,jTj (g0 e)]
   rw[jFj e,jFj (g0n e)];have l:okT r t:=okt e g;(iterate 1 rw[jFj (dne f (by decide))])
   rw[jTj f,Za i hc j l,jBj];rw[Qcx j r.sectors (by have:=i.secs;omega) r.mirrors (by have:=i.lenM;omega) a b,jBj,VE (by omega),jBj];refine Xq fun p=>?_;rw[gi1,V2,jBj,Zd,jBj,VE (by omega),QaE];rfl
  ·rw[jFj d,jFj d]
 | .soil,_,hg=>by
  have f:=hg.kind;dsimp only[kw] at f;obtain⟨a,t,m,rfl,rfl,g⟩:=hg.d12 rfl rfl;simp only[jCj,jnj];unfold Qs;rw[jTj (by unfold Qh;omega)];by_cases d:num=(evs.length:Int)+1
  ·rw[jTj d,jTj d,jFj (kne f (by decide))];unfold acc;rw[gi0];by_cases e:t<r.tick
   ·rw[jTj e,jTj (g0 e)]
   rw[jFj e,jFj (g0n e)];have l:okT r t:=okt e g;(iterate 2 rw[jFj (dne f (by decide))])
   rw[jTj f,Za i hc j l,jBj];rw[XO j r.mirrors (by have:=i.lenM;omega) a,jBj,VE (by omega),jBj];refine Xq fun p=>?_;rw[gi1,V2];rfl
  ·rw[jFj d,jFj d]
 | .clean,_,hg=>by
  have f:=hg.kind;dsimp only[kw] at f;obtain⟨a,t,rfl,rfl,g⟩:=hg.d11 rfl rfl;simp only[jCj,jnj];unfold Qs;rw[jTj (by unfold Qh;omega)];by_cases d:num=(evs.length:Int)+1
  ·rw[jTj d,jTj d,jFj (kne f (by decide))];unfold acc;rw[gi0];by_cases e:t<r.tick
   ·rw[jTj e,jTj (g0 e)]
   rw[jFj e,jFj (g0n e)];have l:okT r t:=okt e g;(iterate 3 rw[jFj (dne f (by decide))])
   rw[jTj f,Za i hc j l,jBj];rw[XO j r.mirrors (by have:=i.lenM;omega) a,jBj,VE (by omega),jBj];refine Xq fun p=>?_;rfl
  ·rw[jFj d,jFj d]
 | .defect,_,hg=>by
  have f:=hg.kind;dsimp only[kw] at f;obtain⟨a,t,rfl,rfl,g⟩:=hg.d11 rfl rfl;simp only[jCj,jnj];unfold Qs;rw[jTj (by unfold Qh;omega)];by_cases d:num=(evs.length:Int)+1
  ·rw[jTj d,jTj d,jFj (kne f (by decide))];unfold acc;rw[gi0];by_cases e:t<r.tick
   ·rw[jTj e,jTj (g0 e)]
   rw[jFj e,jFj (g0n e)];have l:okT r t:=okt e g;(iterate 4 rw[jFj (dne f (by decide))])
   rw[jTj f,Za i hc j l,jBj];rw[XO j r.mirrors (by have:=i.lenM;omega) a,jBj,VE (by omega),jBj];refine Xq fun p=>?_;have u:=ZW (qK p);obtain⟨q,v,s⟩:=WP u;have o:=Jl q v;rw[gs0,UC _ (by have:=i.lenM;omega) (by have:=i.lenM;omega),jBj,Wb _ _ (by rw[Zo];have:=i.lenM;omega) (by rw[Zo];have:=i.lenM;omega),jBj,jTj o,q,Q4 unM s,jBj];rw[Zd,jBj,Zd,jBj,VE (by omega)];rfl
  ·rw[jFj d,jFj d]
 | .repair,_,hg=>by
  have f:=hg.kind;dsimp only[kw] at f;obtain⟨a,t,rfl,rfl,g⟩:=hg.d11 rfl rfl;simp only[jCj,jnj];unfold Qs;rw[jTj (by unfold Qh;omega)];by_cases d:num=(evs.length:Int)+1
  ·rw[jTj d,jTj d,jFj (kne f (by decide))];unfold acc;rw[gi0];by_cases e:t<r.tick
   ·rw[jTj e,jTj (g0 e)]
   rw[jFj e,jFj (g0n e)];have l:okT r t:=okt e g;(iterate 5 rw[jFj (dne f (by decide))])
   rw[jTj f,Za i hc j l,jBj];rw[XO j r.mirrors (by have:=i.lenM;omega) a,jBj,VE (by omega),jBj];refine Xq fun p=>?_;have u:=ZW (qK p);obtain⟨q,v,s⟩:=WP u;have o:=Jl q v;rw[gs0,UC _ (by have:=i.lenM;omega) (by have:=i.lenM;omega),jBj,Wb _ _ (by rw[Zo];have:=i.lenM;omega) (by rw[Zo];have:=i.lenM;omega),jBj,jTj o,q,Q4 unM s,jBj];rw[Zd];rfl
  ·rw[jFj d,jFj d]
 | .aim,_,hg=>by
  have f:=hg.kind;dsimp only[kw] at f;obtain⟨a,t,rfl,rfl,g⟩:=hg.d11 rfl rfl;simp only[jCj,jnj];unfold Qs;rw[jTj (by unfold Qh;omega)];by_cases d:num=(evs.length:Int)+1
  ·rw[jTj d,jTj d,jFj (kne f (by decide))];unfold acc;rw[gi0];by_cases e:t<r.tick
   ·rw[jTj e,jTj (g0 e)]
   rw[jFj e,jFj (g0n e)];have l:okT r t:=okt e g;(iterate 6 rw[jFj (dne f (by decide))])
   rw[jTj f,Za i hc j l,jBj];rw[XO j r.mirrors (by have:=i.lenM;omega) a,jBj,VE (by omega),jBj];refine Xq fun p=>?_;have u:=ZW (qK p);obtain⟨q,v,s⟩:=WP u;have o:=Jl q v;rw[gs0,UC _ (by have:=i.lenM;omega) (by have:=i.lenM;omega),jBj,Wb _ _ (by rw[Zo];have:=i.lenM;omega) (by rw[Zo];have:=i.lenM;omega),jBj,jTj o,q];rw[Zd,jBj,Zd,jBj,Q4 unM s,jBj,Zd,jBj,Zd,jBj,QaK (by omega)];rfl
  ·rw[jFj d,jFj d]
 | .park,_,hg=>by
  have f:=hg.kind;dsimp only[kw] at f;obtain⟨a,t,rfl,rfl,g⟩:=hg.d11 rfl rfl;simp only[jCj,jnj];unfold Qs;rw[jTj (by unfold Qh;omega)];by_cases d:num=(evs.length:Int)+1
  ·rw[jTj d,jTj d,jFj (kne f (by decide))];unfold acc;rw[gi0];by_cases e:t<r.tick
   ·rw[jTj e,jTj (g0 e)]
   rw[jFj e,jFj (g0n e)];have l:okT r t:=okt e g;(iterate 7 rw[jFj (dne f (by decide))])
   rw[jTj f,Za i hc j l,jBj];rw[XO j r.mirrors (by have:=i.lenM;omega) a,jBj,VE (by omega),jBj];refine Xq fun p=>?_;have u:=ZW (qK p);obtain⟨q,v,s⟩:=WP u;have o:=Jl q v;rw[gs0,UC _ (by have:=i.lenM;omega) (by have:=i.lenM;omega),jBj,Wb _ _ (by rw[Zo];have:=i.lenM;omega) (by rw[Zo];have:=i.lenM;omega),jBj,jTj o,q,Q4 unM s,jBj];rw[Zd];rfl
  ·rw[jFj d,jFj d]
 | .dim,_,hg=>by
  have f:=hg.kind;dsimp only[kw] at f;obtain⟨a,t,rfl,rfl,g⟩:=hg.d11 rfl rfl;simp only[jCj,jnj];unfold Qs;rw[jTj (by unfold Qh;omega)];by_cases d:num=(evs.length:Int)+1
  ·rw[jTj d,jTj d,jFj (kne f (by decide))];unfold acc;rw[gi0];by_cases e:t<r.tick
   ·rw[jTj e,jTj (g0 e)]
   rw[jFj e,jFj (g0n e)];have l:okT r t:=okt e g;(iterate 8 rw[jFj (dne f (by decide))])
   rw[jTj f,Za i hc j l,jBj];rw[Qc6 j r.sectors (by have:=i.secs;omega) a,jBj,VE (by omega),jBj];refine Xq fun p=>?_;rfl
  ·rw[jFj d,jFj d]
 | .sun,_,hg=>by
  have f:=hg.kind;dsimp only[kw] at f;obtain⟨t,m,rfl,rfl,g⟩:=hg.d02 rfl rfl;simp only[jCj,jnj];unfold Qs;rw[jTj (by unfold Qh;omega)];by_cases d:num=(evs.length:Int)+1
  ·rw[jTj d,jTj d,jFj (kne f (by decide))];unfold acc;rw[gi0];by_cases e:t<r.tick
   ·rw[jTj e,jTj (g0 e)]
   rw[jFj e,jFj (g0n e)];have l:okT r t:=okt e g;(iterate 9 rw[jFj (dne f (by decide))])
   rw[jTj f,Za i hc j l,jBj];rw[Gd j,jBj,VE (by omega),jBj];refine Xq fun p=>?_;rw[gi1,V2];rfl
  ·rw[jFj d,jFj d]
 | .fill,_,hg=>by
  have f:=hg.kind;dsimp only[kw] at f;obtain⟨t,rfl,rfl,g⟩:=hg.d01 rfl rfl;simp only[jCj,jnj];unfold Qs;rw[jTj (by unfold Qh;omega)];by_cases d:num=(evs.length:Int)+1
  ·rw[jTj d,jTj d,jFj (kne f (by decide))];unfold acc;rw[gi0];by_cases e:t<r.tick
   ·rw[jTj e,jTj (g0 e)]
   rw[jFj e,jFj (g0n e)];have l:okT r t:=okt e g;(iterate 10 rw[jFj (dne f (by decide))])
   rw[jTj f,Za i hc j l,jBj];rw[Gd j,jBj,VE (by omega),jBj];refine Xq fun p=>?_;rw[Zd];rfl
  ·rw[jFj d,jFj d]
 | .drain,_,hg=>by
  have f:=hg.kind;dsimp only[kw] at f;obtain⟨t,rfl,rfl,g⟩:=hg.d01 rfl rfl;simp only[jCj,jnj];unfold Qs;rw[jTj (by unfold Qh;omega)];by_cases d:num=(evs.length:Int)+1
  ·rw[jTj d,jTj d,jFj (kne f (by decide))];unfold acc;rw[gi0];by_cases e:t<r.tick
   ·rw[jTj e,jTj (g0 e)]
   rw[jFj e,jFj (g0n e)];have l:okT r t:=okt e g;(iterate 11 rw[jFj (dne f (by decide))])
   rw[jTj f,Za i hc j l,jBj];rw[Gd j,jBj,VE (by omega),jBj];refine Xq fun p=>?_;rw[Zd,jBj,QdF _ (by have:=i.lenM;omega) (by have:=i.lenM;omega),jBj,Zd,jBj,VE (by omega)];rfl
  ·rw[jFj d,jFj d]
 | .trip,_,hg=>by
  have f:=hg.kind;dsimp only[kw] at f;obtain⟨t,rfl,rfl,g⟩:=hg.d01 rfl rfl;simp only[jCj,jnj];unfold Qs;rw[jTj (by unfold Qh;omega)];by_cases d:num=(evs.length:Int)+1
  ·rw[jTj d,jTj d,jFj (kne f (by decide))];unfold acc;rw[gi0];by_cases e:t<r.tick
   ·rw[jTj e,jTj (g0 e)]
   rw[jFj e,jFj (g0n e)];have l:okT r t:=okt e g;(iterate 12 rw[jFj (dne f (by decide))])
   rw[jTj f,Za i hc j l,jBj];rw[Gd j,jBj,VE (by omega),jBj];refine Xq fun p=>?_;rw[Zd];rfl
  ·rw[jFj d,jFj d]
 | .reset,_,hg=>by
  have f:=hg.kind;dsimp only[kw] at f;obtain⟨t,rfl,rfl,g⟩:=hg.d01 rfl rfl;simp only[jCj,jnj];unfold Qs;rw[jTj (by unfold Qh;omega)];by_cases d:num=(evs.length:Int)+1
  ·rw[jTj d,jTj d,jFj (kne f (by decide))];unfold acc;rw[gi0];by_cases e:t<r.tick
   ·rw[jTj e,jTj (g0 e)]
   rw[jFj e,jFj (g0n e)];have l:okT r t:=okt e g;(iterate 13 rw[jFj (dne f (by decide))])
   rw[jTj f,Za i hc j l,jBj];rw[Gd j,jBj,VE (by omega),jBj];refine Xq fun p=>?_;rw[Zd];rfl
  ·rw[jFj d,jFj d]
 | .offer,_,hg=>by
  have f:=hg.kind;dsimp only[kw] at f;obtain⟨a,t,m,z,A,C,rfl,rfl,g⟩:=hg.d15 rfl rfl;simp only[jCj,jnj];unfold Qs;rw[jTj (by unfold Qh;omega)];by_cases d:num=(evs.length:Int)+1
  ·rw[jTj d,jTj d,jFj (kne f (by decide))];unfold acc;rw[gi0];by_cases e:t<r.tick
   ·rw[jTj e,jTj (g0 e)]
   rw[jFj e,jFj (g0n e)];have l:okT r t:=okt e g;(iterate 14 rw[jFj (dne f (by decide))])
   rw[jTj f,Za i hc j l,jBj];rw[Qc8 j r.offers (by have:=i.lenO;omega) a,jBj,VE (by omega),jBj];refine Xq fun p=>?_;have P:WL n num kind [Sd a] [I t,I m,I z,I A,I C] x=some (m,z,ws [t,m,z,A,C]):=by
    unfold WL;rw[gi1,gi2,gi0];unfold ws;by_cases h:m<t
    ·rw[jTj h,jTj (show[t,m,z,A,C].getD 1 0<[t,m,z,A,C].getD 0 0 from h)];rfl
    ·rw[jFj h,jFj (show ¬[t,m,z,A,C].getD 1 0<[t,m,z,A,C].getD 0 0 from h),Zd];rfl
   rw[P,jBj,gi3,V2,jBj,gi4,V2,jBj,Zd,jBj,QaK (by omega),QaE];rfl
  ·rw[jFj d,jFj d]
 | .deliver,_,hg=>by
  have f:=hg.kind;dsimp only[kw] at f;obtain⟨a,t,m,rfl,rfl,g⟩:=hg.d12 rfl rfl;simp only[jCj,jnj];unfold Qs;rw[jTj (by unfold Qh;omega)];by_cases d:num=(evs.length:Int)+1
  ·rw[jTj d,jTj d,jFj (kne f (by decide))];unfold acc;rw[gi0];by_cases e:t<r.tick
   ·rw[jTj e,jTj (g0 e)]
   rw[jFj e,jFj (g0n e)];have l:okT r t:=okt e g;(iterate 15 rw[jFj (dne f (by decide))])
   rw[jTj f,Za i hc j l,jBj];rw[Qbo j r.offers (by have:=i.lenO;omega) a,jBj,VE (by omega),jBj];refine Xq fun p=>?_;have u:=ZW (qK p);obtain⟨q,v,s⟩:=JV u;have E:=i.offs _ (jgj s);have o:=uS q v;rw[gs0,EC _ (by have:=i.lenO;omega) (by have:=i.lenO;omega),jBj,Wb _ _ (by rw[Vq];have:=i.lenO;omega) (by rw[Vq];have:=i.lenO;omega),jBj,jTj o,q];rw[gi1,Q4 unO s,jBj,Zd,jBj];have O:∀w:Int,((Qm n (m==0) 3).bind fun J=>(Zg n (oAt r.offers a).1 (oAt r.offers a).2.1 (oAt r.offers a).2.2.1 (oAt r.offers a).2.2.2.1 (oAt r.offers a).2.2.2.2.1 (oAt r.offers a).2.2.2.2.2.1 (oAt r.offers a).2.2.2.2.2.2).bind fun K =>
     (Qm n (decide (m>K)) 20).bind fun L=>(Qo n ([I (QF (oAt r.offers a).2.2.2.2.2.2 23),I w,I J,I L])).bind fun F =>
     if F=0 then(if Qh (m*1000000) then(Q8 n t evs cnt r.tick r.level r.filled r.tripped r.light r.heat r.money (r.sectors.map Sd) (r.mirrors.map QY) (r.offers.map Zj)).bind fun M=>(Qm n (decide ((m*1000000)>M.2)) 16).bind fun N=>some N else none) else some F) =
     some (if Qt [QF (oAt r.offers a).2.2.2.2.2.2 23,w,QF (m==0) 3,QF (decide (m>Ws (oAt r.offers a))) 20]=0 then QF (decide (m*1000000>r.heat+ZL r t)) 16 else Qt [QF (oAt r.offers a).2.2.2.2.2.2 23,w,QF (m==0) 3,QF (decide (m>Ws (oAt r.offers a))) 20]):=by
    intro w;rw[Zd,jBj,Qag n E,jBj,Zd,jBj,QaK (by omega),jBj];by_cases H:Qt [QF (oAt r.offers a).2.2.2.2.2.2 23,w,QF (m==0) 3,QF (decide (m>Ws (oAt r.offers a))) 20]=0
    ·have S:=hg.val m (by simp);rw[jTj H,jTj H,jTj (by unfold Qh;omega),Z7 i hc j l,jBj,Zd,jBj]
    ·rw[jFj H,jFj H]
   unfold spec;simp only[List.getD_cons_zero,List.getD_cons_succ];by_cases G:t<(oAt r.offers a).2.1
   ·rw[jTj G];simp only[jTj G];exact O 14
   ·rw[jFj G,Zd,jBj];simp only[jFj G];exact O _
  ·rw[jFj d,jFj d]
 | .bill,_,hg=>by
  have f:=hg.kind;dsimp only[kw] at f;obtain⟨a,t,rfl,rfl,g⟩:=hg.d11 rfl rfl;simp only[jCj,jnj];unfold Qs;rw[jTj (by unfold Qh;omega)];by_cases d:num=(evs.length:Int)+1
  ·rw[jTj d,jTj d,jFj (kne f (by decide))];unfold acc;rw[gi0];by_cases e:t<r.tick
   ·rw[jTj e,jTj (g0 e)]
   rw[jFj e,jFj (g0n e)];have l:okT r t:=okt e g;(iterate 16 rw[jFj (dne f (by decide))])
   rw[jTj f,Za i hc j l,jBj];rw[Qbo j r.offers (by have:=i.lenO;omega) a,jBj,VE (by omega),jBj];refine Xq fun p=>?_;have u:=ZW (qK p);obtain⟨q,v,s⟩:=JV u;have E:=i.offs _ (jgj s);have o:=uS q v;rw[gs0,EC _ (by have:=i.lenO;omega) (by have:=i.lenO;omega),jBj,Wb _ _ (by rw[Vq];have:=i.lenO;omega) (by rw[Vq];have:=i.lenO;omega),jBj,jTj o,q,Q4 unO s,jBj];rw[Zd,jBj,Zd,jBj,VE (by omega)];rfl
  ·rw[jFj d,jFj d]
 | .undo,h,_=>absurd rfl h
def X7 (cnt:List Ev):Int:=match cnt.getLast? with
 | none=>12
 | some e=>if e.2.1.data.toList=kw .deliver\/e.2.1.data.toList=kw .bill then 21 else 0
theorem uc {n:Nat}(r:Reg){num:Int}{kind b:jSj}{names:List jSj}{c:List Int}{evs:jVj}(o:evs.length<=5000)(cnt:List Ev)(l:cnt.length<=5000)
  (m:Good (num,kind,names,c,b) .undo):Qs n num kind (names.map Sd) (c.map I) b evs (cnt.map Zr) r.tick r.level r.filled r.tripped r.light r.heat r.money (r.sectors.map Sd) (r.mirrors.map QY) (r.offers.map Zj)=some (if num=(evs.length:Int)+1 then X7 cnt else 11):=by
 have j:=m.kind;dsimp only at j;unfold Qs;rw[jTj (by unfold Qh;omega)];by_cases a:num=(evs.length:Int)+1
 ·rw[jTj a,jTj a,jTj (keq j rfl)];unfold X7;cases hl:cnt.getLast? with
  | none =>
   rw[List.getLast?_eq_none_iff.1 hl];rfl
  | some e =>
   have g:cnt≠[]:=fun h=>by rw[h] at hl;cases hl
   have k:=List.length_pos_iff.2 g;rw[List.getLast?_eq_getElem?] at hl;have hi:(((cnt.map Zr).length:Int) - 1)=((cnt.length - 1:Nat):Int):=by rw[jlj];omega
   rw[jFj (by rw[jlj];omega),hi,jTj (by unfold Qh;omega),jTj (by rw[jlj];omega),jtj,Ub,List.getElem?_map,hl];show(if(e.2.1.toList==(⟨#[100,101,108,105,118,101,114]⟩:jSj).toList)=true then(Un n).bind (fun i=>some i) else(Qm n (e.2.1.toList==(⟨#[98,105,108,108]⟩:jSj).toList) 21).bind fun i=>some i)=some (if e.2.1.data.toList=kw .deliver\/e.2.1.data.toList=kw .bill then 21 else 0);by_cases d:e.2.1.data.toList=kw .deliver
   ·rw[jTj (keq d rfl),jTj (.inl d)];rfl
   ·rw[jFj (fun h=>d (by rw[kq] at h;exact h)),Zd,jBj];by_cases f:e.2.1.data.toList=kw .bill
    ·rw[jTj (.inr f)];unfold QF;rw[jTj (keq f rfl)]
    ·rw[jFj (by rintro(h|h);exact d h;exact f h)];unfold QF;rw[jFj (fun h=>f (by rw[kq] at h;exact h))]
 ·rw[jFj a,jFj a]
def bkd (r:Reg)(t:Int):Reg:={ r with tick:=t,light:=r.light+ZL r t,heat:=r.heat+ZL r t }
def chgM (r:Reg)(a:jSj)(m:Mir):Reg:={ r with mirrors:=r.mirrors.set (iM r.mirrors a) m }
def chgO (r:Reg)(a:jSj)(o:Off):Reg:={ r with offers:=r.offers.set (iO r.offers a) o }
def X8 (m:Mir)(v:Int):Mir:=(m.1,m.2.1,m.2.2.1,v,m.2.2.2.2.1,m.2.2.2.2.2)
def zU (m:Mir)(b:Bool):Mir:=(m.1,m.2.1,m.2.2.1,m.2.2.2.1,b,m.2.2.2.2.2)
def aimM (m:Mir):Mir:=(m.1,m.2.1,m.2.2.1,m.2.2.2.1,m.2.2.2.2.1,true)
def yO (o:Off)(v:Int):Off:=(o.1,o.2.1,o.2.2.1,o.2.2.2.1,o.2.2.2.2.1,o.2.2.2.2.2.1+v,o.2.2.2.2.2.2)
def GV (o:Off):Off:=(o.1,o.2.1,o.2.2.1,o.2.2.2.1,o.2.2.2.2.1,o.2.2.2.2.2.1,true)
def act (k:Ki)(q:Reg)(ns:List jSj)(vs:List Int):Reg:=match k with
 | .sector=>{ q with sectors:=q.sectors++[ns.getD 0 ⟨#[]⟩] }
 | .mirror=>{ q with mirrors:=q.mirrors++[(ns.getD 0 ⟨#[]⟩,ns.getD 1 ⟨#[]⟩,vs.getD 1 0,0,false,false)] }
 | .soil=>chgM q (ns.getD 0 ⟨#[]⟩) (X8 (mAt q.mirrors (ns.getD 0 ⟨#[]⟩)) (vs.getD 1 0))
 | .clean=>chgM q (ns.getD 0 ⟨#[]⟩) (X8 (mAt q.mirrors (ns.getD 0 ⟨#[]⟩)) 0)
 | .defect=>chgM q (ns.getD 0 ⟨#[]⟩) (zU (mAt q.mirrors (ns.getD 0 ⟨#[]⟩)) true)
 | .repair=>chgM q (ns.getD 0 ⟨#[]⟩) (zU (mAt q.mirrors (ns.getD 0 ⟨#[]⟩)) false)
 | .aim=>chgM q (ns.getD 0 ⟨#[]⟩) (aimM (mAt q.mirrors (ns.getD 0 ⟨#[]⟩)))
 | .park=>chgM q (ns.getD 0 ⟨#[]⟩) (Ka (mAt q.mirrors (ns.getD 0 ⟨#[]⟩)))
 | .dim=>{ q with mirrors:=q.mirrors.map (EN (ns.getD 0 ⟨#[]⟩)) }
 | .sun=>{ q with level:=vs.getD 1 0 }
 | .fill=>{ q with filled:=true }
 | .drain=>{ q with filled:=false }
 | .trip=>{ q with tripped:=true,mirrors:=q.mirrors.map Ka }
 | .reset=>{ q with tripped:=false }
 | .offer=>{ q with offers:=q.offers++[(ns.getD 0 ⟨#[]⟩,vs.getD 1 0,vs.getD 2 0,vs.getD 3 0,vs.getD 4 0,0,false)] }
 | .deliver=>{ chgO q (ns.getD 0 ⟨#[]⟩) (yO (oAt q.offers (ns.getD 0 ⟨#[]⟩)) (vs.getD 1 0)) with heat:=q.heat - 1000000*vs.getD 1 0 }
 | .bill=>{ chgO q (ns.getD 0 ⟨#[]⟩) (GV (oAt q.offers (ns.getD 0 ⟨#[]⟩))) with money:=q.money+U5 (oAt q.offers (ns.getD 0 ⟨#[]⟩)) }
 | .undo=>q
def app (k:Ki)(r:Reg)(ns:List jSj)(vs:List Int):Reg:=act k (bkd r (vs.getD 0 0)) ns vs
abbrev X1:=Int×Int×Bool×Bool×Int×Int×Int×jVj×jVj×jVj
def Vb (r:Reg):X1:=(r.tick,r.level,r.filled,r.tripped,r.light,r.heat,r.money,r.sectors.map Sd,r.mirrors.map QY,r.offers.map Zj)
theorem set_encO {s:List Off}{i:Nat}{y:Off}:List.set (s.map Zj) i (Zj y)=(s.set i y).map Zj:=by rw[List.map_set]
theorem QS {k:Ki}{r:Reg}{ns:List jSj}{vs:List Int}(h:acc k r ns vs=0):¬vs.getD 0 0<r.tick/\Zk r (vs.getD 0 0)=0/\known k r ns=0/\spec k r ns vs=0:=by
 unfold acc at h;by_cases a:vs.getD 0 0<r.tick
 ·rw[jTj a] at h;cases h
 ·rw[jFj a] at h;exact⟨a,Zv h _ (by simp),Zv h _ (by simp),Zv h _ (by simp)⟩
theorem EO {r:Reg}{a:jSj}{t b:Int}(h:spec .deliver r [a] [t,b]=0):(oAt r.offers a).2.2.2.2.2.2=false/\b≠0/\b<=Ws (oAt r.offers a)/\b*1000000<=r.heat+ZL r t:=by
 have h:(if Qt [QF (oAt r.offers a).2.2.2.2.2.2 23,(if t<(oAt r.offers a).2.1 then 14 else QF (decide (t>=(oAt r.offers a).2.2.1)) 14),QF (b==0) 3,QF (decide (b>Ws (oAt r.offers a))) 20]=0 then QF (decide (b*1000000>r.heat+ZL r t)) 16 else Qt [QF (oAt r.offers a).2.2.2.2.2.2 23,(if t<(oAt r.offers a).2.1 then 14 else QF (decide (t>=(oAt r.offers a).2.2.1)) 14),QF (b==0) 3,QF (decide (b>Ws (oAt r.offers a))) 20])=0:=h;by_cases c:Qt [QF (oAt r.offers a).2.2.2.2.2.2 23,(if t<(oAt r.offers a).2.1 then 14 else QF (decide (t>=(oAt r.offers a).2.2.1)) 14),QF (b==0) 3,QF (decide (b>Ws (oAt r.offers a))) 20]=0
 ·rw[jTj c] at h;have d:=YT (e:=23) (by decide) (Zv c (QF (oAt r.offers a).2.2.2.2.2.2 23) (by simp));have f:=YT (e:=3) (by decide) (Zv c (QF (b==0) 3) (by simp));have g:=YT (e:=20) (by decide) (Zv c (QF (decide (b>Ws (oAt r.offers a))) 20) (by simp));have j:=YT (e:=16) (by decide) h;have i:=of_decide_eq_false g;have k:=of_decide_eq_false j;refine⟨d,by simpa using f,by omega,by omega⟩
 ·rw[jFj c] at h;exact absurd h c
theorem QcN {n c:Nat}(v:100<=n){r:Reg}(g:Inv c r)(hc:c<=40){num:Int}{kind F:jSj}{names:List jSj}{C:List Int} :
  ∀{k:Ki},k≠.undo->Good (num,kind,names,C,F) k->acc k r names C=0->Qz n num kind (names.map Sd) (C.map I) F r.tick r.level r.filled r.tripped r.light r.heat r.money (r.sectors.map Sd) (r.mirrors.map QY) (r.offers.map Zj)=some (Vb (app k r names C))
 | .sector,_,hg,ha=>by have f:=hg.kind;dsimp only[kw] at f;obtain⟨a,t,rfl,rfl,e⟩:=hg.d11 rfl rfl;obtain⟨d,p,j,m⟩:=QS ha;have o:okT r t:=okt d e;simp only[jCj,jnj];refine Eq.trans ?_ (show some (rtM r t ((r.sectors++[a]).map Sd) (r.mirrors.map QY) (r.offers.map Zj))=some (Vb (app .sector r [a] [t])) from rfl);unfold Qz;rw[gi0,Wc g hc v o,jBj];rw[jTj f];rw[gs0,jTj (rmS g),List.map_append];rfl
 | .mirror,_,hg,ha=>by
  have f:=hg.kind;dsimp only[kw] at f;obtain⟨a,b,t,u,rfl,rfl,e⟩:=hg.d22 rfl rfl;obtain⟨d,p,j,m⟩:=QS ha;have o:okT r t:=okt d e;simp only[jCj,jnj];refine Eq.trans ?_ (show some (rtM r t (r.sectors.map Sd) ((r.mirrors++[((a,b,u,0,false,false):Mir)]).map QY) (r.offers.map Zj))=some (Vb (app .mirror r [a,b] [t,u])) from rfl);unfold Qz;rw[gi0,Wc g hc v o,jBj];(iterate 1 rw[jFj (dne f (by decide))])
  rw[jTj f];rw[gs0,gs1,gi1,jTj (rmM g (by omega)),List.map_append];rfl
 | .soil,_,hg,ha=>by
  have f:=hg.kind;dsimp only[kw] at f;obtain⟨a,t,u,rfl,rfl,e⟩:=hg.d12 rfl rfl;obtain⟨d,p,j,m⟩:=QS ha;have o:okT r t:=okt d e;simp only[jCj,jnj];refine Eq.trans ?_ (show some (rtM r t (r.sectors.map Sd) ((r.mirrors.set (iM r.mirrors a) (X8 (mAt r.mirrors a) u)).map QY) (r.offers.map Zj))=some (Vb (app .soil r [a] [t,u])) from rfl);unfold Qz;rw[gi0,Wc g hc v o,jBj];(iterate 2 rw[jFj (dne f (by decide))])
  rw[jTj f];have A:Zu (nmM r.mirrors) a=true:=ZW j;obtain⟨s,z,y⟩:=WP A;have q:=Jl s z;rw[gs0,XN _ (by have:=g.lenM;omega) (by have:=g.lenM;omega),jBj,Wb _ _ (by rw[Zo];have:=g.lenM;omega) (by rw[Zo];have:=g.lenM;omega),jBj,jTj q,s];rw[gi1];rw[Q4 unM y,jBj,<-WH,jtj];rfl
 | .clean,_,hg,ha=>by
  have f:=hg.kind;dsimp only[kw] at f;obtain⟨a,t,rfl,rfl,e⟩:=hg.d11 rfl rfl;obtain⟨d,p,j,m⟩:=QS ha;have o:okT r t:=okt d e;simp only[jCj,jnj];refine Eq.trans ?_ (show some (rtM r t (r.sectors.map Sd) ((r.mirrors.set (iM r.mirrors a) (X8 (mAt r.mirrors a) 0)).map QY) (r.offers.map Zj))=some (Vb (app .clean r [a] [t])) from rfl);unfold Qz;rw[gi0,Wc g hc v o,jBj];(iterate 3 rw[jFj (dne f (by decide))])
  rw[jTj f];have A:Zu (nmM r.mirrors) a=true:=ZW j;obtain⟨s,z,y⟩:=WP A;have q:=Jl s z;rw[gs0,XN _ (by have:=g.lenM;omega) (by have:=g.lenM;omega),jBj,Wb _ _ (by rw[Zo];have:=g.lenM;omega) (by rw[Zo];have:=g.lenM;omega),jBj,jTj q,s];rw[Q4 unM y,jBj,<-WH,jtj];rfl
 | .defect,_,hg,ha=>by
  have f:=hg.kind;dsimp only[kw] at f;obtain⟨a,t,rfl,rfl,e⟩:=hg.d11 rfl rfl;obtain⟨d,p,j,m⟩:=QS ha;have o:okT r t:=okt d e;simp only[jCj,jnj];refine Eq.trans ?_ (show some (rtM r t (r.sectors.map Sd) ((r.mirrors.set (iM r.mirrors a) (zU (mAt r.mirrors a) true)).map QY) (r.offers.map Zj))=some (Vb (app .defect r [a] [t])) from rfl);unfold Qz;rw[gi0,Wc g hc v o,jBj];(iterate 4 rw[jFj (dne f (by decide))])
  rw[jTj f];have A:Zu (nmM r.mirrors) a=true:=ZW j;obtain⟨s,z,y⟩:=WP A;have q:=Jl s z;rw[gs0,XN _ (by have:=g.lenM;omega) (by have:=g.lenM;omega),jBj,Wb _ _ (by rw[Zo];have:=g.lenM;omega) (by rw[Zo];have:=g.lenM;omega),jBj,jTj q,s];rw[Q4 unM y,jBj,<-WH,jtj];rfl
 | .repair,_,hg,ha=>by
  have f:=hg.kind;dsimp only[kw] at f;obtain⟨a,t,rfl,rfl,e⟩:=hg.d11 rfl rfl;obtain⟨d,p,j,m⟩:=QS ha;have o:okT r t:=okt d e;simp only[jCj,jnj];refine Eq.trans ?_ (show some (rtM r t (r.sectors.map Sd) ((r.mirrors.set (iM r.mirrors a) (zU (mAt r.mirrors a) false)).map QY) (r.offers.map Zj))=some (Vb (app .repair r [a] [t])) from rfl);unfold Qz;rw[gi0,Wc g hc v o,jBj];(iterate 5 rw[jFj (dne f (by decide))])
  rw[jTj f];have A:Zu (nmM r.mirrors) a=true:=ZW j;obtain⟨s,z,y⟩:=WP A;have q:=Jl s z;rw[gs0,XN _ (by have:=g.lenM;omega) (by have:=g.lenM;omega),jBj,Wb _ _ (by rw[Zo];have:=g.lenM;omega) (by rw[Zo];have:=g.lenM;omega),jBj,jTj q,s];rw[Q4 unM y,jBj,<-WH,jtj];rfl
 | .aim,_,hg,ha=>by
  have f:=hg.kind;dsimp only[kw] at f;obtain⟨a,t,rfl,rfl,e⟩:=hg.d11 rfl rfl;obtain⟨d,p,j,m⟩:=QS ha;have o:okT r t:=okt d e;simp only[jCj,jnj];refine Eq.trans ?_ (show some (rtM r t (r.sectors.map Sd) ((r.mirrors.set (iM r.mirrors a) (aimM (mAt r.mirrors a))).map QY) (r.offers.map Zj))=some (Vb (app .aim r [a] [t])) from rfl);unfold Qz;rw[gi0,Wc g hc v o,jBj];(iterate 6 rw[jFj (dne f (by decide))])
  rw[jTj f];have A:Zu (nmM r.mirrors) a=true:=ZW j;obtain⟨s,z,y⟩:=WP A;have q:=Jl s z;rw[gs0,XN _ (by have:=g.lenM;omega) (by have:=g.lenM;omega),jBj,Wb _ _ (by rw[Zo];have:=g.lenM;omega) (by rw[Zo];have:=g.lenM;omega),jBj,jTj q,s];rw[Q4 unM y,jBj,<-WH,jtj];rfl
 | .park,_,hg,ha=>by
  have f:=hg.kind;dsimp only[kw] at f;obtain⟨a,t,rfl,rfl,e⟩:=hg.d11 rfl rfl;obtain⟨d,p,j,m⟩:=QS ha;have o:okT r t:=okt d e;simp only[jCj,jnj];refine Eq.trans ?_ (show some (rtM r t (r.sectors.map Sd) ((r.mirrors.set (iM r.mirrors a) (Ka (mAt r.mirrors a))).map QY) (r.offers.map Zj))=some (Vb (app .park r [a] [t])) from rfl);unfold Qz;rw[gi0,Wc g hc v o,jBj];(iterate 7 rw[jFj (dne f (by decide))])
  rw[jTj f];have A:Zu (nmM r.mirrors) a=true:=ZW j;obtain⟨s,z,y⟩:=WP A;have q:=Jl s z;rw[gs0,XN _ (by have:=g.lenM;omega) (by have:=g.lenM;omega),jBj,Wb _ _ (by rw[Zo];have:=g.lenM;omega) (by rw[Zo];have:=g.lenM;omega),jBj,jTj q,s];rw[Q4 unM y,jBj,<-WH,jtj];rfl
 | .dim,_,hg,ha=>by
  have f:=hg.kind;dsimp only[kw] at f;obtain⟨a,t,rfl,rfl,e⟩:=hg.d11 rfl rfl;obtain⟨d,p,j,m⟩:=QS ha;have o:okT r t:=okt d e;simp only[jCj,jnj];refine Eq.trans ?_ (show some (rtM r t (r.sectors.map Sd) ((r.mirrors.map (EN a)).map QY) (r.offers.map Zj))=some (Vb (app .dim r [a] [t])) from rfl);unfold Qz;rw[gi0,Wc g hc v o,jBj];(iterate 8 rw[jFj (dne f (by decide))])
  rw[jTj f];rw[QdO _ (by have:=g.lenM;omega) (by have:=g.lenM;omega),jBj]
 | .sun,_,hg,ha=>by
  have f:=hg.kind;dsimp only[kw] at f;obtain⟨t,u,rfl,rfl,e⟩:=hg.d02 rfl rfl;obtain⟨d,p,j,m⟩:=QS ha;have o:okT r t:=okt d e;simp only[jCj,jnj];refine Eq.trans ?_ (show some ((t,u,r.filled,r.tripped,r.light+ZL r t,r.heat+ZL r t,r.money,r.sectors.map Sd,r.mirrors.map QY,r.offers.map Zj):X1)=some (Vb (app .sun r [] [t,u])) from rfl);unfold Qz;rw[gi0,Wc g hc v o,jBj];(iterate 9 rw[jFj (dne f (by decide))])
  rw[jTj f];rw[gi1]
 | .fill,_,hg,ha=>by
  have f:=hg.kind;dsimp only[kw] at f;obtain⟨t,rfl,rfl,e⟩:=hg.d01 rfl rfl;obtain⟨d,p,j,m⟩:=QS ha;have o:okT r t:=okt d e;simp only[jCj,jnj];refine Eq.trans ?_ (show some ((t,r.level,true,r.tripped,r.light+ZL r t,r.heat+ZL r t,r.money,r.sectors.map Sd,r.mirrors.map QY,r.offers.map Zj):X1)=some (Vb (app .fill r [] [t])) from rfl);unfold Qz;rw[gi0,Wc g hc v o,jBj];(iterate 10 rw[jFj (dne f (by decide))])
  rw[jTj f]
 | .drain,_,hg,ha=>by
  have f:=hg.kind;dsimp only[kw] at f;obtain⟨t,rfl,rfl,e⟩:=hg.d01 rfl rfl;obtain⟨d,p,j,m⟩:=QS ha;have o:okT r t:=okt d e;simp only[jCj,jnj];refine Eq.trans ?_ (show some ((t,r.level,false,r.tripped,r.light+ZL r t,r.heat+ZL r t,r.money,r.sectors.map Sd,r.mirrors.map QY,r.offers.map Zj):X1)=some (Vb (app .drain r [] [t])) from rfl);unfold Qz;rw[gi0,Wc g hc v o,jBj];(iterate 11 rw[jFj (dne f (by decide))])
  rw[jTj f]
 | .trip,_,hg,ha=>by
  have f:=hg.kind;dsimp only[kw] at f;obtain⟨t,rfl,rfl,e⟩:=hg.d01 rfl rfl;obtain⟨d,p,j,m⟩:=QS ha;have o:okT r t:=okt d e;simp only[jCj,jnj];refine Eq.trans ?_ (show some ((t,r.level,r.filled,true,r.light+ZL r t,r.heat+ZL r t,r.money,r.sectors.map Sd,(r.mirrors.map Ka).map QY,r.offers.map Zj):X1)=some (Vb (app .trip r [] [t])) from rfl);unfold Qz;rw[gi0,Wc g hc v o,jBj];(iterate 12 rw[jFj (dne f (by decide))])
  rw[jTj f];rw[QdN _ (by have:=g.lenM;omega) (by have:=g.lenM;omega),jBj]
 | .reset,_,hg,ha=>by
  have f:=hg.kind;dsimp only[kw] at f;obtain⟨t,rfl,rfl,e⟩:=hg.d01 rfl rfl;obtain⟨d,p,j,m⟩:=QS ha;have o:okT r t:=okt d e;simp only[jCj,jnj];refine Eq.trans ?_ (show some ((t,r.level,r.filled,false,r.light+ZL r t,r.heat+ZL r t,r.money,r.sectors.map Sd,r.mirrors.map QY,r.offers.map Zj):X1)=some (Vb (app .reset r [] [t])) from rfl);unfold Qz;rw[gi0,Wc g hc v o,jBj];(iterate 13 rw[jFj (dne f (by decide))])
  rw[jTj f]
 | .offer,_,hg,ha=>by
  have f:=hg.kind;dsimp only[kw] at f;obtain⟨a,t,u,H,N,O,rfl,rfl,e⟩:=hg.d15 rfl rfl;obtain⟨d,p,j,m⟩:=QS ha;have o:okT r t:=okt d e;simp only[jCj,jnj];refine Eq.trans ?_ (show some (rtM r t (r.sectors.map Sd) (r.mirrors.map QY) ((r.offers++[((a,u,H,N,O,0,false):Off)]).map Zj))=some (Vb (app .offer r [a] [t,u,H,N,O])) from rfl);unfold Qz;rw[gi0,Wc g hc v o,jBj];(iterate 14 rw[jFj (dne f (by decide))])
  rw[jTj f];have M:∃w,WL n num kind [Sd a] [I t,I u,I H,I N,I O] F=some (u,H,w):=by
   unfold WL;rw[gi1,gi2,gi0];by_cases h:u<t
   ·rw[jTj h];exact⟨14,rfl⟩
   ·rw[jFj h,Zd];exact⟨_,rfl⟩
  obtain⟨w,M⟩:=M;rw[M,jBj,gs0,gi3,gi4,jTj (rmO g (by omega)),List.map_append];rfl
 | .deliver,_,hg,ha=>by
  have f:=hg.kind;dsimp only[kw] at f;obtain⟨a,t,u,rfl,rfl,e⟩:=hg.d12 rfl rfl;obtain⟨d,p,j,m⟩:=QS ha;have o:okT r t:=okt d e;simp only[jCj,jnj];refine Eq.trans ?_ (show some ((t,r.level,r.filled,r.tripped,r.light+ZL r t,r.heat+ZL r t - 1000000*u,r.money,r.sectors.map Sd,r.mirrors.map QY,(r.offers.set (iO r.offers a) (yO (oAt r.offers a) u)).map Zj):X1)=some (Vb (app .deliver r [a] [t,u])) from rfl);unfold Qz;rw[gi0,Wc g hc v o,jBj];(iterate 15 rw[jFj (dne f (by decide))])
  rw[jTj f];have A:Zu (nmO r.offers) a=true:=ZW j;obtain⟨s,z,y⟩:=JV A;have E:=g.offs _ (jgj y);have q:=uS s z;rw[gs0,Qbh _ (by have:=g.lenO;omega) (by have:=g.lenO;omega),jBj,Wb _ _ (by rw[Vq];have:=g.lenO;omega) (by rw[Vq];have:=g.lenO;omega),jBj,jTj q,s];have Q:=EO m;have P:=YF E;have W:=hg.val u (by simp);have T:=K4 g hc o;have U:=g.heat;have K:=Q.2.2.1;have S:=E.2.2;unfold Ws at K;rw[Q4 unO y,jBj,gi1,jTj (by unfold Qh;have:=E.1;omega),jTj (by unfold Qh;omega),jTj (by unfold Qh;omega),<-set_encO,jtj];rfl
 | .bill,_,hg,ha=>by
  have f:=hg.kind;dsimp only[kw] at f;obtain⟨a,t,rfl,rfl,e⟩:=hg.d11 rfl rfl;obtain⟨d,p,j,m⟩:=QS ha;have o:okT r t:=okt d e;simp only[jCj,jnj];refine Eq.trans ?_ (show some ((t,r.level,r.filled,r.tripped,r.light+ZL r t,r.heat+ZL r t,r.money+U5 (oAt r.offers a),r.sectors.map Sd,r.mirrors.map QY,(r.offers.set (iO r.offers a) (GV (oAt r.offers a))).map Zj):X1)=some (Vb (app .bill r [a] [t])) from rfl);unfold Qz;rw[gi0,Wc g hc v o,jBj];(iterate 16 rw[jFj (dne f (by decide))])
  rw[jTj f];have A:Zu (nmO r.offers) a=true:=ZW j;obtain⟨s,z,y⟩:=JV A;have E:=g.offs _ (jgj y);have q:=uS s z;rw[gs0,Qbh _ (by have:=g.lenO;omega) (by have:=g.lenO;omega),jBj,Wb _ _ (by rw[Vq];have:=g.lenO;omega) (by rw[Vq];have:=g.lenO;omega),jBj,jTj q,s];have P:=(YF E).2.2.2;have V:=g.money;have L:(nth (List.set (r.offers.map Zj) (Int.toNat (iO r.offers a:Int)) (Zj (GV (oAt r.offers a))):jVj) (Int.toNat (iO r.offers a:Int))).bind Z6=some (GV (oAt r.offers a)):=by rw[jtj,set_encO];have:=Q4 (i:=iO r.offers a) (l:=r.offers.set (iO r.offers a) (GV (oAt r.offers a))) (x:=GV (oAt r.offers a)) unO (by rw[List.getElem?_set_self z]);rwa [jtj] at this
  have G:okO (GV (oAt r.offers a)):=E;have J:U5 (GV (oAt r.offers a))=U5 (oAt r.offers a):=rfl;rw[Q4 unO y,jBj];refine Eq.trans (congrArg (fun x:Option Off=>x.bind _) L) ?_;rw[jBj,Qbp n G,jBj,J,jTj (by unfold Qh;omega),<-set_encO,jtj];rfl
 | .undo,h,_,_=>absurd rfl h
theorem Qb1 {n c:Nat}(v:100<=n){r:Reg}(g:Inv c r)(hc:c<=40){num:Int}{kind F:jSj}{names:List jSj}{C:List Int}{evs cnt:jVj} :
  ∀{k:Ki},k≠.undo->Good (num,kind,names,C,F) k->acc k r names C=0->Qy n num kind (names.map Sd) (C.map I) F evs cnt r.tick r.level r.filled r.tripped r.light r.heat r.money (r.sectors.map Sd) (r.mirrors.map QY) (r.offers.map Zj)=some (Vb (app k r names C))
 | .sector,_,hg,ha=>by have f:=hg.kind;dsimp only[kw] at f;obtain⟨a,t,rfl,rfl,e⟩:=hg.d11 rfl rfl;obtain⟨d,p,j,m⟩:=QS ha;have o:okT r t:=okt d e;simp only[jCj,jnj];refine Eq.trans ?_ (show some (rtM r t ((r.sectors++[a]).map Sd) (r.mirrors.map QY) (r.offers.map Zj))=some (Vb (app .sector r [a] [t])) from rfl);unfold Qy;rw[gi0,Z7 g hc v o,jBj];rw[jTj f];rw[gs0,jTj (rmS g),List.map_append];rfl
 | .mirror,_,hg,ha=>by
  have f:=hg.kind;dsimp only[kw] at f;obtain⟨a,b,t,u,rfl,rfl,e⟩:=hg.d22 rfl rfl;obtain⟨d,p,j,m⟩:=QS ha;have o:okT r t:=okt d e;simp only[jCj,jnj];refine Eq.trans ?_ (show some (rtM r t (r.sectors.map Sd) ((r.mirrors++[((a,b,u,0,false,false):Mir)]).map QY) (r.offers.map Zj))=some (Vb (app .mirror r [a,b] [t,u])) from rfl);unfold Qy;rw[gi0,Z7 g hc v o,jBj];(iterate 1 rw[jFj (dne f (by decide))])
  rw[jTj f];rw[gs0,gs1,gi1,jTj (rmM g (by omega)),List.map_append];rfl
 | .soil,_,hg,ha=>by
  have f:=hg.kind;dsimp only[kw] at f;obtain⟨a,t,u,rfl,rfl,e⟩:=hg.d12 rfl rfl;obtain⟨d,p,j,m⟩:=QS ha;have o:okT r t:=okt d e;simp only[jCj,jnj];refine Eq.trans ?_ (show some (rtM r t (r.sectors.map Sd) ((r.mirrors.set (iM r.mirrors a) (X8 (mAt r.mirrors a) u)).map QY) (r.offers.map Zj))=some (Vb (app .soil r [a] [t,u])) from rfl);unfold Qy;rw[gi0,Z7 g hc v o,jBj];(iterate 2 rw[jFj (dne f (by decide))])
  rw[jTj f];have A:Zu (nmM r.mirrors) a=true:=ZW j;obtain⟨s,z,y⟩:=WP A;have q:=Jl s z;rw[gs0,UC _ (by have:=g.lenM;omega) (by have:=g.lenM;omega),jBj,Wb _ _ (by rw[Zo];have:=g.lenM;omega) (by rw[Zo];have:=g.lenM;omega),jBj,jTj q,s];rw[gi1];rw[Q4 unM y,jBj,<-WH,jtj];rfl
 | .clean,_,hg,ha=>by
  have f:=hg.kind;dsimp only[kw] at f;obtain⟨a,t,rfl,rfl,e⟩:=hg.d11 rfl rfl;obtain⟨d,p,j,m⟩:=QS ha;have o:okT r t:=okt d e;simp only[jCj,jnj];refine Eq.trans ?_ (show some (rtM r t (r.sectors.map Sd) ((r.mirrors.set (iM r.mirrors a) (X8 (mAt r.mirrors a) 0)).map QY) (r.offers.map Zj))=some (Vb (app .clean r [a] [t])) from rfl);unfold Qy;rw[gi0,Z7 g hc v o,jBj];(iterate 3 rw[jFj (dne f (by decide))])
  rw[jTj f];have A:Zu (nmM r.mirrors) a=true:=ZW j;obtain⟨s,z,y⟩:=WP A;have q:=Jl s z;rw[gs0,UC _ (by have:=g.lenM;omega) (by have:=g.lenM;omega),jBj,Wb _ _ (by rw[Zo];have:=g.lenM;omega) (by rw[Zo];have:=g.lenM;omega),jBj,jTj q,s];rw[Q4 unM y,jBj,<-WH,jtj];rfl
 | .defect,_,hg,ha=>by
  have f:=hg.kind;dsimp only[kw] at f;obtain⟨a,t,rfl,rfl,e⟩:=hg.d11 rfl rfl;obtain⟨d,p,j,m⟩:=QS ha;have o:okT r t:=okt d e;simp only[jCj,jnj];refine Eq.trans ?_ (show some (rtM r t (r.sectors.map Sd) ((r.mirrors.set (iM r.mirrors a) (zU (mAt r.mirrors a) true)).map QY) (r.offers.map Zj))=some (Vb (app .defect r [a] [t])) from rfl);unfold Qy;rw[gi0,Z7 g hc v o,jBj];(iterate 4 rw[jFj (dne f (by decide))])
  rw[jTj f];have A:Zu (nmM r.mirrors) a=true:=ZW j;obtain⟨s,z,y⟩:=WP A;have q:=Jl s z;rw[gs0,UC _ (by have:=g.lenM;omega) (by have:=g.lenM;omega),jBj,Wb _ _ (by rw[Zo];have:=g.lenM;omega) (by rw[Zo];have:=g.lenM;omega),jBj,jTj q,s];rw[Q4 unM y,jBj,<-WH,jtj];rfl
 | .repair,_,hg,ha=>by
  have f:=hg.kind;dsimp only[kw] at f;obtain⟨a,t,rfl,rfl,e⟩:=hg.d11 rfl rfl;obtain⟨d,p,j,m⟩:=QS ha;have o:okT r t:=okt d e;simp only[jCj,jnj];refine Eq.trans ?_ (show some (rtM r t (r.sectors.map Sd) ((r.mirrors.set (iM r.mirrors a) (zU (mAt r.mirrors a) false)).map QY) (r.offers.map Zj))=some (Vb (app .repair r [a] [t])) from rfl);unfold Qy;rw[gi0,Z7 g hc v o,jBj];(iterate 5 rw[jFj (dne f (by decide))])
  rw[jTj f];have A:Zu (nmM r.mirrors) a=true:=ZW j;obtain⟨s,z,y⟩:=WP A;have q:=Jl s z;rw[gs0,UC _ (by have:=g.lenM;omega) (by have:=g.lenM;omega),jBj,Wb _ _ (by rw[Zo];have:=g.lenM;omega) (by rw[Zo];have:=g.lenM;omega),jBj,jTj q,s];rw[Q4 unM y,jBj,<-WH,jtj];rfl
 | .aim,_,hg,ha=>by
  have f:=hg.kind;dsimp only[kw] at f;obtain⟨a,t,rfl,rfl,e⟩:=hg.d11 rfl rfl;obtain⟨d,p,j,m⟩:=QS ha;have o:okT r t:=okt d e;simp only[jCj,jnj];refine Eq.trans ?_ (show some (rtM r t (r.sectors.map Sd) ((r.mirrors.set (iM r.mirrors a) (aimM (mAt r.mirrors a))).map QY) (r.offers.map Zj))=some (Vb (app .aim r [a] [t])) from rfl);unfold Qy;rw[gi0,Z7 g hc v o,jBj];(iterate 6 rw[jFj (dne f (by decide))])
  rw[jTj f];have A:Zu (nmM r.mirrors) a=true:=ZW j;obtain⟨s,z,y⟩:=WP A;have q:=Jl s z;rw[gs0,UC _ (by have:=g.lenM;omega) (by have:=g.lenM;omega),jBj,Wb _ _ (by rw[Zo];have:=g.lenM;omega) (by rw[Zo];have:=g.lenM;omega),jBj,jTj q,s];rw[Q4 unM y,jBj,<-WH,jtj];rfl
 | .park,_,hg,ha=>by
  have f:=hg.kind;dsimp only[kw] at f;obtain⟨a,t,rfl,rfl,e⟩:=hg.d11 rfl rfl;obtain⟨d,p,j,m⟩:=QS ha;have o:okT r t:=okt d e;simp only[jCj,jnj];refine Eq.trans ?_ (show some (rtM r t (r.sectors.map Sd) ((r.mirrors.set (iM r.mirrors a) (Ka (mAt r.mirrors a))).map QY) (r.offers.map Zj))=some (Vb (app .park r [a] [t])) from rfl);unfold Qy;rw[gi0,Z7 g hc v o,jBj];(iterate 7 rw[jFj (dne f (by decide))])
  rw[jTj f];have A:Zu (nmM r.mirrors) a=true:=ZW j;obtain⟨s,z,y⟩:=WP A;have q:=Jl s z;rw[gs0,UC _ (by have:=g.lenM;omega) (by have:=g.lenM;omega),jBj,Wb _ _ (by rw[Zo];have:=g.lenM;omega) (by rw[Zo];have:=g.lenM;omega),jBj,jTj q,s];rw[Q4 unM y,jBj,<-WH,jtj];rfl
 | .dim,_,hg,ha=>by
  have f:=hg.kind;dsimp only[kw] at f;obtain⟨a,t,rfl,rfl,e⟩:=hg.d11 rfl rfl;obtain⟨d,p,j,m⟩:=QS ha;have o:okT r t:=okt d e;simp only[jCj,jnj];refine Eq.trans ?_ (show some (rtM r t (r.sectors.map Sd) ((r.mirrors.map (EN a)).map QY) (r.offers.map Zj))=some (Vb (app .dim r [a] [t])) from rfl);unfold Qy;rw[gi0,Z7 g hc v o,jBj];(iterate 8 rw[jFj (dne f (by decide))])
  rw[jTj f];rw[Qdr _ (by have:=g.lenM;omega) (by have:=g.lenM;omega),jBj]
 | .sun,_,hg,ha=>by
  have f:=hg.kind;dsimp only[kw] at f;obtain⟨t,u,rfl,rfl,e⟩:=hg.d02 rfl rfl;obtain⟨d,p,j,m⟩:=QS ha;have o:okT r t:=okt d e;simp only[jCj,jnj];refine Eq.trans ?_ (show some ((t,u,r.filled,r.tripped,r.light+ZL r t,r.heat+ZL r t,r.money,r.sectors.map Sd,r.mirrors.map QY,r.offers.map Zj):X1)=some (Vb (app .sun r [] [t,u])) from rfl);unfold Qy;rw[gi0,Z7 g hc v o,jBj];(iterate 9 rw[jFj (dne f (by decide))])
  rw[jTj f];rw[gi1]
 | .fill,_,hg,ha=>by
  have f:=hg.kind;dsimp only[kw] at f;obtain⟨t,rfl,rfl,e⟩:=hg.d01 rfl rfl;obtain⟨d,p,j,m⟩:=QS ha;have o:okT r t:=okt d e;simp only[jCj,jnj];refine Eq.trans ?_ (show some ((t,r.level,true,r.tripped,r.light+ZL r t,r.heat+ZL r t,r.money,r.sectors.map Sd,r.mirrors.map QY,r.offers.map Zj):X1)=some (Vb (app .fill r [] [t])) from rfl);unfold Qy;rw[gi0,Z7 g hc v o,jBj];(iterate 10 rw[jFj (dne f (by decide))])
  rw[jTj f]
 | .drain,_,hg,ha=>by
  have f:=hg.kind;dsimp only[kw] at f;obtain⟨t,rfl,rfl,e⟩:=hg.d01 rfl rfl;obtain⟨d,p,j,m⟩:=QS ha;have o:okT r t:=okt d e;simp only[jCj,jnj];refine Eq.trans ?_ (show some ((t,r.level,false,r.tripped,r.light+ZL r t,r.heat+ZL r t,r.money,r.sectors.map Sd,r.mirrors.map QY,r.offers.map Zj):X1)=some (Vb (app .drain r [] [t])) from rfl);unfold Qy;rw[gi0,Z7 g hc v o,jBj];(iterate 11 rw[jFj (dne f (by decide))])
  rw[jTj f]
 | .trip,_,hg,ha=>by
  have f:=hg.kind;dsimp only[kw] at f;obtain⟨t,rfl,rfl,e⟩:=hg.d01 rfl rfl;obtain⟨d,p,j,m⟩:=QS ha;have o:okT r t:=okt d e;simp only[jCj,jnj];refine Eq.trans ?_ (show some ((t,r.level,r.filled,true,r.light+ZL r t,r.heat+ZL r t,r.money,r.sectors.map Sd,(r.mirrors.map Ka).map QY,r.offers.map Zj):X1)=some (Vb (app .trip r [] [t])) from rfl);unfold Qy;rw[gi0,Z7 g hc v o,jBj];(iterate 12 rw[jFj (dne f (by decide))])
  rw[jTj f];rw[Qdq _ (by have:=g.lenM;omega) (by have:=g.lenM;omega),jBj]
 | .reset,_,hg,ha=>by
  have f:=hg.kind;dsimp only[kw] at f;obtain⟨t,rfl,rfl,e⟩:=hg.d01 rfl rfl;obtain⟨d,p,j,m⟩:=QS ha;have o:okT r t:=okt d e;simp only[jCj,jnj];refine Eq.trans ?_ (show some ((t,r.level,r.filled,false,r.light+ZL r t,r.heat+ZL r t,r.money,r.sectors.map Sd,r.mirrors.map QY,r.offers.map Zj):X1)=some (Vb (app .reset r [] [t])) from rfl);unfold Qy;rw[gi0,Z7 g hc v o,jBj];(iterate 13 rw[jFj (dne f (by decide))])
  rw[jTj f]
 | .offer,_,hg,ha=>by
  have f:=hg.kind;dsimp only[kw] at f;obtain⟨a,t,u,H,N,O,rfl,rfl,e⟩:=hg.d15 rfl rfl;obtain⟨d,p,j,m⟩:=QS ha;have o:okT r t:=okt d e;simp only[jCj,jnj];refine Eq.trans ?_ (show some (rtM r t (r.sectors.map Sd) (r.mirrors.map QY) ((r.offers++[((a,u,H,N,O,0,false):Off)]).map Zj))=some (Vb (app .offer r [a] [t,u,H,N,O])) from rfl);unfold Qy;rw[gi0,Z7 g hc v o,jBj];(iterate 14 rw[jFj (dne f (by decide))])
  rw[jTj f];have M:∃w,WL n num kind [Sd a] [I t,I u,I H,I N,I O] F=some (u,H,w):=by
   unfold WL;rw[gi1,gi2,gi0];by_cases h:u<t
   ·rw[jTj h];exact⟨14,rfl⟩
   ·rw[jFj h,Zd];exact⟨_,rfl⟩
  obtain⟨w,M⟩:=M;rw[M,jBj,gs0,gi3,gi4,jTj (rmO g (by omega)),List.map_append];rfl
 | .deliver,_,hg,ha=>by
  have f:=hg.kind;dsimp only[kw] at f;obtain⟨a,t,u,rfl,rfl,e⟩:=hg.d12 rfl rfl;obtain⟨d,p,j,m⟩:=QS ha;have o:okT r t:=okt d e;simp only[jCj,jnj];refine Eq.trans ?_ (show some ((t,r.level,r.filled,r.tripped,r.light+ZL r t,r.heat+ZL r t - 1000000*u,r.money,r.sectors.map Sd,r.mirrors.map QY,(r.offers.set (iO r.offers a) (yO (oAt r.offers a) u)).map Zj):X1)=some (Vb (app .deliver r [a] [t,u])) from rfl);unfold Qy;rw[gi0,Z7 g hc v o,jBj];(iterate 15 rw[jFj (dne f (by decide))])
  rw[jTj f];have A:Zu (nmO r.offers) a=true:=ZW j;obtain⟨s,z,y⟩:=JV A;have E:=g.offs _ (jgj y);have q:=uS s z;rw[gs0,EC _ (by have:=g.lenO;omega) (by have:=g.lenO;omega),jBj,Wb _ _ (by rw[Vq];have:=g.lenO;omega) (by rw[Vq];have:=g.lenO;omega),jBj,jTj q,s];have Q:=EO m;have P:=YF E;have W:=hg.val u (by simp);have T:=K4 g hc o;have U:=g.heat;have K:=Q.2.2.1;have S:=E.2.2;unfold Ws at K;rw[Q4 unO y,jBj,gi1,jTj (by unfold Qh;have:=E.1;omega),jTj (by unfold Qh;omega),jTj (by unfold Qh;omega),<-set_encO,jtj];rfl
 | .bill,_,hg,ha=>by
  have f:=hg.kind;dsimp only[kw] at f;obtain⟨a,t,rfl,rfl,e⟩:=hg.d11 rfl rfl;obtain⟨d,p,j,m⟩:=QS ha;have o:okT r t:=okt d e;simp only[jCj,jnj];refine Eq.trans ?_ (show some ((t,r.level,r.filled,r.tripped,r.light+ZL r t,r.heat+ZL r t,r.money+U5 (oAt r.offers a),r.sectors.map Sd,r.mirrors.map QY,(r.offers.set (iO r.offers a) (GV (oAt r.offers a))).map Zj):X1)=some (Vb (app .bill r [a] [t])) from rfl);unfold Qy;rw[gi0,Z7 g hc v o,jBj];(iterate 16 rw[jFj (dne f (by decide))])
  rw[jTj f];have A:Zu (nmO r.offers) a=true:=ZW j;obtain⟨s,z,y⟩:=JV A;have E:=g.offs _ (jgj y);have q:=uS s z;rw[gs0,EC _ (by have:=g.lenO;omega) (by have:=g.lenO;omega),jBj,Wb _ _ (by rw[Vq];have:=g.lenO;omega) (by rw[Vq];have:=g.lenO;omega),jBj,jTj q,s];have P:=(YF E).2.2.2;have V:=g.money;have L:(nth (List.set (r.offers.map Zj) (Int.toNat (iO r.offers a:Int)) (Zj (GV (oAt r.offers a))):jVj) (Int.toNat (iO r.offers a:Int))).bind Z6=some (GV (oAt r.offers a)):=by rw[jtj,set_encO];have:=Q4 (i:=iO r.offers a) (l:=r.offers.set (iO r.offers a) (GV (oAt r.offers a))) (x:=GV (oAt r.offers a)) unO (by rw[List.getElem?_set_self z]);rwa [jtj] at this
  have G:okO (GV (oAt r.offers a)):=E;have J:U5 (GV (oAt r.offers a))=U5 (oAt r.offers a):=rfl;rw[Q4 unO y,jBj];refine Eq.trans (congrArg (fun x:Option Off=>x.bind _) L) ?_;rw[jBj,Qbp n G,jBj,J,jTj (by unfold Qh;omega),<-set_encO,jtj];rfl
 | .undo,h,_,_=>absurd rfl h
theorem wh {l:List jSj}{s:jSj}(h:¬Zu l s=true):YJ l s<0:=wC.2 fun a=>h (pos_mem.2 a)
theorem EY {l:List jSj}{s:jSj}(h:Zu l s=true):¬YJ l s<0:=fun a=>wC.1 a (pos_mem.1 h)
theorem XL {l:List jSj}{s:jSj}:YJ l s>=0↔Zu l s=true:=posI_nn.trans pos_mem.symm
theorem qm {n:Nat}(u:100<=n){f g:Int}{h i:Bool}{j l m:Int}{o:jVj}{p:jVj}{r:jVj}{c:jVj}{b:Int}{a:jSj}{d:jVj}{e:jSj}{k:Ki}(s:a.data.toList=kw k)(t:kr k=[]):QW n f g h i j l m o p r b a c d e=some (0):=by
 unfold QW;rw[JF n s,jBj,t];have q:Qj n f g h i j l m o p r b a c d e (mkS [],(kv k:Int),true) 0=some (.inr (.inr ())):=by unfold Qj;dsimp only;rw[jFj (show ¬(0:Int)<((mkS []).size:Int) by decide)]
 rw[Zf (by omega) q,jBj];dsimp only;rw[jFj (show ¬((mkS []).size:Int)>0 by decide)]
theorem QdX {n:Nat}(x:100<=n){g i:Int}{j l:Bool}{m o p:Int}{r:jVj}{s:jVj}{c:Int}{b:jSj}{d:jVj}{e:jSj}(f:List jSj)(y:f.length<=40)(a:jSj){k:Ki}(u:b.data.toList=kw k)(v:kr k=[83]):QW n g i j l m o p (f.map Sd) r s c b [Sd a] d e=some (QF (Zu f a) 9):=by
 unfold QW;rw[JF n u,jBj,v];have q:Qj n g i j l m o p (f.map Sd) r s c b [Sd a] d e (mkS [83],(kv k:Int),true) 0=some (.inl 1):=by unfold Qj;dsimp only;rw[jTj (show(0:Int)<((mkS [83]).size:Int) by decide),show WQ (mkS [83]) 0=some 83 from rfl,jBj,jFj (by decide),jTj (by decide)];rfl
 have w:Qj n g i j l m o p (f.map Sd) r s c b [Sd a] d e (mkS [83],(kv k:Int),true) 1=some (.inr (.inr ())):=by unfold Qj;dsimp only;rw[jFj (show ¬(1:Int)<((mkS [83]).size:Int) by decide)]
 rw[Wy (by omega) q,Zf (by omega) w,jBj];dsimp only;rw[jTj (show((mkS [83]).size:Int)>0 by decide),show WQ (mkS [83]) 0=some 83 from rfl,jBj,jTj (by decide),gs0,show IntKind.wrap .u8 (IntKind.wrap .u8 (83+97) - 65)=115 from by decide,at_s f a (by omega) (by omega),jBj];unfold QF;by_cases h:Zu f a=true
 ·rw[jTj (XL.2 h),jTj h]
 ·rw[jFj (fun t=>h (XL.1 t)),jFj h]
theorem QdY {n:Nat}(x:100<=n){g i:Int}{j l:Bool}{m o p:Int}{r:jVj}{s:jVj}{c:Int}{b:jSj}{d:jVj}{e:jSj}(f:List Off)(y:f.length<=40)(a:jSj){k:Ki}(u:b.data.toList=kw k)(v:kr k=[79]):QW n g i j l m o p r s (f.map Zj) c b [Sd a] d e=some (QF (Zu (nmO f) a) 9):=by
 unfold QW;rw[JF n u,jBj,v];have q:Qj n g i j l m o p r s (f.map Zj) c b [Sd a] d e (mkS [79],(kv k:Int),true) 0=some (.inl 1):=by unfold Qj;dsimp only;rw[jTj (show(0:Int)<((mkS [79]).size:Int) by decide),show WQ (mkS [79]) 0=some 79 from rfl,jBj,jFj (by decide),jTj (by decide)];rfl
 have w:Qj n g i j l m o p r s (f.map Zj) c b [Sd a] d e (mkS [79],(kv k:Int),true) 1=some (.inr (.inr ())):=by unfold Qj;dsimp only;rw[jFj (show ¬(1:Int)<((mkS [79]).size:Int) by decide)]
 rw[Wy (by omega) q,Zf (by omega) w,jBj];dsimp only;rw[jTj (show((mkS [79]).size:Int)>0 by decide),show WQ (mkS [79]) 0=some 79 from rfl,jBj,jTj (by decide),gs0,show IntKind.wrap .u8 (IntKind.wrap .u8 (79+97) - 65)=111 from by decide,at_o f a (by omega) (by omega),jBj];unfold QF;by_cases h:Zu (nmO f) a=true
 ·rw[jTj (XL.2 h),jTj h]
 ·rw[jFj (fun t=>h (XL.1 t)),jFj h]
theorem QdW {n:Nat}(w:100<=n){g i:Int}{j l:Bool}{m o p:Int}{r:jVj}{s:jVj}{c:Int}{b:jSj}{d:jVj}{e:jSj}(f:List jSj)(x:f.length<=40)(a:jSj){k:Ki}(t:b.data.toList=kw k)(u:kr k=[115]):QW n g i j l m o p (f.map Sd) r s c b [Sd a] d e=some (QF (!Zu f a) 10):=by
 unfold QW;rw[JF n t,jBj,u];by_cases h:Zu f a=true
 ·have q:Qj n g i j l m o p (f.map Sd) r s c b [Sd a] d e (mkS [115],(kv k:Int),true) 0=some (.inl 1):=by unfold Qj;dsimp only;rw[jTj (show(0:Int)<((mkS [115]).size:Int) by decide),show WQ (mkS [115]) 0=some 115 from rfl,jBj,jTj (by decide),gs0,at_s f a (by omega) (by omega),jBj,jFj (EY h),jTj (by decide)];rfl
  have v:Qj n g i j l m o p (f.map Sd) r s c b [Sd a] d e (mkS [115],(kv k:Int),true) 1=some (.inr (.inr ())):=by unfold Qj;dsimp only;rw[jFj (show ¬(1:Int)<((mkS [115]).size:Int) by decide)]
  rw[Wy (by omega) q,Zf (by omega) v,jBj,h];dsimp only;rw[jTj (show((mkS [115]).size:Int)>0 by decide),show WQ (mkS [115]) 0=some 115 from rfl,jBj,jFj (by decide)];rfl
 ·have q:Qj n g i j l m o p (f.map Sd) r s c b [Sd a] d e (mkS [115],(kv k:Int),true) 0=some (.inr (.inl ())):=by unfold Qj;dsimp only;rw[jTj (show(0:Int)<((mkS [115]).size:Int) by decide),show WQ (mkS [115]) 0=some 115 from rfl,jBj,jTj (by decide),gs0,at_s f a (by omega) (by omega),jBj,jTj (wh h)]
  rw[Zf (by omega) q,jBj];simp only[Bool.not_eq_true] at h;rw[h];rfl
theorem kQ {n:Nat}(w:100<=n){f g:Int}{i j:Bool}{l m o:Int}{p:jVj}{r:jVj}{c:Int}{b:jSj}{d:jVj}{e:jSj}(ms:List Mir)(v:ms.length<=40)(a:jSj){k:Ki}(s:b.data.toList=kw k)(t:kr k=[109]):QW n f g i j l m o p (ms.map QY) r c b [Sd a] d e=some (QF (!Zu (nmM ms) a) 10):=by
 unfold QW;rw[JF n s,jBj,t];by_cases h:Zu (nmM ms) a=true
 ·have q:Qj n f g i j l m o p (ms.map QY) r c b [Sd a] d e (mkS [109],(kv k:Int),true) 0=some (.inl 1):=by unfold Qj;dsimp only;rw[jTj (show(0:Int)<((mkS [109]).size:Int) by decide),show WQ (mkS [109]) 0=some 109 from rfl,jBj,jTj (by decide),gs0,yT ms a (by omega) (by omega),jBj,jFj (EY h),jTj (by decide)];rfl
  have u:Qj n f g i j l m o p (ms.map QY) r c b [Sd a] d e (mkS [109],(kv k:Int),true) 1=some (.inr (.inr ())):=by unfold Qj;dsimp only;rw[jFj (show ¬(1:Int)<((mkS [109]).size:Int) by decide)]
  rw[Wy (by omega) q,Zf (by omega) u,jBj,h];dsimp only;rw[jTj (show((mkS [109]).size:Int)>0 by decide),show WQ (mkS [109]) 0=some 109 from rfl,jBj,jFj (by decide)];rfl
 ·have q:Qj n f g i j l m o p (ms.map QY) r c b [Sd a] d e (mkS [109],(kv k:Int),true) 0=some (.inr (.inl ())):=by unfold Qj;dsimp only;rw[jTj (show(0:Int)<((mkS [109]).size:Int) by decide),show WQ (mkS [109]) 0=some 109 from rfl,jBj,jTj (by decide),gs0,yT ms a (by omega) (by omega),jBj,jTj (wh h)]
  rw[Zf (by omega) q,jBj];simp only[Bool.not_eq_true] at h;rw[h];rfl
theorem Qdo {n:Nat}(w:100<=n){g i:Int}{j l:Bool}{m o p:Int}{r:jVj}{s:jVj}{c:Int}{b:jSj}{d:jVj}{e:jSj}(f:List Off)(x:f.length<=40)(a:jSj){k:Ki}(t:b.data.toList=kw k)(u:kr k=[111]):QW n g i j l m o p r s (f.map Zj) c b [Sd a] d e=some (QF (!Zu (nmO f) a) 10):=by
 unfold QW;rw[JF n t,jBj,u];by_cases h:Zu (nmO f) a=true
 ·have q:Qj n g i j l m o p r s (f.map Zj) c b [Sd a] d e (mkS [111],(kv k:Int),true) 0=some (.inl 1):=by unfold Qj;dsimp only;rw[jTj (show(0:Int)<((mkS [111]).size:Int) by decide),show WQ (mkS [111]) 0=some 111 from rfl,jBj,jTj (by decide),gs0,at_o f a (by omega) (by omega),jBj,jFj (EY h),jTj (by decide)];rfl
  have v:Qj n g i j l m o p r s (f.map Zj) c b [Sd a] d e (mkS [111],(kv k:Int),true) 1=some (.inr (.inr ())):=by unfold Qj;dsimp only;rw[jFj (show ¬(1:Int)<((mkS [111]).size:Int) by decide)]
  rw[Wy (by omega) q,Zf (by omega) v,jBj,h];dsimp only;rw[jTj (show((mkS [111]).size:Int)>0 by decide),show WQ (mkS [111]) 0=some 111 from rfl,jBj,jFj (by decide)];rfl
 ·have q:Qj n g i j l m o p r s (f.map Zj) c b [Sd a] d e (mkS [111],(kv k:Int),true) 0=some (.inr (.inl ())):=by unfold Qj;dsimp only;rw[jTj (show(0:Int)<((mkS [111]).size:Int) by decide),show WQ (mkS [111]) 0=some 111 from rfl,jBj,jTj (by decide),gs0,at_o f a (by omega) (by omega),jBj,jTj (wh h)]
  rw[Zf (by omega) q,jBj];simp only[Bool.not_eq_true] at h;rw[h];rfl
theorem QdD {n:Nat}(A:100<=n){j l:Int}{m o:Bool}{p r s:Int}{t:jVj}{d:Int}{c:jSj}{e:jVj}{f:jSj}(i:List jSj)(C:i.length<=40)(ms:List Mir)(z:ms.length<=40)(a b:jSj){k:Ki}(w:c.data.toList=kw k)(x:kr k=[77,115]):QW n j l m o p r s (i.map Sd) (ms.map QY) t d c [Sd a,Sd b] e f=some (if Zu i b=true then QF (Zu (nmM ms) a) 9 else 10):=by
 unfold QW;rw[JF n w,jBj,x];have q:Qj n j l m o p r s (i.map Sd) (ms.map QY) t d c [Sd a,Sd b] e f (mkS [77,115],(kv k:Int),true) 0=some (.inl 1):=by unfold Qj;dsimp only;rw[jTj (show(0:Int)<((mkS [77,115]).size:Int) by decide),show WQ (mkS [77,115]) 0=some 77 from rfl,jBj,jFj (by decide),jTj (by decide)];rfl
 rw[Wy (by omega) q];by_cases h:Zu i b=true
 ·have u:Qj n j l m o p r s (i.map Sd) (ms.map QY) t d c [Sd a,Sd b] e f (mkS [77,115],(kv k:Int),true) 1=some (.inl 2):=by unfold Qj;dsimp only;rw[jTj (show(1:Int)<((mkS [77,115]).size:Int) by decide),show WQ (mkS [77,115]) 1=some 115 from rfl,jBj,jTj (by decide),gs1,at_s i b (by omega) (by omega),jBj,jFj (EY h),jTj (by decide)];rfl
  have y:Qj n j l m o p r s (i.map Sd) (ms.map QY) t d c [Sd a,Sd b] e f (mkS [77,115],(kv k:Int),true) 2=some (.inr (.inr ())):=by unfold Qj;dsimp only;rw[jFj (show ¬(2:Int)<((mkS [77,115]).size:Int) by decide)]
  rw[Wy (by omega) u,Zf (by omega) y,jBj,jTj h];dsimp only;rw[jTj (show((mkS [77,115]).size:Int)>0 by decide),show WQ (mkS [77,115]) 0=some 77 from rfl,jBj,jTj (by decide),gs0,show IntKind.wrap .u8 (IntKind.wrap .u8 (77+97) - 65)=109 from by decide,yT ms a (by omega) (by omega),jBj];unfold QF;by_cases g:Zu (nmM ms) a=true
  ·rw[jTj (XL.2 g),jTj g]
  ·rw[jFj (fun v=>g (XL.1 v)),jFj g]
 ·have u:Qj n j l m o p r s (i.map Sd) (ms.map QY) t d c [Sd a,Sd b] e f (mkS [77,115],(kv k:Int),true) 1=some (.inr (.inl ())):=by unfold Qj;dsimp only;rw[jTj (show(1:Int)<((mkS [77,115]).size:Int) by decide),show WQ (mkS [77,115]) 1=some 115 from rfl,jBj,jTj (by decide),gs1,at_s i b (by omega) (by omega),jBj,jTj (wh h)]
  rw[Zf (by omega) u,jBj,jFj h]
def Vc (r:Reg)(e:Int):Int×Int×Bool×Bool×Int×Int×Int×jVj×jVj×jVj×Int:=(r.tick,r.level,r.filled,r.tripped,r.light,r.heat,r.money,r.sectors.map Sd,r.mirrors.map QY,r.offers.map Zj,e)
theorem VB {x:Option (Int×Int×Bool×Bool×Int×Int×Int×jVj×jVj×jVj×Int)}{k:Ki}{r:Reg}{ns:List jSj}{vs:List Int}{t:Int}(e:Int)(d:e≠0)(a:spec k r ns vs=e)(h:x=some (Vc (bkd r t) e)) :
  ∃b,x=some (Vc b (spec k r ns vs))/\(spec k r ns vs=0->b=app k r ns vs):=⟨bkd r t,by rw[a];exact h,fun c=>absurd (a.symm.trans c) d⟩
theorem UX {x:Option (Int×Int×Bool×Bool×Int×Int×Int×jVj×jVj×jVj×Int)}{k:Ki}{r:Reg}{ns:List jSj}{vs:List Int}(b:spec k r ns vs=0)(h:x=some (Vc (app k r ns vs) 0)) :
  ∃a,x=some (Vc a (spec k r ns vs))/\(spec k r ns vs=0->a=app k r ns vs):=⟨_,by rw[b];exact h,fun _=>rfl⟩
theorem QaI {x lo hi:Int}(h:x>hi):inR x lo hi=3:=by
 unfold inR;by_cases a:x<lo
 ·rw[jTj a]
 ·rw[jFj a,jTj h]
theorem QaH {x lo hi:Int}(a:lo<=x)(b:x<=hi):inR x lo hi=0:=YC.2 ⟨a,b⟩
theorem QN {a:Int}(l:List Int)(h:a=0):Qt (a::l)=Qt l:=by unfold Qt;rw[jTj h];cases l<;>rfl
theorem QT {a:Int}(l:List Int)(h:a≠0):Qt (a::l)=a:=by unfold Qt;rw[jFj h]
theorem Wz {x:Int}:Qt [x]=x:=by
 simp only[Qt];split
 ·rename_i h;exact h.symm
 ·rfl
theorem El (e:Int):QF true e=e:=rfl
theorem Xb (e:Int):QF false e=0:=rfl
theorem QcR {n c:Nat}(u:100<=n){r:Reg}(l:Inv c r)(hc:c<=30){num:Int}{kind U:jSj}{names:List jSj}{E:List Int} :
  ∀{k:Ki},k≠.undo->Good (num,kind,names,E,U) k->∃s,QZ n r.tick r.level r.filled r.tripped r.light r.heat r.money (r.sectors.map Sd) (r.mirrors.map QY) (r.offers.map Zj) num kind (names.map Sd) (E.map I) U=some (Vc s (acc k r names E))/\(acc k r names E=0->s=app k r names E)
 | .sector,_,hg=>by
  have j:=hg.kind;dsimp only at j;have m:=j;dsimp only[kw] at m;obtain⟨a,t,rfl,rfl,o⟩:=hg.d11 rfl rfl;simp only[jCj,jnj];unfold QZ acc;rw[gi0];by_cases d:t<r.tick
  ·exact⟨r,by rw[jTj d,jTj (g0 d)];rfl,fun h=>by rw[jTj (g0 d)] at h;cases h⟩
  rw[jFj d,jFj (g0n d)];have v:okT r t:=okt d o;rw[Zs l (by omega) u v,jBj];show ∃s,_=some (Vc s (Qt [Zk r t,known .sector r [a],spec .sector r [a] [t]]))/\(Qt [Zk r t,known .sector r [a],spec .sector r [a] [t]]=0->_)
  by_cases g:Zk r t=0
  ·rw[jTj g,QN _ g];dsimp only;rw[jTj rfl,QdX u r.sectors (by have:=l.secs;omega) a j rfl,jBj];show ∃s,(if known .sector r [a]=0 then _ else _)=_/\_;by_cases f:known .sector r [a]=0
   ·rw[jTj f,QN _ f];rw[Wz,jTj (rzS l),jTj (rzM l (by omega)),jTj (rzO l (by omega))];(iterate 8 rw[jFj (kne m (by decide))])
    rw[jTj (keq m rfl)];have a8:=l.secs;have i:spec .sector r [a] [t]=QF ((r.sectors.length:Int)==8) 5:=rfl;by_cases h:((r.sectors.map Sd).length:Int)>=8
    ·have G:((r.sectors.length:Int)==8)=true:=by rw[jlj] at h;simp;omega
     exact VB (t:=t) 5 (by decide) (by rw[i,G];rfl) (by rw[jTj h];rfl)
    ·have G:((r.sectors.length:Int)==8)=false:=by rw[jlj] at h;simp;omega
     exact UX (by rw[i,G];rfl) (by rw[jFj h,gs0,jTj (V7 (by decide) (by rw[jlj];omega))];unfold Vc app act bkd;simp only[List.map_append];rfl)
   ·rw[jFj f,QT _ f];exact⟨r,rfl,fun h=>absurd h f⟩
  ·rw[jFj g,QT _ g];rw[bk4 g];exact⟨r,rfl,fun h=>by cases h⟩
 | .mirror,_,hg=>by
  have j:=hg.kind;dsimp only at j;have m:=j;dsimp only[kw] at m;obtain⟨a,b,t,p,rfl,rfl,o⟩:=hg.d22 rfl rfl;simp only[jCj,jnj];unfold QZ acc;rw[gi0];by_cases d:t<r.tick
  ·exact⟨r,by rw[jTj d,jTj (g0 d)];rfl,fun h=>by rw[jTj (g0 d)] at h;cases h⟩
  rw[jFj d,jFj (g0n d)];have v:okT r t:=okt d o;rw[Zs l (by omega) u v,jBj];show ∃s,_=some (Vc s (Qt [Zk r t,known .mirror r [a,b],spec .mirror r [a,b] [t,p]]))/\(Qt [Zk r t,known .mirror r [a,b],spec .mirror r [a,b] [t,p]]=0->_)
  by_cases g:Zk r t=0
  ·rw[jTj g,QN _ g];dsimp only;rw[jTj rfl,QdD u r.sectors (by have:=l.secs;omega) r.mirrors (by have:=l.lenM;omega) a b j rfl,jBj];show ∃s,(if known .mirror r [a,b]=0 then _ else _)=_/\_;by_cases f:known .mirror r [a,b]=0
   ·rw[jTj f,QN _ f];rw[Wz,jTj (rzS l),jTj (rzM l (by omega)),jTj (rzO l (by omega))];(iterate 9 rw[jFj (kne m (by decide))])
    rw[jTj (keq m rfl)];have a6:=l.lenM;have i:spec .mirror r [a,b] [t,p]=Qt [inR p 1 100,QF ((r.mirrors.length:Int)==32) 5]:=rfl;rw[gi1,YL,jBj];by_cases h:inR p 1 100=0
    ·rw[QN _ h] at i;have V:((r.mirrors.length:Int)==32)=false:=by simp;omega
     refine UX (by rw[i,V];rfl) (by rw[jFj (by simp[h]),jFj (by rw[jlj];omega),gs0,gs1,jTj (V7 (by decide) (by rw[jlj];omega))];unfold Vc app act bkd;simp only[List.map_append];rfl)
    ·have h':=(qO p 1 100).resolve_left h;exact VB (t:=t) 3 (by decide) (by rw[i,h'];rfl) (by rw[jTj (by simp[h])];rfl)
   ·rw[jFj f,QT _ f];exact⟨r,rfl,fun h=>absurd h f⟩
  ·rw[jFj g,QT _ g];rw[bk4 g];exact⟨r,rfl,fun h=>by cases h⟩
 | .soil,_,hg=>by
  have j:=hg.kind;dsimp only at j;have m:=j;dsimp only[kw] at m;obtain⟨a,t,p,rfl,rfl,o⟩:=hg.d12 rfl rfl;simp only[jCj,jnj];unfold QZ acc;rw[gi0];by_cases d:t<r.tick
  ·exact⟨r,by rw[jTj d,jTj (g0 d)];rfl,fun h=>by rw[jTj (g0 d)] at h;cases h⟩
  rw[jFj d,jFj (g0n d)];have v:okT r t:=okt d o;rw[Zs l (by omega) u v,jBj];show ∃s,_=some (Vc s (Qt [Zk r t,known .soil r [a],spec .soil r [a] [t,p]]))/\(Qt [Zk r t,known .soil r [a],spec .soil r [a] [t,p]]=0->_)
  by_cases g:Zk r t=0
  ·rw[jTj g,QN _ g];dsimp only;rw[jTj rfl,kQ u r.mirrors (by have:=l.lenM;omega) a j rfl,jBj];show ∃s,(if known .soil r [a]=0 then _ else _)=_/\_;by_cases f:known .soil r [a]=0
   ·rw[jTj f,QN _ f];rw[Wz,jTj (rzS l),jTj (rzM l (by omega)),jTj (rzO l (by omega))];(iterate 11 rw[jFj (kne m (by decide))])
    have A:Zu (nmM r.mirrors) a=true:=ZW f;obtain⟨y,z,C⟩:=WP A;have w:=Jl y z;have q:Int.toNat (YJ (nmM r.mirrors) a)<(r.mirrors.map QY).length:=by rw[y,jlj,jtj];exact z
    rw[gs0,yT _ _ (by have:=l.lenM;omega) (by have:=l.lenM;omega),jBj,jTj w];rw[y] at q ⊢;rw[Q4 unM C,jBj];rw[jTj (keq m rfl),gi1];by_cases h:p>1000
    ·exact VB (t:=t) 3 (by decide) (QaI h) (by rw[jTj h];rfl)
    ·exact UX (QaH (x:=p) (lo:=0) (hi:=1000) (hg.val p (by simp)).1 (by omega)) (by rw[jFj h];rw[jTj q,show some (Vc (app .soil r [a] [t,p]) 0)=some ((rtE r t (r.sectors.map Sd) ((r.mirrors.set (iM r.mirrors a) (X8 (mAt r.mirrors a) p)).map QY) (r.offers.map Zj))) from rfl,<-WH,jtj];rfl)
   ·rw[jFj f,QT _ f];exact⟨r,rfl,fun h=>absurd h f⟩
  ·rw[jFj g,QT _ g];rw[bk4 g];exact⟨r,rfl,fun h=>by cases h⟩
 | .clean,_,hg=>by
  have j:=hg.kind;dsimp only at j;have m:=j;dsimp only[kw] at m;obtain⟨a,t,rfl,rfl,o⟩:=hg.d11 rfl rfl;simp only[jCj,jnj];unfold QZ acc;rw[gi0];by_cases d:t<r.tick
  ·exact⟨r,by rw[jTj d,jTj (g0 d)];rfl,fun h=>by rw[jTj (g0 d)] at h;cases h⟩
  rw[jFj d,jFj (g0n d)];have v:okT r t:=okt d o;rw[Zs l (by omega) u v,jBj];show ∃s,_=some (Vc s (Qt [Zk r t,known .clean r [a],spec .clean r [a] [t]]))/\(Qt [Zk r t,known .clean r [a],spec .clean r [a] [t]]=0->_)
  by_cases g:Zk r t=0
  ·rw[jTj g,QN _ g];dsimp only;rw[jTj rfl,kQ u r.mirrors (by have:=l.lenM;omega) a j rfl,jBj];show ∃s,(if known .clean r [a]=0 then _ else _)=_/\_;by_cases f:known .clean r [a]=0
   ·rw[jTj f,QN _ f];rw[Wz,jTj (rzS l),jTj (rzM l (by omega)),jTj (rzO l (by omega))];(iterate 11 rw[jFj (kne m (by decide))])
    have A:Zu (nmM r.mirrors) a=true:=ZW f;obtain⟨y,z,C⟩:=WP A;have w:=Jl y z;have q:Int.toNat (YJ (nmM r.mirrors) a)<(r.mirrors.map QY).length:=by rw[y,jlj,jtj];exact z
    rw[gs0,yT _ _ (by have:=l.lenM;omega) (by have:=l.lenM;omega),jBj,jTj w];rw[y] at q ⊢;rw[Q4 unM C,jBj];rw[jFj (kne m (by decide)),jTj (keq m rfl)];exact UX rfl (by rw[jTj q,show some (Vc (app .clean r [a] [t]) 0)=some ((rtE r t (r.sectors.map Sd) ((r.mirrors.set (iM r.mirrors a) (X8 (mAt r.mirrors a) 0)).map QY) (r.offers.map Zj))) from rfl,<-WH,jtj];rfl)
   ·rw[jFj f,QT _ f];exact⟨r,rfl,fun h=>absurd h f⟩
  ·rw[jFj g,QT _ g];rw[bk4 g];exact⟨r,rfl,fun h=>by cases h⟩
 | .defect,_,hg=>by
  have j:=hg.kind;dsimp only at j;have m:=j;dsimp only[kw] at m;obtain⟨a,t,rfl,rfl,o⟩:=hg.d11 rfl rfl;simp only[jCj,jnj];unfold QZ acc;rw[gi0];by_cases d:t<r.tick
  ·exact⟨r,by rw[jTj d,jTj (g0 d)];rfl,fun h=>by rw[jTj (g0 d)] at h;cases h⟩
  rw[jFj d,jFj (g0n d)];have v:okT r t:=okt d o;rw[Zs l (by omega) u v,jBj];show ∃s,_=some (Vc s (Qt [Zk r t,known .defect r [a],spec .defect r [a] [t]]))/\(Qt [Zk r t,known .defect r [a],spec .defect r [a] [t]]=0->_)
  by_cases g:Zk r t=0
  ·rw[jTj g,QN _ g];dsimp only;rw[jTj rfl,kQ u r.mirrors (by have:=l.lenM;omega) a j rfl,jBj];show ∃s,(if known .defect r [a]=0 then _ else _)=_/\_;by_cases f:known .defect r [a]=0
   ·rw[jTj f,QN _ f];rw[Wz,jTj (rzS l),jTj (rzM l (by omega)),jTj (rzO l (by omega))];(iterate 11 rw[jFj (kne m (by decide))])
    have A:Zu (nmM r.mirrors) a=true:=ZW f;obtain⟨y,z,C⟩:=WP A;have w:=Jl y z;have q:Int.toNat (YJ (nmM r.mirrors) a)<(r.mirrors.map QY).length:=by rw[y,jlj,jtj];exact z
    rw[gs0,yT _ _ (by have:=l.lenM;omega) (by have:=l.lenM;omega),jBj,jTj w];rw[y] at q ⊢;rw[Q4 unM C,jBj];rw[jFj (kne m (by decide)),jFj (kne m (by decide)),jTj (keq m rfl)];have i:spec .defect r [a] [t]=Qt [QF (mAt r.mirrors a).2.2.2.2.1 9,QF (mAt r.mirrors a).2.2.2.2.2 31]:=rfl;cases hd:(mAt r.mirrors a).2.2.2.2.1 with
    | true=>exact VB (t:=t) 9 (by decide) (by rw[i,hd];rfl) (by rw[jTj rfl];rfl)
    | false =>
     rw[jFj (by decide)];cases P:(mAt r.mirrors a).2.2.2.2.2 with
     | true=>exact VB (t:=t) 31 (by decide) (by rw[i,hd,P];rfl) (by rw[jTj rfl];rfl)
     | false =>
      have W:zU (mAt r.mirrors a) true=((mAt r.mirrors a).1,(mAt r.mirrors a).2.1,(mAt r.mirrors a).2.2.1,(mAt r.mirrors a).2.2.2.1,true,false):=by unfold zU;rw[P]
      exact UX (by rw[i,hd,P];rfl) (by rw[jFj (by decide)];rw[jTj q,show some (Vc (app .defect r [a] [t]) 0)=some ((rtE r t (r.sectors.map Sd) ((r.mirrors.set (iM r.mirrors a) (zU (mAt r.mirrors a) true)).map QY) (r.offers.map Zj))) from rfl,W,<-WH,jtj];rfl)
   ·rw[jFj f,QT _ f];exact⟨r,rfl,fun h=>absurd h f⟩
  ·rw[jFj g,QT _ g];rw[bk4 g];exact⟨r,rfl,fun h=>by cases h⟩
 | .repair,_,hg=>by
  have j:=hg.kind;dsimp only at j;have m:=j;dsimp only[kw] at m;obtain⟨a,t,rfl,rfl,o⟩:=hg.d11 rfl rfl;simp only[jCj,jnj];unfold QZ acc;rw[gi0];by_cases d:t<r.tick
  ·exact⟨r,by rw[jTj d,jTj (g0 d)];rfl,fun h=>by rw[jTj (g0 d)] at h;cases h⟩
  rw[jFj d,jFj (g0n d)];have v:okT r t:=okt d o;rw[Zs l (by omega) u v,jBj];show ∃s,_=some (Vc s (Qt [Zk r t,known .repair r [a],spec .repair r [a] [t]]))/\(Qt [Zk r t,known .repair r [a],spec .repair r [a] [t]]=0->_)
  by_cases g:Zk r t=0
  ·rw[jTj g,QN _ g];dsimp only;rw[jTj rfl,kQ u r.mirrors (by have:=l.lenM;omega) a j rfl,jBj];show ∃s,(if known .repair r [a]=0 then _ else _)=_/\_;by_cases f:known .repair r [a]=0
   ·rw[jTj f,QN _ f];rw[Wz,jTj (rzS l),jTj (rzM l (by omega)),jTj (rzO l (by omega))];(iterate 11 rw[jFj (kne m (by decide))])
    have A:Zu (nmM r.mirrors) a=true:=ZW f;obtain⟨y,z,C⟩:=WP A;have w:=Jl y z;have q:Int.toNat (YJ (nmM r.mirrors) a)<(r.mirrors.map QY).length:=by rw[y,jlj,jtj];exact z
    rw[gs0,yT _ _ (by have:=l.lenM;omega) (by have:=l.lenM;omega),jBj,jTj w];rw[y] at q ⊢;rw[Q4 unM C,jBj];(iterate 3 rw[jFj (kne m (by decide))])
    rw[jTj (keq m rfl)];have i:spec .repair r [a] [t]=QF (!(mAt r.mirrors a).2.2.2.2.1) 22:=rfl;cases hd:(mAt r.mirrors a).2.2.2.2.1 with
    | false=>exact VB (t:=t) 22 (by decide) (by rw[i,hd];rfl) (by rw[jFj (by decide)];rfl)
    | true=>exact UX (by rw[i,hd];rfl) (by rw[jTj rfl];rw[jTj q,show some (Vc (app .repair r [a] [t]) 0)=some ((rtE r t (r.sectors.map Sd) ((r.mirrors.set (iM r.mirrors a) (zU (mAt r.mirrors a) false)).map QY) (r.offers.map Zj))) from rfl,<-WH,jtj];rfl)
   ·rw[jFj f,QT _ f];exact⟨r,rfl,fun h=>absurd h f⟩
  ·rw[jFj g,QT _ g];rw[bk4 g];exact⟨r,rfl,fun h=>by cases h⟩
 | .aim,_,hg=>by
  have j:=hg.kind;dsimp only at j;have m:=j;dsimp only[kw] at m;obtain⟨a,t,rfl,rfl,o⟩:=hg.d11 rfl rfl;simp only[jCj,jnj];unfold QZ acc;rw[gi0];by_cases d:t<r.tick
  ·exact⟨r,by rw[jTj d,jTj (g0 d)];rfl,fun h=>by rw[jTj (g0 d)] at h;cases h⟩
  rw[jFj d,jFj (g0n d)];have v:okT r t:=okt d o;rw[Zs l (by omega) u v,jBj];show ∃s,_=some (Vc s (Qt [Zk r t,known .aim r [a],spec .aim r [a] [t]]))/\(Qt [Zk r t,known .aim r [a],spec .aim r [a] [t]]=0->_)
  by_cases g:Zk r t=0
  ·rw[jTj g,QN _ g];dsimp only;rw[jTj rfl,kQ u r.mirrors (by have:=l.lenM;omega) a j rfl,jBj];show ∃s,(if known .aim r [a]=0 then _ else _)=_/\_;by_cases f:known .aim r [a]=0
   ·rw[jTj f,QN _ f];rw[Wz,jTj (rzS l),jTj (rzM l (by omega)),jTj (rzO l (by omega))];(iterate 11 rw[jFj (kne m (by decide))])
    have A:Zu (nmM r.mirrors) a=true:=ZW f;obtain⟨y,z,C⟩:=WP A;have w:=Jl y z;have q:Int.toNat (YJ (nmM r.mirrors) a)<(r.mirrors.map QY).length:=by rw[y,jlj,jtj];exact z
    rw[gs0,yT _ _ (by have:=l.lenM;omega) (by have:=l.lenM;omega),jBj,jTj w];rw[y] at q ⊢;rw[Q4 unM C,jBj];(iterate 4 rw[jFj (kne m (by decide))])
    rw[jTj (keq m rfl)];have i:spec .aim r [a] [t]=Qt [QF (!r.filled) 30,QF r.tripped 29,QF (mAt r.mirrors a).2.2.2.2.1 21,QF (mAt r.mirrors a).2.2.2.2.2 9]:=rfl;cases hf:r.filled with
    | false=>exact VB (t:=t) 30 (by decide) (by rw[i,hf];rfl) (by rw[jFj (by decide)];unfold Vc bkd;rw[hf])
    | true =>
     rw[jTj rfl];cases htr:r.tripped with
     | true=>exact VB (t:=t) 29 (by decide) (by rw[i,hf,htr];rfl) (by rw[jTj rfl];unfold Vc bkd;rw[hf,htr])
     | false =>
      rw[jFj (by decide)];cases hd:(mAt r.mirrors a).2.2.2.2.1 with
      | true=>exact VB (t:=t) 21 (by decide) (by rw[i,hf,htr,hd];rfl) (by rw[jTj rfl];unfold Vc bkd;rw[hf,htr])
      | false =>
       rw[jFj (by decide)];cases P:(mAt r.mirrors a).2.2.2.2.2 with
       | true=>exact VB (t:=t) 9 (by decide) (by rw[i,hf,htr,hd,P];rfl) (by rw[jTj rfl];unfold Vc bkd;rw[hf,htr])
       | false =>
        have W:aimM (mAt r.mirrors a)=((mAt r.mirrors a).1,(mAt r.mirrors a).2.1,(mAt r.mirrors a).2.2.1,(mAt r.mirrors a).2.2.2.1,false,true):=by unfold aimM;rw[hd]
        exact UX (by rw[i,hf,htr,hd,P];rfl) (by rw[jFj (by decide)];rw[jTj q,show some (Vc (app .aim r [a] [t]) 0)=some ((rtE r t (r.sectors.map Sd) ((r.mirrors.set (iM r.mirrors a) (aimM (mAt r.mirrors a))).map QY) (r.offers.map Zj))) from rfl,rtE,W,<-WH,jtj,hf,htr];rfl)
   ·rw[jFj f,QT _ f];exact⟨r,rfl,fun h=>absurd h f⟩
  ·rw[jFj g,QT _ g];rw[bk4 g];exact⟨r,rfl,fun h=>by cases h⟩
 | .park,_,hg=>by
  have j:=hg.kind;dsimp only at j;have m:=j;dsimp only[kw] at m;obtain⟨a,t,rfl,rfl,o⟩:=hg.d11 rfl rfl;simp only[jCj,jnj];unfold QZ acc;rw[gi0];by_cases d:t<r.tick
  ·exact⟨r,by rw[jTj d,jTj (g0 d)];rfl,fun h=>by rw[jTj (g0 d)] at h;cases h⟩
  rw[jFj d,jFj (g0n d)];have v:okT r t:=okt d o;rw[Zs l (by omega) u v,jBj];show ∃s,_=some (Vc s (Qt [Zk r t,known .park r [a],spec .park r [a] [t]]))/\(Qt [Zk r t,known .park r [a],spec .park r [a] [t]]=0->_)
  by_cases g:Zk r t=0
  ·rw[jTj g,QN _ g];dsimp only;rw[jTj rfl,kQ u r.mirrors (by have:=l.lenM;omega) a j rfl,jBj];show ∃s,(if known .park r [a]=0 then _ else _)=_/\_;by_cases f:known .park r [a]=0
   ·rw[jTj f,QN _ f];rw[Wz,jTj (rzS l),jTj (rzM l (by omega)),jTj (rzO l (by omega))];(iterate 11 rw[jFj (kne m (by decide))])
    have A:Zu (nmM r.mirrors) a=true:=ZW f;obtain⟨y,z,C⟩:=WP A;have w:=Jl y z;have q:Int.toNat (YJ (nmM r.mirrors) a)<(r.mirrors.map QY).length:=by rw[y,jlj,jtj];exact z
    rw[gs0,yT _ _ (by have:=l.lenM;omega) (by have:=l.lenM;omega),jBj,jTj w];rw[y] at q ⊢;rw[Q4 unM C,jBj];(iterate 5 rw[jFj (kne m (by decide))])
    have i:spec .park r [a] [t]=QF (!(mAt r.mirrors a).2.2.2.2.2) 22:=rfl;cases P:(mAt r.mirrors a).2.2.2.2.2 with
    | false=>exact VB (t:=t) 22 (by decide) (by rw[i,P];rfl) (by rw[jFj (by decide)];rfl)
    | true=>exact UX (by rw[i,P];rfl) (by rw[jTj rfl];rw[jTj q,show some (Vc (app .park r [a] [t]) 0)=some ((rtE r t (r.sectors.map Sd) ((r.mirrors.set (iM r.mirrors a) (Ka (mAt r.mirrors a))).map QY) (r.offers.map Zj))) from rfl,<-WH,jtj];rfl)
   ·rw[jFj f,QT _ f];exact⟨r,rfl,fun h=>absurd h f⟩
  ·rw[jFj g,QT _ g];rw[bk4 g];exact⟨r,rfl,fun h=>by cases h⟩
 | .dim,_,hg=>by
  have j:=hg.kind;dsimp only at j;have m:=j;dsimp only[kw] at m;obtain⟨a,t,rfl,rfl,o⟩:=hg.d11 rfl rfl;simp only[jCj,jnj];unfold QZ acc;rw[gi0];by_cases d:t<r.tick
  ·exact⟨r,by rw[jTj d,jTj (g0 d)];rfl,fun h=>by rw[jTj (g0 d)] at h;cases h⟩
  rw[jFj d,jFj (g0n d)];have v:okT r t:=okt d o;rw[Zs l (by omega) u v,jBj];show ∃s,_=some (Vc s (Qt [Zk r t,known .dim r [a],spec .dim r [a] [t]]))/\(Qt [Zk r t,known .dim r [a],spec .dim r [a] [t]]=0->_)
  by_cases g:Zk r t=0
  ·rw[jTj g,QN _ g];dsimp only;rw[jTj rfl,QdW u r.sectors (by have:=l.secs;omega) a j rfl,jBj];show ∃s,(if known .dim r [a]=0 then _ else _)=_/\_;by_cases f:known .dim r [a]=0
   ·rw[jTj f,QN _ f];rw[Wz,jTj (rzS l),jTj (rzM l (by omega)),jTj (rzO l (by omega))];(iterate 10 rw[jFj (kne m (by decide))])
    rw[jTj (keq m rfl)];exact UX rfl (by rw[gs0,Qch _ (by have:=l.lenM;omega) (by have:=l.lenM;omega),jBj];rfl)
   ·rw[jFj f,QT _ f];exact⟨r,rfl,fun h=>absurd h f⟩
  ·rw[jFj g,QT _ g];rw[bk4 g];exact⟨r,rfl,fun h=>by cases h⟩
 | .sun,_,hg=>by
  have j:=hg.kind;dsimp only at j;have m:=j;dsimp only[kw] at m;obtain⟨t,p,rfl,rfl,o⟩:=hg.d02 rfl rfl;simp only[jCj,jnj];unfold QZ acc;rw[gi0];by_cases d:t<r.tick
  ·exact⟨r,by rw[jTj d,jTj (g0 d)];rfl,fun h=>by rw[jTj (g0 d)] at h;cases h⟩
  rw[jFj d,jFj (g0n d)];have v:okT r t:=okt d o;rw[Zs l (by omega) u v,jBj];show ∃s,_=some (Vc s (Qt [Zk r t,known .sun r [],spec .sun r [] [t,p]]))/\(Qt [Zk r t,known .sun r [],spec .sun r [] [t,p]]=0->_)
  by_cases g:Zk r t=0
  ·rw[jTj g,QN _ g];dsimp only;rw[jTj rfl,qm u j rfl,jBj];show ∃s,(if known .sun r []=0 then _ else _)=_/\_;by_cases f:known .sun r []=0
   ·rw[jTj f,QN _ f];rw[Wz,jTj (rzS l),jTj (rzM l (by omega)),jTj (rzO l (by omega))];rw[jTj (keq m rfl)];rw[gi1];by_cases h:p>1000
    ·exact VB (t:=t) 3 (by decide) (QaI h) (by rw[jTj h];rfl)
    ·exact UX (QaH (x:=p) (lo:=0) (hi:=1000) (hg.val p (by simp)).1 (by omega)) (by rw[jFj h];rfl)
   ·rw[jFj f,QT _ f];exact⟨r,rfl,fun h=>absurd h f⟩
  ·rw[jFj g,QT _ g];rw[bk4 g];exact⟨r,rfl,fun h=>by cases h⟩
 | .fill,_,hg=>by
  have j:=hg.kind;dsimp only at j;have m:=j;dsimp only[kw] at m;obtain⟨t,rfl,rfl,o⟩:=hg.d01 rfl rfl;simp only[jCj,jnj];unfold QZ acc;rw[gi0];by_cases d:t<r.tick
  ·exact⟨r,by rw[jTj d,jTj (g0 d)];rfl,fun h=>by rw[jTj (g0 d)] at h;cases h⟩
  rw[jFj d,jFj (g0n d)];have v:okT r t:=okt d o;rw[Zs l (by omega) u v,jBj];show ∃s,_=some (Vc s (Qt [Zk r t,known .fill r [],spec .fill r [] [t]]))/\(Qt [Zk r t,known .fill r [],spec .fill r [] [t]]=0->_)
  by_cases g:Zk r t=0
  ·rw[jTj g,QN _ g];dsimp only;rw[jTj rfl,qm u j rfl,jBj];show ∃s,(if known .fill r []=0 then _ else _)=_/\_;by_cases f:known .fill r []=0
   ·rw[jTj f,QN _ f];rw[Wz,jTj (rzS l),jTj (rzM l (by omega)),jTj (rzO l (by omega))];(iterate 1 rw[jFj (kne m (by decide))])
    rw[jTj (keq m rfl)];cases hf:r.filled with
    | true=>exact VB (t:=t) 9 (by decide) (by unfold spec;rw[hf];rfl) (by rw[jTj rfl];unfold Vc bkd;rw[hf])
    | false=>exact UX (by unfold spec;rw[hf];rfl) (by rw[jFj (by decide)];rfl)
   ·rw[jFj f,QT _ f];exact⟨r,rfl,fun h=>absurd h f⟩
  ·rw[jFj g,QT _ g];rw[bk4 g];exact⟨r,rfl,fun h=>by cases h⟩
 | .drain,_,hg=>by
  have j:=hg.kind;dsimp only at j;have m:=j;dsimp only[kw] at m;obtain⟨t,rfl,rfl,o⟩:=hg.d01 rfl rfl;simp only[jCj,jnj];unfold QZ acc;rw[gi0];by_cases d:t<r.tick
  ·exact⟨r,by rw[jTj d,jTj (g0 d)];rfl,fun h=>by rw[jTj (g0 d)] at h;cases h⟩
  rw[jFj d,jFj (g0n d)];have v:okT r t:=okt d o;rw[Zs l (by omega) u v,jBj];show ∃s,_=some (Vc s (Qt [Zk r t,known .drain r [],spec .drain r [] [t]]))/\(Qt [Zk r t,known .drain r [],spec .drain r [] [t]]=0->_)
  by_cases g:Zk r t=0
  ·rw[jTj g,QN _ g];dsimp only;rw[jTj rfl,qm u j rfl,jBj];show ∃s,(if known .drain r []=0 then _ else _)=_/\_;by_cases f:known .drain r []=0
   ·rw[jTj f,QN _ f];rw[Wz,jTj (rzS l),jTj (rzM l (by omega)),jTj (rzO l (by omega))];(iterate 2 rw[jFj (kne m (by decide))])
    rw[jTj (keq m rfl)];cases hf:r.filled with
    | true =>
     rw[jTj rfl,zy _ (by have:=l.lenM;omega) (by have:=l.lenM;omega),jBj];have T:((((YQ r.mirrors).map Sd).length:Int)>0)↔r.mirrors.any isA=true:=by
      unfold YQ;rw[jlj,jlj,List.any_eq_true];constructor
      ·intro h;have:(r.mirrors.filter isA).length≠0:=by omega
       obtain⟨x,hx⟩:=List.exists_mem_of_length_pos (Nat.pos_of_ne_zero this);exact⟨x,(List.mem_filter.1 hx).1,(List.mem_filter.1 hx).2⟩
      ·rintro⟨x,F,K⟩;have:=List.length_pos_of_mem (List.mem_filter.2 ⟨F,K⟩);omega
     by_cases h:r.mirrors.any isA=true
     ·exact VB (t:=t) 31 (by decide) (by unfold spec;rw[hf,h];rfl) (by rw[jTj (T.2 h)];unfold Vc bkd;rw[hf])
     ·refine UX (by unfold spec;simp only[Bool.not_eq_true] at h;rw[hf,h];rfl) (by rw[jFj (fun A=>h (T.1 A))];rfl)
    | false=>exact VB (t:=t) 22 (by decide) (by unfold spec;rw[hf];rfl) (by rw[jFj (by decide)];unfold Vc bkd;rw[hf])
   ·rw[jFj f,QT _ f];exact⟨r,rfl,fun h=>absurd h f⟩
  ·rw[jFj g,QT _ g];rw[bk4 g];exact⟨r,rfl,fun h=>by cases h⟩
 | .trip,_,hg=>by
  have j:=hg.kind;dsimp only at j;have m:=j;dsimp only[kw] at m;obtain⟨t,rfl,rfl,o⟩:=hg.d01 rfl rfl;simp only[jCj,jnj];unfold QZ acc;rw[gi0];by_cases d:t<r.tick
  ·exact⟨r,by rw[jTj d,jTj (g0 d)];rfl,fun h=>by rw[jTj (g0 d)] at h;cases h⟩
  rw[jFj d,jFj (g0n d)];have v:okT r t:=okt d o;rw[Zs l (by omega) u v,jBj];show ∃s,_=some (Vc s (Qt [Zk r t,known .trip r [],spec .trip r [] [t]]))/\(Qt [Zk r t,known .trip r [],spec .trip r [] [t]]=0->_)
  by_cases g:Zk r t=0
  ·rw[jTj g,QN _ g];dsimp only;rw[jTj rfl,qm u j rfl,jBj];show ∃s,(if known .trip r []=0 then _ else _)=_/\_;by_cases f:known .trip r []=0
   ·rw[jTj f,QN _ f];rw[Wz,jTj (rzS l),jTj (rzM l (by omega)),jTj (rzO l (by omega))];(iterate 3 rw[jFj (kne m (by decide))])
    rw[jTj (keq m rfl)];cases hf:r.tripped with
    | true=>exact VB (t:=t) 9 (by decide) (by unfold spec;rw[hf];rfl) (by rw[jTj rfl];unfold Vc bkd;rw[hf])
    | false=>exact UX (by unfold spec;rw[hf];rfl) (by rw[jFj (by decide),Qcg _ (by have:=l.lenM;omega) (by have:=l.lenM;omega),jBj];rfl)
   ·rw[jFj f,QT _ f];exact⟨r,rfl,fun h=>absurd h f⟩
  ·rw[jFj g,QT _ g];rw[bk4 g];exact⟨r,rfl,fun h=>by cases h⟩
 | .reset,_,hg=>by
  have j:=hg.kind;dsimp only at j;have m:=j;dsimp only[kw] at m;obtain⟨t,rfl,rfl,o⟩:=hg.d01 rfl rfl;simp only[jCj,jnj];unfold QZ acc;rw[gi0];by_cases d:t<r.tick
  ·exact⟨r,by rw[jTj d,jTj (g0 d)];rfl,fun h=>by rw[jTj (g0 d)] at h;cases h⟩
  rw[jFj d,jFj (g0n d)];have v:okT r t:=okt d o;rw[Zs l (by omega) u v,jBj];show ∃s,_=some (Vc s (Qt [Zk r t,known .reset r [],spec .reset r [] [t]]))/\(Qt [Zk r t,known .reset r [],spec .reset r [] [t]]=0->_)
  by_cases g:Zk r t=0
  ·rw[jTj g,QN _ g];dsimp only;rw[jTj rfl,qm u j rfl,jBj];show ∃s,(if known .reset r []=0 then _ else _)=_/\_;by_cases f:known .reset r []=0
   ·rw[jTj f,QN _ f];rw[Wz,jTj (rzS l),jTj (rzM l (by omega)),jTj (rzO l (by omega))];(iterate 4 rw[jFj (kne m (by decide))])
    rw[jTj (keq m rfl)];cases hf:r.tripped with
    | true=>exact UX (by unfold spec;rw[hf];rfl) (by rw[jTj rfl];rfl)
    | false=>exact VB (t:=t) 22 (by decide) (by unfold spec;rw[hf];rfl) (by rw[jFj (by decide)];unfold Vc bkd;rw[hf])
   ·rw[jFj f,QT _ f];exact⟨r,rfl,fun h=>absurd h f⟩
  ·rw[jFj g,QT _ g];rw[bk4 g];exact⟨r,rfl,fun h=>by cases h⟩
 | .offer,_,hg=>by
  have j:=hg.kind;dsimp only at j;have m:=j;dsimp only[kw] at m;obtain⟨a,t,p,O,H,J,rfl,rfl,o⟩:=hg.d15 rfl rfl;simp only[jCj,jnj];unfold QZ acc;rw[gi0];by_cases d:t<r.tick
  ·exact⟨r,by rw[jTj d,jTj (g0 d)];rfl,fun h=>by rw[jTj (g0 d)] at h;cases h⟩
  rw[jFj d,jFj (g0n d)];have v:okT r t:=okt d o;rw[Zs l (by omega) u v,jBj];show ∃s,_=some (Vc s (Qt [Zk r t,known .offer r [a],spec .offer r [a] [t,p,O,H,J]]))/\(Qt [Zk r t,known .offer r [a],spec .offer r [a] [t,p,O,H,J]]=0->_)
  by_cases g:Zk r t=0
  ·rw[jTj g,QN _ g];dsimp only;rw[jTj rfl,QdY u r.offers (by have:=l.lenO;omega) a j rfl,jBj];show ∃s,(if known .offer r [a]=0 then _ else _)=_/\_;by_cases f:known .offer r [a]=0
   ·rw[jTj f,QN _ f];rw[Wz,jTj (rzS l),jTj (rzM l (by omega)),jTj (rzO l (by omega))];(iterate 5 rw[jFj (kne m (by decide))])
    rw[jTj (keq m rfl)];rw[gi1];have i:spec .offer r [a] [t,p,O,H,J]=Qt [ws [t,p,O,H,J],inR H 1 1000,inR J 0 1000,QF ((r.offers.length:Int)==32) 5]:=rfl;by_cases F:p<t
    ·exact VB (t:=t) 14 (by decide) (by rw[i];unfold ws;rw[jTj (show[t,p,O,H,J].getD 1 0<[t,p,O,H,J].getD 0 0 from F)];rfl) (by rw[jTj F];rfl)
    rw[jFj F,gi2];have N:ws [t,p,O,H,J]=QF (decide (p>=O)) 14:=by unfold ws;rw[jFj (show ¬[t,p,O,H,J].getD 1 0<[t,p,O,H,J].getD 0 0 from F)];rfl
    by_cases K:p>=O
    ·exact VB (t:=t) 14 (by decide) (by rw[i,N,jDj K];rfl) (by rw[jTj K];rfl)
    rw[jFj K,gi3,YL,jBj];rw[N,jEj K,Xb,QN _ rfl] at i;by_cases Q:inR H 1 1000=0
    ·rw[jFj (by simp[Q]),gi4];rw[QN _ Q] at i;have a2:=hg.val J (by simp);by_cases S:J>1000
     ·exact VB (t:=t) 3 (by decide) (by rw[i,QaI S];rfl) (by rw[jTj S];rfl)
     ·rw[QN _ (QaH a2.1 (by omega))] at i;have a7:=l.lenO;have a1:¬(((r.offers.map Zj).length:Int)>=32):=by rw[jlj];omega
      have V:((r.offers.length:Int)==32)=false:=by simp;omega
      refine UX (by rw[i,V];rfl) (by rw[jFj S,jFj a1,gs0,jTj (V7 (by decide) (by rw[jlj];omega))];unfold Vc app act bkd;simp only[List.map_append];rfl)
    ·have L:=(qO H 1 1000).resolve_left Q;exact VB (t:=t) 3 (by decide) (by rw[i,L];rfl) (by rw[jTj (by simp[Q])];rfl)
   ·rw[jFj f,QT _ f];exact⟨r,rfl,fun h=>absurd h f⟩
  ·rw[jFj g,QT _ g];rw[bk4 g];exact⟨r,rfl,fun h=>by cases h⟩
 | .deliver,_,hg=>by
  have j:=hg.kind;dsimp only at j;have m:=j;dsimp only[kw] at m;obtain⟨a,t,p,rfl,rfl,o⟩:=hg.d12 rfl rfl;simp only[jCj,jnj];unfold QZ acc;rw[gi0];by_cases d:t<r.tick
  ·exact⟨r,by rw[jTj d,jTj (g0 d)];rfl,fun h=>by rw[jTj (g0 d)] at h;cases h⟩
  rw[jFj d,jFj (g0n d)];have v:okT r t:=okt d o;rw[Zs l (by omega) u v,jBj];show ∃s,_=some (Vc s (Qt [Zk r t,known .deliver r [a],spec .deliver r [a] [t,p]]))/\(Qt [Zk r t,known .deliver r [a],spec .deliver r [a] [t,p]]=0->_)
  by_cases g:Zk r t=0
  ·rw[jTj g,QN _ g];dsimp only;rw[jTj rfl,Qdo u r.offers (by have:=l.lenO;omega) a j rfl,jBj];show ∃s,(if known .deliver r [a]=0 then _ else _)=_/\_;by_cases f:known .deliver r [a]=0
   ·rw[jTj f,QN _ f];rw[Wz,jTj (rzS l),jTj (rzM l (by omega)),jTj (rzO l (by omega))];(iterate 6 rw[jFj (kne m (by decide))])
    rw[jTj (keq m rfl)];have A:Zu (nmO r.offers) a=true:=ZW f;obtain⟨y,z,C⟩:=JV A;have M:=l.offs _ (jgj C);have w:=uS y z;rw[gs0,at_o _ _ (by have:=l.lenO;omega) (by have:=l.lenO;omega),jBj,jTj w,y,Q4 unO C,jBj];have Y:=M;obtain⟨b2,b3,b4⟩:=Y;have a9:=hg.val p (by simp);have a4:=K4 l (by omega) v;have a5:=l.heat;have i:spec .deliver r [a] [t,p]=if Qt [QF (oAt r.offers a).2.2.2.2.2.2 23,(if t<(oAt r.offers a).2.1 then 14 else QF (decide (t>=(oAt r.offers a).2.2.1)) 14),QF (p==0) 3,QF (decide (p>Ws (oAt r.offers a))) 20]=0
     then QF (decide (p*1000000>r.heat+ZL r t)) 16
     else Qt [QF (oAt r.offers a).2.2.2.2.2.2 23,(if t<(oAt r.offers a).2.1 then 14 else QF (decide (t>=(oAt r.offers a).2.2.1)) 14),QF (p==0) 3,QF (decide (p>Ws (oAt r.offers a))) 20]:=rfl
    cases G:(oAt r.offers a).2.2.2.2.2.2 with
    | true =>
     rw[G,El,QT _ (by decide),jFj (by decide)] at i;exact VB (t:=t) 23 (by decide) i (by rw[jTj rfl];rfl)
    | false =>
     rw[G,Xb,QN _ rfl] at i;rw[jFj (by decide),jFj (kne m (by decide))];by_cases F:t<(oAt r.offers a).2.1
     ·rw[jTj F,QT _ (by decide),jFj (by decide)] at i;exact VB (t:=t) 14 (by decide) i (by rw[jTj F];rfl)
     rw[jFj F] at i;rw[jFj F];by_cases K:t>=(oAt r.offers a).2.2.1
     ·rw[jDj K,El,QT _ (by decide),jFj (by decide)] at i;exact VB (t:=t) 14 (by decide) i (by rw[jTj K];rfl)
     rw[jEj K,Xb,QN _ rfl] at i;rw[jFj K,gi1];by_cases Q:p=0
     ·have L : (p==0)=true:=by simp[Q]
      rw[L,El,QT _ (by decide),jFj (by decide)] at i;exact VB (t:=t) 3 (by decide) i (by rw[jTj Q];rfl)
     have L : (p==0)=false:=by simp[Q]
     rw[L,Xb,QN _ rfl] at i;have Z:=zx n M;rw[G] at Z;rw[jFj Q,Z,jBj];by_cases S:p>Ws (oAt r.offers a)
     ·rw[jDj S,El,QT _ (by decide),jFj (by decide)] at i;exact VB (t:=t) 20 (by decide) i (by rw[jTj S];rfl)
     rw[jEj S,Xb,QN _ rfl,jTj (show Qt []=0 from rfl)] at i;rw[jFj S,jTj (by unfold Qh;omega)];by_cases h5:p*1000000>r.heat+ZL r t
     ·rw[jDj h5,El] at i;exact VB (t:=t) 16 (by decide) i (by rw[jTj h5];rfl)
     rw[jEj h5,Xb] at i;unfold Ws at S;have a0:r.heat+ZL r t - p*1000000=r.heat+ZL r t - 1000000*p:=by omega
     refine UX i ?_;rw[jFj h5,jTj (by unfold Qh;omega),jTj (by unfold Qh;omega),a0];have e:(r.offers.set (iO r.offers a) (yO (oAt r.offers a) p)).map Zj=List.set (r.offers.map Zj) (iO r.offers a) (Zj (yO (oAt r.offers a) p)):=set_encO.symm;have e2:Vc (app .deliver r [a] [t,p]) 0=(t,r.level,r.filled,r.tripped,r.light+ZL r t,r.heat+ZL r t - 1000000*p,r.money,r.sectors.map Sd,r.mirrors.map QY,(r.offers.set (iO r.offers a) (yO (oAt r.offers a) p)).map Zj,0):=rfl;have W:yO (oAt r.offers a) p=((oAt r.offers a).1,(oAt r.offers a).2.1,(oAt r.offers a).2.2.1,(oAt r.offers a).2.2.2.1,(oAt r.offers a).2.2.2.2.1,(oAt r.offers a).2.2.2.2.2.1+p,false):=by unfold yO;rw[G]
     rw[e2,e,W,jtj];rfl
   ·rw[jFj f,QT _ f];exact⟨r,rfl,fun h=>absurd h f⟩
  ·rw[jFj g,QT _ g];rw[bk4 g];exact⟨r,rfl,fun h=>by cases h⟩
 | .bill,_,hg=>by
  have j:=hg.kind;dsimp only at j;have m:=j;dsimp only[kw] at m;obtain⟨a,t,rfl,rfl,o⟩:=hg.d11 rfl rfl;simp only[jCj,jnj];unfold QZ acc;rw[gi0];by_cases d:t<r.tick
  ·exact⟨r,by rw[jTj d,jTj (g0 d)];rfl,fun h=>by rw[jTj (g0 d)] at h;cases h⟩
  rw[jFj d,jFj (g0n d)];have v:okT r t:=okt d o;rw[Zs l (by omega) u v,jBj];show ∃s,_=some (Vc s (Qt [Zk r t,known .bill r [a],spec .bill r [a] [t]]))/\(Qt [Zk r t,known .bill r [a],spec .bill r [a] [t]]=0->_)
  by_cases g:Zk r t=0
  ·rw[jTj g,QN _ g];dsimp only;rw[jTj rfl,Qdo u r.offers (by have:=l.lenO;omega) a j rfl,jBj];show ∃s,(if known .bill r [a]=0 then _ else _)=_/\_;by_cases f:known .bill r [a]=0
   ·rw[jTj f,QN _ f];rw[Wz,jTj (rzS l),jTj (rzM l (by omega)),jTj (rzO l (by omega))];(iterate 7 rw[jFj (kne m (by decide))])
    rw[jTj (keq m rfl)];have A:Zu (nmO r.offers) a=true:=ZW f;obtain⟨y,z,C⟩:=JV A;have M:=l.offs _ (jgj C);have w:=uS y z;rw[gs0,at_o _ _ (by have:=l.lenO;omega) (by have:=l.lenO;omega),jBj,jTj w,y,Q4 unO C,jBj];have a3:=(YF M).2.2.2;have P:=l.money;have i:spec .bill r [a] [t]=Qt [QF (oAt r.offers a).2.2.2.2.2.2 23,QF (decide (t<(oAt r.offers a).2.2.1)) 32]:=rfl;cases G:(oAt r.offers a).2.2.2.2.2.2 with
    | true =>
     rw[G,El,QT _ (by decide)] at i;exact VB (t:=t) 23 (by decide) i (by rw[jTj rfl];rfl)
    | false =>
     rw[G,Xb,QN _ rfl] at i;rw[jFj (by decide)];by_cases F:t<(oAt r.offers a).2.2.1
     ·rw[jDj F,El,QT _ (by decide)] at i;exact VB (t:=t) 32 (by decide) i (by rw[jTj F];rfl)
     rw[jEj F,Xb,QN _ rfl] at i;have X:=Qar n M;rw[G] at X;refine UX i ?_;rw[jFj F,X,jBj,jTj (by unfold Qh;omega)];have e:(r.offers.set (iO r.offers a) (GV (oAt r.offers a))).map Zj=List.set (r.offers.map Zj) (iO r.offers a) (Zj (GV (oAt r.offers a))):=set_encO.symm;have e2:Vc (app .bill r [a] [t]) 0=(t,r.level,r.filled,r.tripped,r.light+ZL r t,r.heat+ZL r t,r.money+U5 (oAt r.offers a),r.sectors.map Sd,r.mirrors.map QY,(r.offers.set (iO r.offers a) (GV (oAt r.offers a))).map Zj,0):=rfl;rw[e2,e,jtj];rfl
   ·rw[jFj f,QT _ f];exact⟨r,rfl,fun h=>absurd h f⟩
  ·rw[jFj g,QT _ g];rw[bk4 g];exact⟨r,rfl,fun h=>by cases h⟩
 | .undo,h,_=>absurd rfl h
theorem W2 {c d:Nat}(h:c<=d){r:Reg}(a:Inv c r):Inv d r :=
 ⟨a.tick,a.level,a.light,a.heat,by have:=a.money;omega,a.secs,by have:=a.lenM;omega,by have:=a.lenO;omega,a.mirs,a.offs⟩
theorem VC {c:Nat}{r:Reg}(a:Inv c r)(hc:c<=40){t:Int}(f:okT r t)(d:Zk r t=0):Inv c (bkd r t):=by
 have l:=(K4 a hc f).2;have i:=a.light;have j:=a.heat;have k:=a.tick;have b : r.light+ZL r t<=1000000000000000/\r.heat+ZL r t<=1000000000000000:=by
  unfold Zk at d;split at d
  ·rename_i h;exact h
  ·cases d
 obtain⟨g,e⟩:=f;exact⟨⟨show 0<=t by omega,e⟩,a.level,⟨show 0<=r.light+ZL r t by omega,b.1⟩,⟨show 0<=r.heat+ZL r t by omega,b.2⟩,a.money,a.secs,a.lenM,a.lenO,a.mirs,a.offs⟩
theorem Ge {c:Nat}{q:Reg}(b:Inv c q)(a:jSj){m:Mir}(d:okM m):Inv c (chgM q a m) :=
 ⟨b.tick,b.level,b.light,b.heat,b.money,b.secs,by show(q.mirrors.set _ _).length<=c;rw[List.length_set];exact b.lenM,b.lenO,fun x e=>by
  obtain h|h:=List.mem_or_eq_of_mem_set e
  ·exact b.mirs x h
  ·rw[h];exact d,b.offs⟩
theorem uP {c:Nat}{q:Reg}(b:Inv c q)(a:jSj){o:Off}(d:okO o):Inv c (chgO q a o) :=
 ⟨b.tick,b.level,b.light,b.heat,b.money,b.secs,b.lenM,by show(q.offers.set _ _).length<=c;rw[List.length_set];exact b.lenO,b.mirs,fun x e=>by
  obtain h|h:=List.mem_or_eq_of_mem_set e
  ·exact b.offs x h
  ·rw[h];exact d⟩
theorem uQ {c:Nat}{q:Reg}(a:Inv c q)(f:Mir->Mir)(b:∀m,okM m->okM (f m)):Inv c { q with mirrors:=q.mirrors.map f } :=
 ⟨a.tick,a.level,a.light,a.heat,a.money,a.secs,by show(q.mirrors.map f).length<=c;rw[jlj];exact a.lenM,a.lenO,fun x d=>by obtain⟨y,e,rfl⟩:=List.mem_map.1 d;exact b y (a.mirs y e),a.offs⟩
theorem QdC (s:jSj)(m:Mir)(h:okM m):okM (EN s m):=by
 unfold EN;split
 ·exact h
 ·exact h
theorem Qc9 {c:Nat}{r:Reg}(p:Inv c r)(hc:c<=30){num:Int}{kind y:jSj}{names:List jSj}{w:List Int} :
  ∀{k:Ki},k≠.undo->Good (num,kind,names,w,y) k->acc k r names w=0->Inv (c+1) (app k r names w)
 | .sector,_,hg,ha=>by
  obtain⟨a,t,rfl,rfl,i⟩:=hg.d11 rfl rfl;obtain⟨g,f,j,l⟩:=QS ha;have n:okT r t:=okt g i;have d:=W2 (Nat.le_succ c) (VC p (by omega) n f);have G:=YT (e:=5) (b:=((r.sectors.length:Int)==8)) (by decide) l;have H : ¬(r.sectors.length:Int)=8:=by simpa using G
  have q:=p.secs;exact⟨d.tick,d.level,d.light,d.heat,d.money,by show(r.sectors++[a]).length<=8;simp;omega,d.lenM,d.lenO,d.mirs,d.offs⟩
 | .mirror,_,hg,ha=>by
  obtain⟨a,b,t,v,rfl,rfl,i⟩:=hg.d22 rfl rfl;obtain⟨g,f,j,l⟩:=QS ha;have n:okT r t:=okt g i;have d:=W2 (Nat.le_succ c) (VC p (by omega) n f);have C:=YC.1 (Zv l (inR v 1 100) (by simp));have L:=p.lenM;refine⟨d.tick,d.level,d.light,d.heat,d.money,d.secs,by show(r.mirrors++[_]).length<=c+1;simp;omega,d.lenO,fun m u=>?_,d.offs⟩;obtain h|h:=List.mem_append.1 u
  ·exact p.mirs m h
  ·rw[List.mem_singleton.1 h];exact⟨C,⟨Int.le_refl 0,show(0:Int)<=1000 by decide⟩⟩
 | .soil,_,hg,ha=>by obtain⟨a,t,v,rfl,rfl,i⟩:=hg.d12 rfl rfl;obtain⟨g,f,j,l⟩:=QS ha;have n:okT r t:=okt g i;have d:=W2 (Nat.le_succ c) (VC p (by omega) n f);have s:Zu (nmM r.mirrors) a=true:=ZW j;have u:=p.mirs _ (jgj (WP s).2.2);exact Ge d a (m:=X8 (mAt r.mirrors a) v) ⟨u.1,YC.1 l⟩
 | .clean,_,hg,ha=>by obtain⟨a,t,rfl,rfl,i⟩:=hg.d11 rfl rfl;obtain⟨g,f,j,l⟩:=QS ha;have n:okT r t:=okt g i;have d:=W2 (Nat.le_succ c) (VC p (by omega) n f);have s:Zu (nmM r.mirrors) a=true:=ZW j;have u:=p.mirs _ (jgj (WP s).2.2);exact Ge d a (m:=X8 (mAt r.mirrors a) 0) ⟨u.1,⟨Int.le_refl 0,show(0:Int)<=1000 by decide⟩⟩
 | .defect,_,hg,ha=>by obtain⟨a,t,rfl,rfl,i⟩:=hg.d11 rfl rfl;obtain⟨g,f,j,l⟩:=QS ha;have n:okT r t:=okt g i;have d:=W2 (Nat.le_succ c) (VC p (by omega) n f);have s:Zu (nmM r.mirrors) a=true:=ZW j;have u:=p.mirs _ (jgj (WP s).2.2);exact Ge d a (m:=zU (mAt r.mirrors a) true) u
 | .repair,_,hg,ha=>by obtain⟨a,t,rfl,rfl,i⟩:=hg.d11 rfl rfl;obtain⟨g,f,j,l⟩:=QS ha;have n:okT r t:=okt g i;have d:=W2 (Nat.le_succ c) (VC p (by omega) n f);have s:Zu (nmM r.mirrors) a=true:=ZW j;have u:=p.mirs _ (jgj (WP s).2.2);exact Ge d a (m:=zU (mAt r.mirrors a) false) u
 | .aim,_,hg,ha=>by obtain⟨a,t,rfl,rfl,i⟩:=hg.d11 rfl rfl;obtain⟨g,f,j,l⟩:=QS ha;have n:okT r t:=okt g i;have d:=W2 (Nat.le_succ c) (VC p (by omega) n f);have s:Zu (nmM r.mirrors) a=true:=ZW j;have u:=p.mirs _ (jgj (WP s).2.2);exact Ge d a (m:=aimM (mAt r.mirrors a)) u
 | .park,_,hg,ha=>by obtain⟨a,t,rfl,rfl,i⟩:=hg.d11 rfl rfl;obtain⟨g,f,j,l⟩:=QS ha;have n:okT r t:=okt g i;have d:=W2 (Nat.le_succ c) (VC p (by omega) n f);have s:Zu (nmM r.mirrors) a=true:=ZW j;have u:=p.mirs _ (jgj (WP s).2.2);exact Ge d a (m:=Ka (mAt r.mirrors a)) u
 | .dim,_,hg,ha=>by obtain⟨a,t,rfl,rfl,i⟩:=hg.d11 rfl rfl;obtain⟨g,f,j,l⟩:=QS ha;have n:okT r t:=okt g i;have d:=W2 (Nat.le_succ c) (VC p (by omega) n f);exact uQ d (EN a) (QdC a)
 | .sun,_,hg,ha=>by obtain⟨t,v,rfl,rfl,i⟩:=hg.d02 rfl rfl;obtain⟨g,f,j,l⟩:=QS ha;have n:okT r t:=okt g i;have d:=W2 (Nat.le_succ c) (VC p (by omega) n f);exact⟨d.tick,YC.1 l,d.light,d.heat,d.money,d.secs,d.lenM,d.lenO,d.mirs,d.offs⟩
 | .fill,_,hg,ha=>by obtain⟨t,rfl,rfl,i⟩:=hg.d01 rfl rfl;obtain⟨g,f,j,l⟩:=QS ha;have n:okT r t:=okt g i;have d:=W2 (Nat.le_succ c) (VC p (by omega) n f);exact⟨d.tick,d.level,d.light,d.heat,d.money,d.secs,d.lenM,d.lenO,d.mirs,d.offs⟩
 | .drain,_,hg,ha=>by obtain⟨t,rfl,rfl,i⟩:=hg.d01 rfl rfl;obtain⟨g,f,j,l⟩:=QS ha;have n:okT r t:=okt g i;have d:=W2 (Nat.le_succ c) (VC p (by omega) n f);exact⟨d.tick,d.level,d.light,d.heat,d.money,d.secs,d.lenM,d.lenO,d.mirs,d.offs⟩
 | .trip,_,hg,ha=>by obtain⟨t,rfl,rfl,i⟩:=hg.d01 rfl rfl;obtain⟨g,f,j,l⟩:=QS ha;have n:okT r t:=okt g i;have d:=W2 (Nat.le_succ c) (VC p (by omega) n f);have:=uQ d Ka (fun m h=>h);exact⟨this.tick,this.level,this.light,this.heat,this.money,this.secs,this.lenM,this.lenO,this.mirs,this.offs⟩
 | .reset,_,hg,ha=>by obtain⟨t,rfl,rfl,i⟩:=hg.d01 rfl rfl;obtain⟨g,f,j,l⟩:=QS ha;have n:okT r t:=okt g i;have d:=W2 (Nat.le_succ c) (VC p (by omega) n f);exact⟨d.tick,d.level,d.light,d.heat,d.money,d.secs,d.lenM,d.lenO,d.mirs,d.offs⟩
 | .offer,_,hg,ha=>by
  obtain⟨a,t,v,T,A,O,rfl,rfl,i⟩:=hg.d15 rfl rfl;obtain⟨g,f,j,l⟩:=QS ha;have n:okT r t:=okt g i;have d:=W2 (Nat.le_succ c) (VC p (by omega) n f);have E:=YC.1 (Zv l (inR A 1 1000) (by simp));have F:=YC.1 (Zv l (inR O 0 1000) (by simp));have L:=p.lenO;refine⟨d.tick,d.level,d.light,d.heat,d.money,d.secs,d.lenM,by show(r.offers++[_]).length<=c+1;simp;omega,d.mirs,fun o x=>?_⟩;obtain h|h:=List.mem_append.1 x
  ·exact p.offs o h
  ·rw[List.mem_singleton.1 h];exact⟨E,F,⟨Int.le_refl 0,show(0:Int)<=A by omega⟩⟩
 | .deliver,_,hg,ha=>by obtain⟨a,t,v,rfl,rfl,i⟩:=hg.d12 rfl rfl;obtain⟨g,f,j,l⟩:=QS ha;have n:okT r t:=okt g i;have d:=W2 (Nat.le_succ c) (VC p (by omega) n f);have s:Zu (nmO r.offers) a=true:=ZW j;have x:=p.offs _ (jgj (JV s).2.2);have J:=EO l;have Q:=hg.val v (by simp);have z:=J.2.2.1;unfold Ws at z;obtain⟨M,N,S⟩:=x;have q:=uP d a (o:=yO (oAt r.offers a) v) ⟨M,N,⟨show 0<=(oAt r.offers a).2.2.2.2.2.1+v by omega,show(oAt r.offers a).2.2.2.2.2.1+v<=(oAt r.offers a).2.2.2.1 by omega⟩⟩;have s:=d.heat;have K:0<=r.heat+ZL r t/\r.heat+ZL r t<=1000000000000000:=s;exact⟨q.tick,q.level,q.light,⟨show 0<=r.heat+ZL r t - 1000000*v by omega,show r.heat+ZL r t - 1000000*v<=1000000000000000 by omega⟩,q.money,q.secs,q.lenM,q.lenO,q.mirs,q.offs⟩
 | .bill,_,hg,ha=>by obtain⟨a,t,rfl,rfl,i⟩:=hg.d11 rfl rfl;obtain⟨g,f,j,l⟩:=QS ha;have n:okT r t:=okt g i;have d:=W2 (Nat.le_succ c) (VC p (by omega) n f);have s:Zu (nmO r.offers) a=true:=ZW j;have x:=p.offs _ (jgj (JV s).2.2);have q:=uP d a (o:=GV (oAt r.offers a)) x;have P:=(YF x).2.2.2;have u:=p.money;exact⟨q.tick,q.level,q.light,q.heat,⟨show -(2000000*((c+1:Nat):Int))<=r.money+U5 (oAt r.offers a) by omega,show r.money+U5 (oAt r.offers a)<=2000000*((c+1:Nat):Int) by omega⟩,q.secs,q.lenM,q.lenO,q.mirs,q.offs⟩
 | .undo,h,_,_=>absurd rfl h
theorem Qcz:Inv 0 Reg.zero:=⟨by decide,by decide,by decide,by decide,by decide,by decide,jLj _,jLj _,fun m a=>(List.not_mem_nil a).elim,fun o b=>(List.not_mem_nil b).elim⟩
def kdE (e:Ev):Option Ki:=yJ e.2.1.data.toList
def appE (r:Reg)(e:Ev):Reg:=match kdE e with
 | some k=>app k r e.2.2.1 e.2.2.2.1
 | none=>r
def X0 (r:Reg)(e:Ev):Int:=match kdE e with
 | some k=>acc k r e.2.2.1 e.2.2.2.1
 | none=>0
def QD (l:List Ev):Reg:=l.foldl appE Reg.zero
theorem GA (l:List Ev)(e:Ev):QD (l++[e])=appE (QD l) e:=by unfold QD;rw[List.foldl_append];rfl
theorem yI {e:Ev}{k:Ki}(h:Good e k):kdE e=some k:=by unfold kdE;rw[h.kind,E7]
theorem XR {e:Ev}{k:Ki}(h:Good e k)(r:Reg):appE r e=app k r e.2.2.1 e.2.2.2.1:=by unfold appE;rw[yI h]
theorem Gq {e:Ev}{k:Ki}(h:Good e k)(r:Reg):X0 r e=acc k r e.2.2.1 e.2.2.2.1:=by unfold X0;rw[yI h]
def OkL (l:List Ev):Prop:=∀(i:Nat) (e:Ev),l[i]?=some e->∃k,k≠.undo/\Good e k/\acc k (QD (l.take i)) e.2.2.1 e.2.2.2.1=0
theorem Jx:OkL []:=fun i e h=>by simp at h
theorem uH {l:List Ev}(h:OkL l)(j:Nat):OkL (l.take j):=fun i e a=>by
 rw[List.getElem?_take] at a;split at a
 ·rename_i f;obtain⟨k,b,c,d⟩:=h i e a;refine⟨k,b,c,?_⟩;rw[List.take_take,Nat.min_eq_left (by omega)];exact d
 ·cases a
theorem Qcm {l:List Ev}(h:OkL l){e:Ev}{k:Ki}(g:k≠.undo)(f:Good e k)(d:acc k (QD l) e.2.2.1 e.2.2.2.1=0):OkL (l++[e]):=fun i x a=>by
 by_cases hi:i<l.length
 ·rw[List.getElem?_append_left hi] at a;rw[List.take_append_of_le_length (by omega)];exact h i x a
 ·rw[List.getElem?_append_right (by omega)] at a;have b:i - l.length=0:=by
   obtain c|c:=Nat.eq_zero_or_pos (i - l.length)
   ·exact c
   ·rw[List.getElem?_eq_none (by simp;omega)] at a;cases a
  rw[b] at a;cases a;have:i=l.length:=by omega
  subst this;rw[List.take_left];exact⟨k,g,f,d⟩
theorem yw {l:List Ev}(h:OkL l)(d:l.length<=30):∀j,j<=l.length->Inv j (QD (l.take j))
 | 0,_=>by rw[List.take_zero];exact Qcz
 | j+1,hj=>by have f:=yw h d j (by omega);have e:=jej (l:=l) (i:=j) (by omega);obtain⟨k,b,a,c⟩:=h j _ e;rw[List.take_succ_eq_append_getElem (by omega),GA,XR a];exact Qc9 f (by omega) b a c
theorem GG {l:List Ev}(h:OkL l)(a:l.length<=30):Inv l.length (QD l):=by have:=yw h a l.length (jLj _);rwa [List.take_length] at this
def isU (e:Ev):Bool:=decide (kdE e=some .undo)
def YM (i:Nat)(cnt:List Ev)(e:Ev):Int:=if chk e=0 then(if e.1=(i:Int)+1 then(if isU e=true then X7 cnt else X0 (QD cnt) e) else 11) else chk e
def VO (cnt:List Ev)(e:Ev):List Ev:=if isU e=true then cnt.dropLast else cnt++[e]
def rep:Nat->List Ev->List Ev->(Int×Int)⊕List Ev
 | _,cnt,[]=>.inr cnt
 | i,cnt,e::l=>if YM i cnt e=0 then rep (i+1) (VO cnt e) l else .inl ((i:Int)+1,YM i cnt e)
theorem KY {e:Ev}{k:Ki}(h:Good e k):isU e=decide (k=.undo):=by
 unfold isU;rw[yI h];by_cases a:k=.undo
 ·simp[a]
 ·simp[a]
theorem kJ {i:Nat}{cnt:List Ev}{e:Ev}(h:YM i cnt e=0):∃k,Good e k/\e.1=(i:Int)+1/\(if isU e=true then X7 cnt else X0 (QD cnt) e)=0:=by
 unfold YM at h;by_cases hc:chk e=0
 ·rw[jTj hc] at h;obtain⟨k,b⟩:=qn hc;by_cases a:e.1=(i:Int)+1
  ·rw[jTj a] at h;exact⟨k,b,a,h⟩
  ·rw[jFj a] at h;cases h
 ·rw[jFj hc] at h;exact absurd h hc
theorem Qan {cnt:List Ev}(h:X7 cnt=0):cnt≠[]:=by intro e;subst e;cases h
theorem Xk {i:Nat}{cnt:List Ev}(d:OkL cnt)(hc:cnt.length<=i){e:Ev}(h:YM i cnt e=0):OkL (VO cnt e)/\(VO cnt e).length<=i+1:=by
 obtain⟨k,c,_,b⟩:=kJ h;unfold VO;by_cases a:isU e=true
 ·rw[jTj a];rw[List.dropLast_eq_take];exact⟨uH d _,by simp;omega⟩
 ·rw[jFj a] at b ⊢;rw[KY c] at a;rw[Gq c] at b;exact⟨Qcm d (by simpa using a) c b,by simp;omega⟩
theorem uF {x:D}(l:jVj):l.take ((List.replicate (Int.toNat ((l.length:Nat):Int)) (x:D)):jVj).length++(List.replicate (Int.toNat ((l.length:Nat):Int)) (x:D)).drop l.length=l:=by rw[List.length_replicate,jtj,List.take_length,List.drop_eq_nil_of_le (by rw[List.length_replicate];exact jLj _),List.append_nil]
theorem Qal {n:Nat}(i:100<=n){cnt:List Ev}(g:OkL cnt)(hc:cnt.length<=30){evs:jVj}(d:evs.length<=5000){e:Ev}(f:chk e=0) :
  Qs n e.1 e.2.1 (e.2.2.1.map Sd) (e.2.2.2.1.map I) e.2.2.2.2 evs (cnt.map Zr) (QD cnt).tick (QD cnt).level (QD cnt).filled (QD cnt).tripped (QD cnt).light (QD cnt).heat (QD cnt).money ((QD cnt).sectors.map Sd) ((QD cnt).mirrors.map QY) ((QD cnt).offers.map Zj)=some (YM evs.length cnt e):=by
 obtain⟨k,b⟩:=qn f;unfold YM;rw[jTj f];by_cases c:isU e=true
 ·have a:k=.undo:=by rw[KY b] at c;exact of_decide_eq_true c
  subst a;rw[uc (QD cnt) d cnt (by omega) b,jTj c]
 ·have a:k≠.undo:=fun h=>c (by rw[KY b];exact jDj h);rw[Qa3 i (GG g hc) (by omega) d a b,jFj c,Gq b]
abbrev AddT:=jVj×jVj×Int×Int×Bool×Bool×Int×Int×Int×jVj×jVj×jVj
def outA (evs cnt:jVj)(r:Reg):AddT:=(evs,cnt,Vb r)
theorem unEs (e:Ev):(Option.map Zr (some e)).bind Ze=some (e.1,e.2.1,e.2.2.1.map Sd,e.2.2.2.1.map I,e.2.2.2.2):=rfl
theorem Qc5 {n:Nat}(O:100<=n){z:Int}{A:jSj}{C E:jVj}{F:jSj}{G:jVj}{cnt:List Ev}{H J:Int}{K c:Bool}{d f g:Int}{h j o:jVj}(w:OkL cnt)(hc:cnt.length<=30)(y:cnt≠[]) :
  Q2 (Zm n z A C E F G (cnt.map Zr) H J K c d f g h j o) n (.inl ())=some (if cnt.dropLast=[] then .inl () else .inr (Vb (QD cnt.dropLast))):=by
 have a:((cnt.map Zr).take (Int.toNat (((cnt.map Zr).length:Int) - 1)))=cnt.dropLast.map Zr:=by
  rw[jlj,List.dropLast_eq_take,List.map_take];congr 1
  have:=List.length_pos_iff.2 y;omega
 have v:OkL cnt.dropLast:=by rw[List.dropLast_eq_take];exact uH w _
 have p:cnt.dropLast.length<=30:=by simp;omega
 generalize cnt.dropLast=l at a v p ⊢;have step:∀(i:Nat) (e:Ev),l[i]?=some e->Qz n e.1 e.2.1 (e.2.2.1.map Sd) (e.2.2.2.1.map I) e.2.2.2.2 (QD (l.take i)).tick (QD (l.take i)).level (QD (l.take i)).filled (QD (l.take i)).tripped (QD (l.take i)).light (QD (l.take i)).heat (QD (l.take i)).money ((QD (l.take i)).sectors.map Sd) ((QD (l.take i)).mirrors.map QY) ((QD (l.take i)).offers.map Zj)=some (Vb (QD (l.take (i+1)))):=by
  intro i e b;have hi:=(jGj b).1;obtain⟨k,M,L,N⟩:=v i e b;have q:=yw v p i (by omega);rw[QcN O q (by omega) M L N];have:l.take (i+1)=l.take i++[e]:=by rw[List.take_succ_eq_append_getElem hi];rw[jej hi] at b;rw[Option.some.inj b]
  rw[this,GA,XR L]
 have s:∀(m i k:Nat),0<i->i+m=l.length->m<k->Q2 (Zm n z A C E F G (cnt.map Zr) H J K c d f g h j o) k (.inr ((i:Int),Vb (QD (l.take i))))=some (.inr (Vb (QD l))):=by
  intro m;induction m with
  | zero =>
   intro i k t hi w;have:i=l.length:=by omega
   subst this;rw[List.take_length];rw[Zf (by omega)];unfold Zm;dsimp only;rw[a,jFj (by simp)]
  | succ m ih =>
   intro i k t hi w;have b:=jej (l:=l) (i:=i) (by omega);rw[Wy (s':=.inr (((i+1:Nat):Int),Vb (QD (l.take (i+1))))) (by omega) ?_]
   ·exact ih (i+1) (k - 1) (by omega) (by omega) (by omega)
   ·unfold Zm;dsimp only;rw[a,jTj (ZD b),jTj ⟨Int.natCast_nonneg i,ZD b⟩,jtj,Ub,List.getElem?_map,b,unEs,jBj];refine Eq.trans (congrArg (fun x=>Option.bind x _) (step i _ b)) ?_;rw[jBj,jTj (by unfold Qh;omega)];rfl
 by_cases u:l=[]
 ·rw[jTj u];refine Zf (by omega) ?_;unfold Zm;dsimp only;rw[a,u,jFj (by decide)]
 ·rw[jFj u];have r:=List.length_pos_iff.2 u;have b:=jej (l:=l) (i:=0) r;rw[Wy (s':=.inr (((1:Nat):Int),Vb (QD (l.take 1)))) (by omega) ?_]
  ·exact s (l.length - 1) 1 (n - 1) (by omega) (by omega) (by omega)
  ·unfold Zm;dsimp only;rw[a,jTj (by simp;omega),jTj (by simp;omega),Ub,List.getElem?_map,b,unEs,jBj];have t:=step 0 _ b;rw[List.take_zero] at t;refine Eq.trans (congrArg (fun x=>Option.bind x _) t) ?_;rfl
theorem addE {n:Nat}(l:100<=n){cnt:List Ev}(j:OkL cnt)(hc:cnt.length<=30){evs:jVj}(q:evs.length<=4000){e:Ev}(p:Yf e)(h:YM evs.length cnt e=0) :
  WO n e.1 e.2.1 (e.2.2.1.map Sd) (e.2.2.2.1.map I) e.2.2.2.2 evs (cnt.map Zr) (QD cnt).tick (QD cnt).level (QD cnt).filled (QD cnt).tripped (QD cnt).light (QD cnt).heat (QD cnt).money ((QD cnt).sectors.map Sd) ((QD cnt).mirrors.map QY) ((QD cnt).offers.map Zj)=some (outA (evs++[Zr e]) ((VO cnt e).map Zr) (QD (VO cnt e))):=by
 obtain⟨k,c,m,g⟩:=kJ h;obtain⟨r,s,t,u,v⟩:=p;unfold WO;rw[jTj (by rw[jlj];omega),jTj (by rw[jlj];omega),jTj (V7 (by decide) (by omega)),uF,uF];unfold VO;by_cases d:isU e=true
 ·have a:k=.undo:=by rw[KY c] at d;exact of_decide_eq_true d
  subst a;rw[jTj d] at g;have f:=Qan g;have o:=List.length_pos_iff.2 f;have b:((cnt.map Zr).take (Int.toNat (((cnt.map Zr).length:Int) - 1)))=cnt.dropLast.map Zr:=by
   rw[jlj,List.dropLast_eq_take,List.map_take];congr 1
   omega
  rw[jTj (keq c.kind rfl),jTj (by rw[jlj];unfold Qh;omega),jTj (by rw[jlj];omega),Qc5 l j hc f,jBj,jTj d];by_cases i:cnt.dropLast=[]
  ·rw[jTj i,b,i];rfl
  ·rw[jFj i,b];rfl
 ·have a:k≠.undo:=fun h=>d (by rw[KY c];exact jDj h);rw[jFj d,Gq c] at g;rw[jFj (by rw[kq,c.kind];intro h;exact a (by have:=E7 k;rw[h] at this;exact(Option.some.inj this).symm)),jTj (V7 (by decide) (by rw[jlj];omega)),Qb1 l (GG j hc) (by omega) a c g,jBj,jFj d,GA,XR c,List.map_append];rfl
abbrev StT:=Int×Int×Bool×Bool×Int×Int×Int×jVj×jVj×jVj×jVj×jVj
def stS (evs cnt:jVj)(r:Reg):StT:=(r.tick,r.level,r.filled,r.tripped,r.light,r.heat,r.money,evs,cnt,r.sectors.map Sd,r.mirrors.map QY,r.offers.map Zj)
theorem qf {l:List Ev}{i:Nat}{e:Ev}(h:l[i]?=some e):el Ze (l.map Zr) (i:Int)=some (e.1,e.2.1,e.2.2.1.map Sd,e.2.2.2.1.map I,e.2.2.2.2):=by unfold el;rw[jTj (Int.natCast_nonneg i),jtj,Ub,List.getElem?_map,h];rfl
theorem Gg {i:Nat}{cnt:List Ev}{e:Ev}(h:¬chk e=0):YM i cnt e=chk e:=by unfold YM;rw[jFj h]
theorem ux {n:Nat}(o:100<=n)(l:List Ev)(v:l.length<=30)(t:∀e,e∈l->Yf e):∀(m pre cnt:List Ev) (k:Nat),l=pre++m->pre≠[]->OkL cnt->cnt.length<=pre.length->m.length<k ->
  (match rep pre.length cnt m with
   | .inr c=>Q2 (QR n (l.map Zr)) k (.inr ((pre.length:Int),stS (pre.map Zr) (cnt.map Zr) (QD cnt)))=some (.inr (.inr (.inr (stS (l.map Zr) (c.map Zr) (QD c)))))/\OkL c/\c.length<=l.length
   | .inl (i,err)=>err≠0/\∃w,Q2 (QR n (l.map Zr)) k (.inr ((pre.length:Int),stS (pre.map Zr) (cnt.map Zr) (QD cnt)))=some (.inl (i,err,w)))
 | [],pre,cnt,k,hl0,hne,hok,hc,hk=>by rw[List.append_nil] at hl0;subst hl0;unfold rep;refine⟨?_,hok,hc⟩;refine Zf (by omega) ?_;unfold QR;dsimp only;rw[jFj (by rw[jlj];omega)]
 | e::m,pre,cnt,k,hl0,hne,hok,hc,hk=>by
  have s:l.length=pre.length+(m.length+1):=by rw[hl0];simp
  have j:l[pre.length]?=some e:=by rw[hl0,List.getElem?_append_right (jLj _),Nat.sub_self];rfl
  have f:=t e (jgj j);have a:(pre.map Zr).length=pre.length:=jlj _;unfold rep;by_cases g:chk e=0
  ·have b:=Qal o hok (by omega) (evs:=pre.map Zr) (by rw[a];omega) g;rw[a] at b;by_cases d:YM pre.length cnt e=0
   ·rw[jTj d];obtain⟨q,r⟩:=Xk hok hc d;have p:=addE o hok (by omega) (evs:=pre.map Zr) (by rw[a];omega) f (by rw[a];exact d);have h:QR n (l.map Zr) (.inr ((pre.length:Int),stS (pre.map Zr) (cnt.map Zr) (QD cnt)))=some (.inl (.inr (((pre++[e]).length:Int),stS ((pre++[e]).map Zr) ((VO cnt e).map Zr) (QD (VO cnt e))))):=by unfold QR;dsimp only;rw[jTj (ZD j),qf j,jBj,V3 o e f,jBj,jTj g];refine Eq.trans (congrArg (fun x=>Option.bind x _) b) ?_;rw[jBj,jTj d];refine Eq.trans (congrArg (fun x=>Option.bind x _) p) ?_;rw[jBj,jTj (by unfold Qh;omega),List.map_append,jaj];rfl
    rw[Wy (by omega) h];have:=ux o l v t m (pre++[e]) (VO cnt e) (k - 1) (by rw[hl0];simp) (by simp) q (by rw[jaj];exact r) (by simp at hk;omega);have u:(pre++[e]).length=pre.length+1:=by simp
    rw[u] at this ⊢;exact this
   ·rw[jFj d];refine⟨d,stS (pre.map Zr) (cnt.map Zr) (QD cnt),?_⟩;refine Zf (by omega) ?_;unfold QR;dsimp only;rw[jTj (ZD j),qf j,jBj,V3 o e f,jBj,jTj g];refine Eq.trans (congrArg (fun x=>Option.bind x _) b) ?_;rw[jBj,jFj d,jTj (by unfold Qh;omega)];try rfl
  ·have d:¬YM pre.length cnt e=0:=by rw[Gg g];exact g
   rw[jFj d,Gg g];refine⟨g,stS (pre.map Zr) (cnt.map Zr) (QD cnt),?_⟩;refine Zf (by omega) ?_;unfold QR;dsimp only;rw[jTj (ZD j),qf j,jBj,V3 o e f,jBj,jFj g,jTj (by unfold Qh;omega)];try rfl
theorem Xg {n:Nat}(s:100<=n)(l:List Ev)(C:l.length<=30)(E:∀e,e∈l->Yf e) :
  (match rep 0 [] l with
   | .inr c=>Q6 n (l.map Zr)=some (0,0,l.map Zr,c.map Zr,Vb (QD c))/\OkL c/\c.length<=l.length
   | .inl (i,err)=>err≠0/\∃w,Q6 n (l.map Zr)=some (i,err,w)):=by
 have g:¬(((l.map Zr).length:Int)>1000):=by rw[jlj];omega
 cases l with
 | nil =>
  unfold rep Q6;refine⟨?_,Jx,jLj _⟩;rw[jFj g];have:Q2 (QR n (([]:List Ev).map Zr)) n (.inl ())=some (.inr (.inr (.inl ()))):=by refine Zf (by omega) ?_;unfold QR;dsimp only;rw[jFj (by decide)]
  rw[this];rfl
 | cons e m =>
  have A:(e::m)[0]?=some e:=rfl;have h:=E e jMj;have d:(0:Int)<(((e::m).map Zr).length:Int):=by simp only[jCj,List.length_cons];omega
  unfold rep;by_cases o:chk e=0
  ·have j:=Qal s Jx (by simp) (evs:=[]) (by simp) o;by_cases f:YM 0 [] e=0
   ·rw[jTj f];obtain⟨y,z⟩:=Xk Jx (jLj _) f;have t:=addE s Jx (by simp) (evs:=[]) (by simp) h f;have r:QR n ((e::m).map Zr) (.inl ())=some (.inl (.inr ((([e]:List Ev).length:Int),stS ([e].map Zr) ((VO [] e).map Zr) (QD (VO [] e))))):=by unfold QR;dsimp only;rw[jTj d,show el Ze ((e::m).map Zr) 0=_ from qf A,jBj,V3 s e h,jBj,jTj o];refine Eq.trans (congrArg (fun x=>Option.bind x _) j) ?_;rw[jBj,jTj (show YM ([]:jVj).length [] e=0 from f)];refine Eq.trans (congrArg (fun x=>Option.bind x _) t) ?_;rfl
    have a:=ux s (e::m) C E m [e] (VO [] e) (n - 1) rfl (by simp) y (by simpa using z) (by simp at C;omega);have b:=Wy (k:=n) (by omega) r;have q:([e]:List Ev).length=0+1:=rfl;rw[q] at a b;unfold Q6;rw[jFj g,b];cases hr:rep (0+1) (VO [] e) m with
    | inr c =>
     rw[hr] at a;obtain⟨u,v,F⟩:=a;refine⟨?_,v,F⟩;rw[u];rfl
    | inl p =>
     obtain⟨i,err⟩:=p;rw[hr] at a;obtain⟨u,w,v⟩:=a;refine⟨u,?_⟩;rw[v];exact⟨_,rfl⟩
   ·rw[jFj f];refine⟨f,?_⟩;unfold Q6;have:Q2 (QR n ((e::m).map Zr)) n (.inl ())=some (.inl (1,YM 0 [] e,0,0,false,false,0,0,0,[],[],[],[],[])):=by refine Zf (by omega) ?_;unfold QR;dsimp only;rw[jTj d,show el Ze ((e::m).map Zr) 0=_ from qf A,jBj,V3 s e h,jBj,jTj o];refine Eq.trans (congrArg (fun x=>Option.bind x _) j) ?_;rw[jBj,jFj (show ¬YM ([]:jVj).length [] e=0 from f)];rfl
    rw[jFj g,this];exact⟨_,rfl⟩
  ·have f:¬YM 0 [] e=0:=by rw[Gg o];exact o
   rw[jFj f,Gg o];refine⟨o,?_⟩;unfold Q6;have:Q2 (QR n ((e::m).map Zr)) n (.inl ())=some (.inr (.inl (chk e))):=by refine Zf (by omega) ?_;unfold QR;dsimp only;rw[jTj d,show el Ze ((e::m).map Zr) 0=_ from qf A,jBj,V3 s e h,jBj,jFj o]
   rw[jFj g,this];exact⟨_,rfl⟩
def encR (r:Reg):D:=Vn (Vb r)
def z0:D:=jZj
def Ur (cnt:List Ev):jVj:=z0::(List.range cnt.length).map fun j=>encR (QD (cnt.take (j+1)))
theorem Yd (cnt:List Ev):(Ur cnt).length=cnt.length+1:=by unfold Ur;simp
theorem Qde (r:Reg):ZT (some (encR r))=false:=by
 unfold encR Vn ZT;split
 ·rename_i h;simp at h
 ·rfl
theorem wl {cnt:List Ev}{j:Nat}(h:j<cnt.length):(Ur cnt)[j+1]?=some (encR (QD (cnt.take (j+1)))):=by unfold Ur;rw[List.getElem?_cons_succ,List.getElem?_map,List.getElem?_range h];rfl
theorem kV {cnt:List Ev}(h:cnt≠[]):(Ur cnt)[cnt.length]?=some (encR (QD cnt)):=by have hp:=List.length_pos_iff.2 h;have:=wl (cnt:=cnt) (j:=cnt.length - 1) (by omega);rw[show cnt.length - 1+1=cnt.length by omega,List.take_length] at this;exact this
theorem XU (cnt:List Ev)(e:Ev):Ur cnt++[encR (QD (cnt++[e]))]=Ur (cnt++[e]):=by
 apply List.ext_getElem?;intro i;by_cases b:i=0
 ·subst b;rfl
 obtain⟨j,rfl⟩:∃j,i=j+1:=⟨i - 1,by omega⟩
 by_cases c:j<cnt.length
 ·rw[List.getElem?_append_left (by rw[Yd];omega),wl c,wl (by simp;omega),List.take_append_of_le_length (by omega)]
 ·by_cases a:j=cnt.length
  ·subst a;rw[List.getElem?_append_right (by rw[Yd];omega),Yd,Nat.sub_self,wl (by simp)];have e:(cnt++[e]).take (cnt.length+1)=cnt++[e]:=by rw[List.take_of_length_le];simp
   rw[e];rfl
  ·rw[List.getElem?_eq_none (by rw[jaj,Yd];simp;omega),List.getElem?_eq_none (by rw[Yd];simp;omega)]
theorem QcQ {cnt:List Ev}(h:cnt≠[]):(Ur cnt).take cnt.length=Ur cnt.dropLast:=by
 have hp:=List.length_pos_iff.2 h;have a:cnt=cnt.dropLast++[cnt.getLast h]:=(List.dropLast_concat_getLast h).symm;have b:cnt.length=(Ur cnt.dropLast).length:=by rw[Yd];simp;omega
 have e:Ur cnt=Ur cnt.dropLast++[encR (QD cnt)]:=by have:=XU cnt.dropLast (cnt.getLast h);rw[<-a] at this;exact this.symm
 conv=>lhs;rw[e,b]
 rw[List.take_left]
theorem wE {cnt:List Ev}:ZT (nth (Ur cnt) (Int.toNat (cnt.length:Int)))=decide (cnt=[]):=by
 rw[jtj,Ub];by_cases h:cnt=[]
 ·subst h;rfl
 ·rw[kV h,Qde];simp[h]
theorem elA {cnt:List Ev}(h:cnt≠[]):el Vy (Ur cnt) (cnt.length:Int)=some (Vb (QD cnt)):=by unfold el;rw[jTj (Int.natCast_nonneg _),jtj,Ub,kV h];rfl
theorem QcS {n:Nat}(i:100<=n){cnt:List Ev}(g:OkL cnt)(hc:cnt.length<=30){e:Ev}(l:chk e=0)(j:¬isU e=true) :
  ∃b,QZ n (QD cnt).tick (QD cnt).level (QD cnt).filled (QD cnt).tripped (QD cnt).light (QD cnt).heat (QD cnt).money ((QD cnt).sectors.map Sd) ((QD cnt).mirrors.map QY) ((QD cnt).offers.map Zj) e.1 e.2.1 (e.2.2.1.map Sd) (e.2.2.2.1.map I) e.2.2.2.2=some (Vc b (X0 (QD cnt) e))/\(X0 (QD cnt) e=0->b=QD (cnt++[e])):=by
 obtain⟨k,a⟩:=qn l;have c:k≠.undo:=fun h=>j (by rw[KY a];exact jDj h);obtain⟨b,d,f⟩:=QcR i (GG g hc) hc c a;refine⟨b,by rw[Gq a];exact d,fun h=>?_⟩;rw[Gq a] at h;rw[GA,XR a];exact f h
theorem Qa7 {e:Ev}(c:chk e=0):isU e=true↔e.2.1.data.toList=kw .undo:=by
 obtain⟨k,b⟩:=qn c;rw[KY b,decide_eq_true_eq];have:=b.kind;constructor
 ·rintro rfl;exact this
 ·intro h;have a:=E7 k;rw[<-this,h,E7] at a;exact(Option.some.inj a).symm
theorem uV {i:Nat}{cnt:List Ev}{e:Ev}(b:chk e=0)(a:¬e.1=(i:Int)+1):YM i cnt e=11:=by unfold YM;rw[jTj b,jFj a]
theorem QcF {i:Nat}{cnt:List Ev}{e:Ev}(c:chk e=0)(a:e.1=(i:Int)+1)(b:isU e=true):YM i cnt e=X7 cnt:=by unfold YM;rw[jTj c,jTj a,jTj b]
theorem QcG {i:Nat}{cnt:List Ev}{e:Ev}(c:chk e=0)(a:e.1=(i:Int)+1)(b:¬isU e=true):YM i cnt e=X0 (QD cnt) e:=by unfold YM;rw[jTj c,jTj a,jFj b]
theorem QcL {n:Nat}(F:100<=n)(l:List Ev)(K:l.length<=30){i:Nat}{e:Ev}(E:l[i]?=some e)(C:Yf e){cnt:List Ev}(z:OkL cnt)(hc:cnt.length<=i) :
  Zh n (l.map Zr) (.inr (cnt.map Zr,Ur cnt,(i:Int)))=some (if YM i cnt e=0 then .inl (.inr ((VO cnt e).map Zr,Ur (VO cnt e),((i+1:Nat):Int))) else .inr (.inl (((i+1:Nat):Int),YM i cnt e))):=by
 have hi:=(jGj E).1;have b:(cnt.map Zr).length=cnt.length:=jlj _;have hin:Qh ((i:Int)+1):=by unfold Qh;omega
 unfold Zh;dsimp only;rw[jTj (ZD E),qf E,jBj,Ga F e C,jBj];by_cases m:chk e=0
 ·rw[jTj m,jTj hin];by_cases d:e.1=(i:Int)+1
  ·rw[jTj d];by_cases q:isU e=true
   ·rw[jTj (keq ((Qa7 m).1 q) rfl),QcF m d q];unfold VO;rw[jTj q];cases hgl:cnt.getLast? with
    | none =>
     have J:=List.getLast?_eq_none_iff.1 hgl;subst J;rw[jTj (by rfl),jFj (show ¬X7 []=0 by decide)];rfl
    | some x =>
     have f:X7 cnt=if x.2.1.data.toList=kw .deliver\/x.2.1.data.toList=kw .bill then 21 else 0:=by unfold X7;rw[hgl]
     have c:cnt≠[]:=fun h=>by rw[h] at hgl;cases hgl
     have hp:=List.length_pos_iff.2 c;have w:=QcQ c;rw[List.getLast?_eq_getElem?] at hgl;have y:(((cnt.map Zr).length:Int) - 1)=((cnt.length - 1:Nat):Int):=by rw[b];omega
     rw[jFj (by rw[b];omega),y,jTj (by unfold Qh;omega),qf hgl,jBj];dsimp only;by_cases t:x.2.1.data.toList=kw .deliver
     ·rw[jTj (Or.inl t)] at f;rw[jTj (keq t rfl),f,jFj (by decide)];rfl
     ·rw[jFj (fun h=>t (by rw[kq] at h;exact h))];by_cases u:x.2.1.data.toList=kw .bill
      ·rw[jTj (Or.inr u)] at f;rw[jTj (keq u rfl),f,jFj (by decide)];rfl
      ·have A:¬(x.2.1.data.toList=kw .deliver\/x.2.1.data.toList=kw .bill):=by
        rintro(h|h)
        ·exact t h
        ·exact u h
       rw[jFj A] at f;rw[jFj (fun h=>u (by rw[kq] at h;exact h)),f,jTj rfl,jTj (by rw[b];refine⟨by omega,by omega,by omega,.inr rfl⟩),jTj (by rw[b,Yd];refine⟨by omega,by omega,by omega,.inr rfl⟩)];have G:((cnt.map Zr).take (Int.toNat ((cnt.length - 1:Nat):Int))).drop (Int.toNat 0)=cnt.dropLast.map Zr:=by rw[jtj,Int.toNat_zero,List.drop_zero,List.dropLast_eq_take,List.map_take]
       have H:((Ur cnt).take (Int.toNat ((cnt.map Zr).length:Int))).drop (Int.toNat 0)=Ur cnt.dropLast:=by rw[jtj,Int.toNat_zero,List.drop_zero,b,w]
       rw[G,H];rfl
   ·rw[jFj (fun h=>q ((Qa7 m).2 (by rw[kq] at h;exact h))),QcG m d q];obtain⟨v,r,s⟩:=QcS F z (by omega) m q;unfold VO;rw[jFj q];have a:Wa 88 (0+(cnt.map Zr).length)/\Wa 88 ((cnt.map Zr).length+1)/\Wa 120 (0+(Ur cnt).length)/\Wa 120 ((Ur cnt).length+1) :=
     ⟨V7 (by decide) (by rw[b];omega),V7 (by decide) (by rw[b];omega),V7 (by decide) (by rw[Yd];omega),V7 (by decide) (by rw[Yd];omega)⟩
    by_cases c:cnt=[]
    ·have k:ZT (nth (Ur cnt) (Int.toNat ((cnt.map Zr).length:Int)))=true:=by rw[b,wE];exact jDj c
     rw[jTj k,jTj (Int.natCast_nonneg _)];have o:=r;rw[c] at o;refine Eq.trans (congrArg (fun x=>Option.bind x _) o) ?_;rw[jBj];by_cases g:X0 (QD cnt) e=0
     ·have p:=s g;have j:=g;rw[c] at j;rw[jTj (show(Vc v (X0 (QD []) e)).2.2.2.2.2.2.2.2.2.2=0 from j),jTj a.1,jTj a.2.1,jTj a.2.2.1,jTj a.2.2.2,jTj g,List.map_append,<-XU,p];rfl
     ·have j:=g;rw[c] at j;rw[jFj (show ¬(Vc v (X0 (QD []) e)).2.2.2.2.2.2.2.2.2.2=0 from j),jFj g,c];rfl
    ·have k:¬ZT (nth (Ur cnt) (Int.toNat ((cnt.map Zr).length:Int)))=true:=by rw[b,wE];simpa using c
     rw[jFj k,b,elA c,jBj];refine Eq.trans (congrArg (fun x=>Option.bind x _) r) ?_;rw[b] at a;rw[jBj];by_cases g:X0 (QD cnt) e=0
     ·have p:=s g;rw[jTj (show(Vc v (X0 (QD cnt) e)).2.2.2.2.2.2.2.2.2.2=0 from g),jTj a.1,jTj a.2.1,jTj a.2.2.1,jTj a.2.2.2,jTj g,List.map_append,<-XU,p];rfl
     ·rw[jFj (show ¬(Vc v (X0 (QD cnt) e)).2.2.2.2.2.2.2.2.2.2=0 from g),jFj g];rfl
  ·rw[jFj d,uV m d,jFj (by decide)];rfl
 ·rw[jFj m,Gg m,jFj m,jTj hin];rfl
theorem QbV {n:Nat}(l:100<=n)(e:Ev)(m:List Ev)(k:Yf e) :
  Zh n ((e::m).map Zr) (.inl ())=some (if YM 0 [] e=0 then .inl (.inr ((VO [] e).map Zr,Ur (VO [] e),1)) else .inr (.inl (1,YM 0 [] e))):=by
 have p:(e::m)[0]?=some e:=rfl;have f:(0:Int)<(((e::m).map Zr).length:Int):=by simp only[jCj,List.length_cons];omega
 unfold Zh;dsimp only;rw[jTj f,show el Ze ((e::m).map Zr) 0=_ from qf p,jBj,Ga l e k,jBj];by_cases b:chk e=0
 ·rw[jTj b];by_cases a:e.1=((0:Nat):Int)+1
  ·rw[jTj (show e.1=1 from a)];by_cases c:isU e=true
   ·rw[jTj (keq ((Qa7 b).1 c) rfl),QcF b a c,jFj (show ¬X7 []=0 by decide)];rfl
   ·rw[jFj (fun h=>c ((Qa7 b).2 (by rw[kq] at h;exact h))),QcG b a c];obtain⟨o,g,i⟩:=QcS l Jx (by simp) b c;unfold VO;rw[jFj c];refine Eq.trans (congrArg (fun x=>Option.bind x _) g) ?_;rw[jBj];by_cases d:X0 (QD []) e=0
    ·have j:=i d;rw[jTj (show(Vc o (X0 (QD []) e)).2.2.2.2.2.2.2.2.2.2=0 from d),jTj d,<-XU,j];rfl
    ·rw[jFj (show ¬(Vc o (X0 (QD []) e)).2.2.2.2.2.2.2.2.2.2=0 from d),jFj d];rfl
  ·rw[jFj (show ¬e.1=1 from a),uV b a,jFj (by decide)]
 ·rw[jFj b,Gg b,jFj b]
theorem Qad {n:Nat}(i:100<=n)(l:List Ev)(g:l.length<=30)(j:∀e,e∈l->Yf e):∀(m pre cnt:List Ev) (k:Nat),l=pre++m->OkL cnt->cnt.length<=pre.length->m.length<k ->
  Q2 (Zh n (l.map Zr)) k (.inr (cnt.map Zr,Ur cnt,(pre.length:Int)))=some (match rep pre.length cnt m with
   | .inr c=>.inr (.inr (c.map Zr,Ur c))
   | .inl p=>.inl p)
 | [],pre,cnt,k,hl0,hok,hc,hk=>by rw[List.append_nil] at hl0;subst hl0;unfold rep;refine Zf (by omega) ?_;unfold Zh;dsimp only;rw[jFj (by rw[jlj];omega)]
 | e::m,pre,cnt,k,hl0,hok,hc,hk=>by
  have h:l.length=pre.length+(m.length+1):=by rw[hl0];simp
  have o:l[pre.length]?=some e:=by rw[hl0,List.getElem?_append_right (jLj _),Nat.sub_self];rfl
  have a:=QcL i l g o (j e (jgj o)) hok hc;unfold rep;by_cases b:YM pre.length cnt e=0
  ·rw[jTj b] at a ⊢;obtain⟨d,f⟩:=Xk hok hc b;rw[Wy (by omega) a];have:=Qad i l g j m (pre++[e]) (VO cnt e) (k - 1) (by rw[hl0];simp) d (by rw[jaj];exact f) (by simp at hk;omega);have q:(pre++[e]).length=pre.length+1:=by simp
   rw[q] at this;exact this
  ·rw[jFj b] at a ⊢;exact Zf (by omega) a
def cntD:(Int×Int)⊕List Ev->jVj×jVj×Int×Int
 | .inr c=>(c.map Zr,Ur c,0,0)
 | .inl p=>([],[],p.1,p.2)
theorem QaS {n:Nat}(i:100<=n)(l:List Ev)(h:l.length<=30)(j:∀e,e∈l->Yf e):V1 n (l.map Zr)=some (cntD (rep 0 [] l)):=by
 have d:¬(((l.map Zr).length:Int)>1000):=by rw[jlj];omega
 unfold V1;rw[jFj d];cases l with
 | nil =>
  have:Q2 (Zh n (([]:List Ev).map Zr)) n (.inl ())=some (.inr (.inl ())):=by refine Zf (by omega) ?_;unfold Zh;dsimp only;rw[jFj (by decide)]
  rw[this];rfl
 | cons e m =>
  have a:=QbV i e m (j e jMj);unfold rep;by_cases b:YM 0 [] e=0
  ·rw[jTj b] at a ⊢;obtain⟨f,g⟩:=Xk Jx (jLj _) b;have:=Qad i (e::m) h j m [e] (VO [] e) (n - 1) rfl f (by simpa using g) (by simp at h;omega);have k:([e]:List Ev).length=0+1:=rfl;rw[k] at this;rw[Wy (by omega) a,show Q2 (Zh n ((e::m).map Zr)) (n - 1) (.inr ((VO [] e).map Zr,Ur (VO [] e),1))=_ from this];cases rep (0+1) (VO [] e) m with
   | inr c=>rfl
   | inl p=>rfl
  ·rw[jFj b] at a ⊢;rw[Zf (by omega) a];rfl
abbrev RepT:=Int×Int×Bool×Bool×Int×Int×Int×jVj×jVj×jVj×Int×Int
def outF (r:Reg)(a b:Int):RepT:=(r.tick,r.level,r.filled,r.tripped,r.light,r.heat,r.money,r.sectors.map Sd,r.mirrors.map QY,r.offers.map Zj,a,b)
def repD:(Int×Int)⊕List Ev->RepT
 | .inr c=>outF (QD c) 0 0
 | .inl p=>outF Reg.zero p.1 p.2
theorem yn:∀(l cnt:List Ev) (i:Nat) (p:Int×Int),rep i cnt l=.inl p->p.2≠0
 | [],cnt,i,p,h=>by cases h
 | e::l,cnt,i,p,h=>by
  unfold rep at h;by_cases a:YM i cnt e=0
  ·rw[jTj a] at h;exact yn l _ _ p h
  ·rw[jFj a] at h;cases h;exact a
theorem Qaq:∀(l cnt:List Ev) (i:Nat) (c:List Ev),OkL cnt->cnt.length<=i->rep i cnt l=.inr c->OkL c/\c.length<=i+l.length
 | [],cnt,i,c,h1,h2,h=>by cases h;exact⟨h1,by simpa using h2⟩
 | e::l,cnt,i,c,h1,h2,h=>by
  unfold rep at h;by_cases a:YM i cnt e=0
  ·rw[jTj a] at h;obtain⟨b,d⟩:=Xk h1 h2 a;obtain⟨f,g⟩:=Qaq l _ _ c b d h;exact⟨f,by simp;omega⟩
  ·rw[jFj a] at h;cases h
theorem yp {n:Nat}(f:100<=n)(l:List Ev)(d:l.length<=30)(g:∀e,e∈l->Yf e):Vo n (l.map Zr)=some (repD (rep 0 [] l)):=by
 unfold Vo;rw[QaS f l d g,jBj];cases hr:rep 0 [] l with
 | inl p =>
  have hp:=yn _ _ _ _ hr;unfold cntD;dsimp only;rw[jFj hp];rfl
 | inr c =>
  have hc:=(Qaq l [] 0 c Jx (jLj 0) hr).2;have b:=Yd c;have a:(((Ur c).length:Int) - 1)=(c.length:Int):=by rw[Yd];omega
  unfold cntD;dsimp only;rw[jTj rfl,a,jTj (by unfold Qh;omega),wE];by_cases h:c=[]
  ·rw[jTj (jDj h),jTj (Int.natCast_nonneg _),h];rfl
  ·rw[jFj (by simpa using h),elA h,jBj];rfl
def shG (_:Unit)(s:jSj):Unit⊕(Unit⊕Unit):=if s.size>40 then .inr (.inl ()) else .inl ()
theorem ym:∀(l:List jSj),Y6 shG (fun _=>.inr ()) l ()=if l.all (fun s=>decide (s.size<=40))=true then .inr () else .inl ()
 | []=>rfl
 | s::l=>by
  unfold Y6 shG;by_cases h:s.size>40
  ·rw[jTj h];simp;omega
  ·rw[jFj h];have:decide (s.size<=40)=true:=jDj (by omega);simp only[List.all_cons,this,Bool.true_and];exact ym l
instance (e:Ev):Decidable (Yf e):=by unfold Yf;infer_instance
def evG (_:Unit)(e:Ev):Unit⊕(Unit⊕Unit):=if Yf e then .inl () else .inr (.inl ())
theorem Qbb:∀(l:List Ev),Y6 evG (fun _=>.inr ()) l ()=if ∀e,e∈l->Yf e then .inr () else .inl ()
 | []=>by unfold Y6;rw[jTj (fun e h=>(List.not_mem_nil h).elim)]
 | e::l=>by
  unfold Y6 evG;by_cases h:Yf e
  ·rw[jTj h];simp only;have d:=Qbb l;unfold evG at d;rw[d];by_cases b:∀e,e∈l->Yf e
   ·rw[jTj b,jTj (fun x a=>by
     obtain rfl|a:=List.mem_cons.1 a
     ·exact h
     ·exact b x a)]
   ·rw[jFj b,jFj (fun c=>b fun x a=>c x (jmj _ a))]
  ·rw[jFj h,jFj (fun c=>h (c e jMj))]
theorem wu {n:Nat}(z:100<=n)(l:List Ev)(b:Nat)(x:b<=50):WM n (l.map Zr) (b:Int)=some (decide (l.length<=b/\∀e,e∈l->Yf e)):=by
 unfold WM;by_cases r:l.length<=b
 ·rw[jFj (by rw[jlj];omega)];have q:=ZK (step:=Zw n (l.map Zr)) evG (fun _=>.inr ()) (fun i _=>(i:Int)) l (fun _ _=>True)
   (fun i _ e c _=>by
    have hi:=(jGj c).1;have t:=fun(w:e.2.2.1.length<=6)=>ZK (step:=Zx n (l.map Zr) (i:Int)) shG (fun _=>.inr ()) (fun j _=>(j:Int)) e.2.2.1 (fun _ _=>True)
     (fun j _ s d _=>by
      have y:=(jGj d).1;unfold shG Zx;by_cases h:s.size>40
      ·rw[jTj h];simp only;rw[qf c,jBj,jTj (ZD d),jH d,jBj,jTj (by omega)]
      ·rw[jFj h];refine⟨?_,trivial⟩;rw[qf c,jBj,jTj (ZD d),jH d,jBj,jFj (by omega),jTj (by unfold Qh;omega)];rfl)
     (fun s _=>by unfold Zx;rw[qf c,jBj,jFj (by simp)]) (s:=()) (k:=n) trivial (by omega)
    unfold evG;by_cases h:Yf e
    ·rw[jTj h];refine⟨?_,trivial⟩;obtain⟨m,g,o,p,u⟩:=h;have f:=t g;rw[ym,jTj (List.all_eq_true.2 fun s a=>jDj (u s a))] at f;unfold Zw;rw[jTj (ZD c),qf c,jBj];dsimp only;rw[jFj (by omega),jFj (by rw[jlj];omega),jFj (by rw[jlj];omega),jFj (by omega),show Q2 (Zx n (l.map Zr) (i:Int)) n 0=_ from f,jBj];dsimp only;rw[jTj (by unfold Qh;omega)];rfl
    ·rw[jFj h];unfold Zw;dsimp only;rw[jTj (ZD c),qf c,jBj];dsimp only;by_cases m:e.2.1.size<=40
     ·rw[jFj (by omega)];by_cases g:e.2.2.1.length<=6
      ·rw[jFj (by rw[jlj];omega)];by_cases o:e.2.2.2.1.length<=8
       ·rw[jFj (by rw[jlj];omega)];by_cases p:e.2.2.2.2.size<=200
        ·have f:=t g;rw[ym,jFj (fun v=>h ⟨m,g,o,p,fun s a=>of_decide_eq_true (List.all_eq_true.1 v s a)⟩)] at f;rw[jFj (by omega),show Q2 (Zx n (l.map Zr) (i:Int)) n 0=_ from f,jBj]
        ·rw[jTj (by omega)]
       ·rw[jTj (by rw[jlj];omega)]
      ·rw[jTj (by rw[jlj];omega)]
     ·rw[jTj (by omega)])
   (fun s _=>by unfold Zw;rw[jFj (by simp)]) (s:=()) (k:=n) trivial (by omega)
  rw[show Q2 (Zw n (l.map Zr)) n 0=_ from q,Qbb,jBj];by_cases a:∀e,e∈l->Yf e
  ·rw[jTj a,jDj ⟨r,a⟩]
  ·rw[jFj a,jEj (fun h=>a h.2)]
 ·rw[jTj (by rw[jlj];omega),jEj (fun h=>r h.1)]
theorem KL {n:Nat}(l:List jSj)(c:l.length<=5000)(b:l.length<n):Z5 n (l.map Sd) (l.map Sd)=some true:=by
 unfold Z5;rw[jTj rfl];have q:=ZK (step:=Wd n (l.map Sd) (l.map Sd)) (E:=Unit⊕Unit) (fun(_:Unit) (_:jSj)=>.inl ()) (fun _=>.inr ()) (fun i _=>(i:Int)) l (fun _ _=>True)
  (fun i _ s a _=>by have hi:=(jGj a).1;refine⟨?_,trivial⟩;unfold Wd;rw[jTj (ZD a),jH a,jBj,jBj,jFj (by rw[XZ];simp),jTj (by unfold Qh;omega)];rfl)
  (fun s _=>by unfold Wd;rw[jFj (by simp)]) (s:=()) (k:=n) trivial b
 have e:∀(l:List jSj),Y6 (E:=Unit⊕Unit) (fun(_:Unit) (_:jSj)=>.inl ()) (fun _=>.inr ()) l ()=.inr ():=by
  intro l;induction l with
  | nil=>rfl
  | cons x l ih=>exact ih
 rw[e] at q;rw[show Q2 (Wd n (l.map Sd) (l.map Sd)) n 0=_ from q];rfl
theorem Qeu {n:Nat}(l:List Int)(c:l.length<=5000)(b:l.length<n):Qd7 n (l.map I) (l.map I)=some true:=by
 unfold Qd7;rw[jTj rfl];have q:=ZK (step:=Qd2 n (l.map I) (l.map I)) (E:=Unit⊕Unit) (fun(_:Unit) (_:Int)=>.inl ()) (fun _=>.inr ()) (fun i _=>(i:Int)) l (fun _ _=>True)
  (fun i _ s a _=>by have hi:=(jGj a).1;refine⟨?_,trivial⟩;unfold Qd2;rw[jTj (ZD a),EM a,jBj,jBj,jTj rfl,jTj (by unfold Qh;omega)];rfl)
  (fun s _=>by unfold Qd2;rw[jFj (by simp)]) (s:=()) (k:=n) trivial b
 have e:∀(l:List Int),Y6 (E:=Unit⊕Unit) (fun(_:Unit) (_:Int)=>.inl ()) (fun _=>.inr ()) l ()=.inr ():=by
  intro l;induction l with
  | nil=>rfl
  | cons x l ih=>exact ih
 rw[e] at q;rw[show Q2 (Qd2 n (l.map I) (l.map I)) n 0=_ from q];rfl
theorem Qec {n:Nat}(l:List Ev)(d:∀e,e∈l->e.2.2.1.length<=60/\e.2.2.2.1.length<=60)(g:l.length<=5000)(b:l.length<n)(c:100<=n):Qd1 n (l.map Zr) (l.map Zr)=some true:=by
 unfold Qd1;rw[jTj rfl];have q:=ZK (step:=Qd0 n (l.map Zr) (l.map Zr)) (E:=Unit⊕Unit) (fun(_:Unit) (_:Ev)=>.inl ()) (fun _=>.inr ()) (fun i _=>(i:Int)) l (fun _ _=>True)
  (fun i _ e a _=>by have hi:=(jGj a).1;obtain⟨b1,f⟩:=d e (jgj a);refine⟨?_,trivial⟩;unfold Qd0;rw[jTj (ZD a),qf a,jBj,jBj];dsimp only;rw[jTj rfl,jFj (by rw[XZ];simp),KL _ (by omega) (by omega),jBj,jTj rfl,Qeu _ (by omega) (by omega),jBj,jTj rfl,jFj (by rw[XZ];simp),jTj (by unfold Qh;omega)];rfl)
  (fun s _=>by unfold Qd0;rw[jFj (by simp)]) (s:=()) (k:=n) trivial b
 have e:∀(l:List Ev),Y6 (E:=Unit⊕Unit) (fun(_:Unit) (_:Ev)=>.inl ()) (fun _=>.inr ()) l ()=.inr ():=by
  intro l;induction l with
  | nil=>rfl
  | cons x l ih=>exact ih
 rw[e] at q;rw[show Q2 (Qd0 n (l.map Zr) (l.map Zr)) n 0=_ from q];rfl
def cg (a:jSj)(s:Int×Int)(m:Mir):Int×Int:=if m.2.1=a then(s.1+1,if isA m=true then s.2+1 else s.2) else s
def cntM (a:jSj)(ms:List Mir):Int×Int:=Y6 (E:=Int×Int) (fun s m=>.inl (cg a s m)) (fun s=>s) ms (0,0)
theorem QeN {a:jSj}{s:Int×Int}{m:Mir}{i:Nat}(h:(0<=s.1/\s.1<=(i:Int))/\0<=s.2/\s.2<=(i:Int)):(0<=(cg a s m).1/\(cg a s m).1<=((i+1:Nat):Int))/\0<=(cg a s m).2/\(cg a s m).2<=((i+1:Nat):Int):=by
 unfold cg;split
 ·split
  ·simp only[Int.natCast_add,Int.natCast_one];omega
  ·simp only[Int.natCast_add,Int.natCast_one];omega
 ·simp only[Int.natCast_add,Int.natCast_one];omega
theorem QeM {n:Nat}(a:jSj){g h:jVj}{j l:Int}{o p:Bool}{r t u:Int}{b c:jVj}(ms:List Mir)(F:ms.length<=4000)(y:ms.length<n):VV n a g h j l o p r t u b (ms.map QY) c=some (cntM a ms):=by
 unfold VV;have q:=ZK (step:=Vu n a g h j l o p r t u b (ms.map QY) c) (E:=Int×Int) (fun(s:Int×Int) (m:Mir)=>.inl (cg a s m)) (fun s=>s) (fun i s=>(((i:Int),s.1,s.2):Int×Int×Int)) ms (fun i s=>(0<=s.1/\s.1<=(i:Int))/\0<=s.2/\s.2<=(i:Int))
  (fun i s m f v=>by
   have hi:=(jGj f).1;refine⟨?_,QeN v⟩;obtain⟨⟨b1,z⟩,A,C⟩:=v;unfold Vu;dsimp only;rw[jTj (ZD f),jTj ⟨Int.natCast_nonneg i,ZD f⟩,Q4 unM f,jBj];by_cases d:m.2.1=a
   ·rw[jFj (by rw[XZ,jDj d];decide),jTj (by unfold Qh;omega)];by_cases e:m.2.2.2.2.2=true
    ·rw[jTj e,jTj (by unfold Qh;omega),jTj (by unfold Qh;omega),show cg a s m=(s.1+1,s.2+1) from by unfold cg isA;rw[jTj d,jTj e]];rfl
    ·rw[jFj e,jTj (by unfold Qh;omega),show cg a s m=(s.1+1,s.2) from by unfold cg isA;rw[jTj d,jFj e]];rfl
   ·rw[jTj (by rw[XZ,jEj d];rfl),jTj (by unfold Qh;omega),show cg a s m=s from by unfold cg;rw[jFj d]];rfl)
  (fun s _=>by unfold Vu;dsimp only;rw[jFj (by simp)]) (s:=(0,0)) (by simp) (k:=n) y
 exact(congrArg (fun x:Option (Int×Int)=>x.bind fun w=>some (w.1,w.2)) q)
theorem QeQ {l:List Ev}{i:Nat}{e:Ev}(h:l[i]?=some e):(nth (l.map Zr) (Int.toNat (i:Int))).bind Ze=some (e.1,e.2.1,e.2.2.1.map Sd,e.2.2.2.1.map I,e.2.2.2.2):=by rw[jtj,Ub,List.getElem?_map,h];rfl
end Go.Proofs.YtljabneifpkbjaaGreatDoor
