/- Own texts, merged: PAcc, PAcs, PApp, PAfn, PAft, PInv, PHis, PRep, PCnt, PCou. -/
import Derived.Test.YtljabneifpkbjaaGreatDoorPChk
set_option maxRecDepth 20000
namespace Go.Proofs.YtljabneifpkbjaaGreatDoor
open Go.SX
def iM (ms:List Mir) (a:jSj):Nat:=(pos (nmM ms) a).getD 0
def iO (os:List Off) (a:jSj):Nat:=(pos (nmO os) a).getD 0
def zM:Mir:=(⟨#[]⟩,⟨#[]⟩,0,0,false,false)
def zO:Off:=(⟨#[]⟩,0,0,0,0,0,false)
def mAt (ms:List Mir) (a:jSj):Mir:=ms.getD (iM ms a) zM
def oAt (os:List Off) (a:jSj):Off:=os.getD (iO os a) zO
theorem WP {ms:List Mir} {a:jSj} (h:Zu (nmM ms) a=true):YJ (nmM ms) a=(iM ms a:Int)∧iM ms a < ms.length∧ms[iM ms a]?=some (mAt ms a):=by
 obtain ⟨i,hi⟩:=Option.isSome_iff_exists.1 h
 obtain ⟨h1,h2⟩:=wB hi
 have e:iM ms a=i:=by unfold iM;rw [hi];rfl
 have hl:i < ms.length:=by unfold nmM at h1;simpa using h1
 refine ⟨by unfold YJ;rw [hi,e],by rw [e];exact hl,?_⟩
 unfold mAt
 rw [e,List.getD_eq_getElem?_getD,List.getElem?_eq_getElem hl];rfl
theorem JV {os:List Off} {a:jSj} (h:Zu (nmO os) a=true):YJ (nmO os) a=(iO os a:Int)∧iO os a < os.length∧os[iO os a]?=some (oAt os a):=by
 obtain ⟨i,hi⟩:=Option.isSome_iff_exists.1 h
 obtain ⟨h1,h2⟩:=wB hi
 have e:iO os a=i:=by unfold iO;rw [hi];rfl
 have hl:i < os.length:=by unfold nmO at h1;simpa using h1
 refine ⟨by unfold YJ;rw [hi,e],by rw [e];exact hl,?_⟩
 unfold oAt
 rw [e,List.getD_eq_getElem?_getD,List.getElem?_eq_getElem hl];rfl
def known (k:Ki) (r:Reg) (ns:List jSj):Int:=match k with
 | .sector=>QF (Zu r.sectors (ns.getD 0 ⟨#[]⟩)) 9
 | .mirror=>if Zu r.sectors (ns.getD 1 ⟨#[]⟩)=true then QF (Zu (nmM r.mirrors) (ns.getD 0 ⟨#[]⟩)) 9 else 10
 | .dim=>QF (!Zu r.sectors (ns.getD 0 ⟨#[]⟩)) 10
 | .offer=>QF (Zu (nmO r.offers) (ns.getD 0 ⟨#[]⟩)) 9
 | .deliver=>QF (!Zu (nmO r.offers) (ns.getD 0 ⟨#[]⟩)) 10
 | .bill=>QF (!Zu (nmO r.offers) (ns.getD 0 ⟨#[]⟩)) 10
 | .soil=>QF (!Zu (nmM r.mirrors) (ns.getD 0 ⟨#[]⟩)) 10
 | .clean=>QF (!Zu (nmM r.mirrors) (ns.getD 0 ⟨#[]⟩)) 10
 | .defect=>QF (!Zu (nmM r.mirrors) (ns.getD 0 ⟨#[]⟩)) 10
 | .repair=>QF (!Zu (nmM r.mirrors) (ns.getD 0 ⟨#[]⟩)) 10
 | .aim=>QF (!Zu (nmM r.mirrors) (ns.getD 0 ⟨#[]⟩)) 10
 | .park=>QF (!Zu (nmM r.mirrors) (ns.getD 0 ⟨#[]⟩)) 10
 | _=>0
def ws (vs:List Int):Int:=if vs.getD 1 0 < vs.getD 0 0 then 14 else QF (decide (vs.getD 1 0 ≥ vs.getD 2 0)) 14
def spec (k:Ki) (r:Reg) (ns:List jSj) (vs:List Int):Int:=match k with
 | .sector=>QF ((r.sectors.length:Int) == 8) 5
 | .mirror=>Qt [inR (vs.getD 1 0) 1 100,QF ((r.mirrors.length:Int) == 32) 5]
 | .soil=>inR (vs.getD 1 0) 0 1000
 | .defect=>Qt [QF (mAt r.mirrors (ns.getD 0 ⟨#[]⟩)).2.2.2.2.1 9,QF (mAt r.mirrors (ns.getD 0 ⟨#[]⟩)).2.2.2.2.2 31]
 | .repair=>QF (!(mAt r.mirrors (ns.getD 0 ⟨#[]⟩)).2.2.2.2.1) 22
 | .aim=>Qt [QF (!r.filled) 30,QF r.tripped 29,QF (mAt r.mirrors (ns.getD 0 ⟨#[]⟩)).2.2.2.2.1 21,QF (mAt r.mirrors (ns.getD 0 ⟨#[]⟩)).2.2.2.2.2 9]
 | .park=>QF (!(mAt r.mirrors (ns.getD 0 ⟨#[]⟩)).2.2.2.2.2) 22
 | .sun=>inR (vs.getD 1 0) 0 1000
 | .fill=>QF r.filled 9
 | .drain=>Qt [QF (!r.filled) 22,QF (r.mirrors.any isA) 31]
 | .trip=>QF r.tripped 9
 | .reset=>QF (!r.tripped) 22
 | .offer=>Qt [ws vs,inR (vs.getD 3 0) 1 1000,inR (vs.getD 4 0) 0 1000,QF ((r.offers.length:Int) == 32) 5]
 | .deliver=>if Qt [QF (oAt r.offers (ns.getD 0 ⟨#[]⟩)).2.2.2.2.2.2 23,if vs.getD 0 0 < (oAt r.offers (ns.getD 0 ⟨#[]⟩)).2.1 then 14 else QF (decide (vs.getD 0 0 ≥ (oAt r.offers (ns.getD 0 ⟨#[]⟩)).2.2.1)) 14,QF (vs.getD 1 0 == 0) 3,QF (decide (vs.getD 1 0 > Ws (oAt r.offers (ns.getD 0 ⟨#[]⟩)))) 20]=0
   then QF (decide (vs.getD 1 0 * 1000000 > r.heat+ZL r (vs.getD 0 0))) 16
   else Qt [QF (oAt r.offers (ns.getD 0 ⟨#[]⟩)).2.2.2.2.2.2 23,if vs.getD 0 0 < (oAt r.offers (ns.getD 0 ⟨#[]⟩)).2.1 then 14 else QF (decide (vs.getD 0 0 ≥ (oAt r.offers (ns.getD 0 ⟨#[]⟩)).2.2.1)) 14,QF (vs.getD 1 0 == 0) 3,QF (decide (vs.getD 1 0 > Ws (oAt r.offers (ns.getD 0 ⟨#[]⟩)))) 20]
 | .bill=>Qt [QF (oAt r.offers (ns.getD 0 ⟨#[]⟩)).2.2.2.2.2.2 23,QF (decide (vs.getD 0 0 < (oAt r.offers (ns.getD 0 ⟨#[]⟩)).2.2.1)) 32]
 | _=>0
def acc (k:Ki) (r:Reg) (ns:List jSj) (vs:List Int):Int:=if vs.getD 0 0 < r.tick then 22 else Qt [Zk r (vs.getD 0 0),known k r ns,spec k r ns vs]
theorem Wy {S E:Type} {step:S→Option (S⊕E)} {k:Nat} {s s' : S} (hk:0 < k) (h:step s=some (.inl s')):Q2 step k s=Q2 step (k - 1) s':=by
 obtain ⟨j,rfl⟩:∃ j,k=j+1:=⟨k - 1,by omega⟩
 exact E3 h
theorem Zf {S E:Type} {step:S→Option (S⊕E)} {k:Nat} {s:S} {e:E} (hk:0 < k) (h:step s=some (.inr e)):Q2 step k s=some e:=by
 obtain ⟨j,rfl⟩:∃ j,k=j+1:=⟨k - 1,by omega⟩
 exact JB h
theorem Gd {n:Nat} (hn:100≤n) {a6:jVj} {a1:Int} {a2 a3:FnD} {a4:Int} {a5:jSj} {a7:jVj} {a8:jSj} {a9 a10:jVj} {a11 a12:Int} {a13 a14:Bool} {a15 a16 a17:Int} {a18:jVj} {a19:jVj} {a20:jVj}:Qk n (⟨#[]⟩) a1 a2 a3 a4 a5 a6 a7 a8 a9 a10 a11 a12 a13 a14 a15 a16 a17 a18 a19 a20=some (0):=by
 unfold Qk
 have q:Qg n (⟨#[]⟩) a1 a2 a3 a4 a5 a6 a7 a8 a9 a10 a11 a12 a13 a14 a15 a16 a17 a18 a19 a20 (false,0)=some (.inr (.inr false)):=by
  unfold Qg
  dsimp only
  rw [jFj (by decide)]
 rw [Zf (by omega) q,jBj]
 dsimp only
 rw [Zd,jBj];rfl
theorem Qc7 {n:Nat} (hn:100≤n) {a1:Int} {a2 a3:FnD} {a4:Int} {a5:jSj} {a7:jVj} {a8:jSj} {a9 a10:jVj} {a11 a12:Int} {a13 a14:Bool} {a15 a16 a17:Int} {a19:jVj} {a20:jVj} (ss:List jSj) (hs:ss.length≤40) (a:jSj):Qk n (⟨#[83]⟩) a1 a2 a3 a4 a5 [Sd a] a7 a8 a9 a10 a11 a12 a13 a14 a15 a16 a17 (ss.map Sd) a19 a20=some (QF (Zu ss a) 9):=by
 unfold Qk
 have q:Qg n (⟨#[83]⟩) a1 a2 a3 a4 a5 [Sd a] a7 a8 a9 a10 a11 a12 a13 a14 a15 a16 a17 (ss.map Sd) a19 a20 (false,0)=some (.inl (Zu ss a,1)):=by
  unfold Qg
  dsimp only
  rw [jTj (by decide),show WQ ⟨#[83]⟩ 0=some 83 from rfl,jBj,jTj (by decide),jTj (by decide),gs0,W4 ss a (by omega) (by omega),jBj,jFj (by decide),jTj (by decide)];rfl
 have q2:Qg n (⟨#[83]⟩) a1 a2 a3 a4 a5 [Sd a] a7 a8 a9 a10 a11 a12 a13 a14 a15 a16 a17 (ss.map Sd) a19 a20 (Zu ss a,1)=some (.inr (.inr (Zu ss a))):=by
  unfold Qg
  dsimp only
  rw [jFj (show ¬ (1:Int) < ((⟨#[83]⟩:jSj).size:Int) by decide)]
 rw [Wy (by omega) q,Zf (by omega) q2,jBj]
 dsimp only
 rw [Zd,jBj]
theorem Qc8 {n:Nat} (hn:100≤n) {a1:Int} {a2 a3:FnD} {a4:Int} {a5:jSj} {a7:jVj} {a8:jSj} {a9 a10:jVj} {a11 a12:Int} {a13 a14:Bool} {a15 a16 a17:Int} {a18:jVj} {a19:jVj} (os:List Off) (ho:os.length≤40) (a:jSj):Qk n (⟨#[79]⟩) a1 a2 a3 a4 a5 [Sd a] a7 a8 a9 a10 a11 a12 a13 a14 a15 a16 a17 a18 a19 (os.map Zj)=some (QF (Zu (nmO os) a) 9):=by
 unfold Qk
 have q:Qg n (⟨#[79]⟩) a1 a2 a3 a4 a5 [Sd a] a7 a8 a9 a10 a11 a12 a13 a14 a15 a16 a17 a18 a19 (os.map Zj) (false,0)=some (.inl (Zu (nmO os) a,1)):=by
  unfold Qg
  dsimp only
  rw [jTj (by decide),show WQ ⟨#[79]⟩ 0=some 79 from rfl,jBj,jTj (by decide),jFj (by decide),show IntKind.wrap .u8 (79+32)=111 from by decide,EC os (by omega) (by omega),jBj,gs0,W4 (nmO os) a (by rw [Vq];omega) (by rw [Vq];omega),jBj,jFj (by decide),jTj (by decide)];rfl
 have q2:Qg n (⟨#[79]⟩) a1 a2 a3 a4 a5 [Sd a] a7 a8 a9 a10 a11 a12 a13 a14 a15 a16 a17 a18 a19 (os.map Zj) (Zu (nmO os) a,1)=some (.inr (.inr (Zu (nmO os) a))):=by
  unfold Qg
  dsimp only
  rw [jFj (show ¬ (1:Int) < ((⟨#[79]⟩:jSj).size:Int) by decide)]
 rw [Wy (by omega) q,Zf (by omega) q2,jBj]
 dsimp only
 rw [Zd,jBj]
theorem Qc6 {n:Nat} (hn:100≤n) {a1:Int} {a2 a3:FnD} {a4:Int} {a5:jSj} {a7:jVj} {a8:jSj} {a9 a10:jVj} {a11 a12:Int} {a13 a14:Bool} {a15 a16 a17:Int} {a19:jVj} {a20:jVj} (ss:List jSj) (hs:ss.length≤40) (a:jSj):Qk n (⟨#[115]⟩) a1 a2 a3 a4 a5 [Sd a] a7 a8 a9 a10 a11 a12 a13 a14 a15 a16 a17 (ss.map Sd) a19 a20=some (QF (!Zu ss a) 10):=by
 unfold Qk
 by_cases h:Zu ss a=true
 ·have q:Qg n (⟨#[115]⟩) a1 a2 a3 a4 a5 [Sd a] a7 a8 a9 a10 a11 a12 a13 a14 a15 a16 a17 (ss.map Sd) a19 a20 (false,0)=some (.inl (false,1)):=by
   unfold Qg
   dsimp only
   rw [jTj (by decide),show WQ ⟨#[115]⟩ 0=some 115 from rfl,jBj,jFj (by decide),jTj (by decide),gs0,W4 ss a (by omega) (by omega),jBj,jTj h,jFj (by decide),jTj (by decide)];rfl
  have q2:Qg n (⟨#[115]⟩) a1 a2 a3 a4 a5 [Sd a] a7 a8 a9 a10 a11 a12 a13 a14 a15 a16 a17 (ss.map Sd) a19 a20 (false,1)=some (.inr (.inr false)):=by
   unfold Qg
   dsimp only
   rw [jFj (show ¬ (1:Int) < ((⟨#[115]⟩:jSj).size:Int) by decide)]
  rw [Wy (by omega) q,Zf (by omega) q2,jBj,h]
  dsimp only
  rw [Zd,jBj];rfl
 ·have q:Qg n (⟨#[115]⟩) a1 a2 a3 a4 a5 [Sd a] a7 a8 a9 a10 a11 a12 a13 a14 a15 a16 a17 (ss.map Sd) a19 a20 (false,0)=some (.inr (.inl ())):=by
   unfold Qg
   dsimp only
   rw [jTj (by decide),show WQ ⟨#[115]⟩ 0=some 115 from rfl,jBj,jFj (by decide),jTj (by decide),gs0,W4 ss a (by omega) (by omega),jBj,jFj h]
  rw [Zf (by omega) q,jBj]
  simp only [Bool.not_eq_true] at h
  rw [h];rfl
theorem XO {n:Nat} (hn:100≤n) {a1:Int} {a2 a3:FnD} {a4:Int} {a5:jSj} {a7:jVj} {a8:jSj} {a9 a10:jVj} {a11 a12:Int} {a13 a14:Bool} {a15 a16 a17:Int} {a18:jVj} {a20:jVj} (ms:List Mir) (hm:ms.length≤40) (a:jSj):Qk n (⟨#[109]⟩) a1 a2 a3 a4 a5 [Sd a] a7 a8 a9 a10 a11 a12 a13 a14 a15 a16 a17 a18 (ms.map QY) a20=some (QF (!Zu (nmM ms) a) 10):=by
 unfold Qk
 by_cases h:Zu (nmM ms) a=true
 ·have q:Qg n (⟨#[109]⟩) a1 a2 a3 a4 a5 [Sd a] a7 a8 a9 a10 a11 a12 a13 a14 a15 a16 a17 a18 (ms.map QY) a20 (false,0)=some (.inl (false,1)):=by
   unfold Qg
   dsimp only
   rw [jTj (by decide),show WQ ⟨#[109]⟩ 0=some 109 from rfl,jBj,jFj (by decide),jFj (by decide),UC ms (by omega) (by omega),jBj,gs0,W4 (nmM ms) a (by rw [Zo];omega) (by rw [Zo];omega),jBj,jTj h,jFj (by decide),jTj (by decide)];rfl
  have q2:Qg n (⟨#[109]⟩) a1 a2 a3 a4 a5 [Sd a] a7 a8 a9 a10 a11 a12 a13 a14 a15 a16 a17 a18 (ms.map QY) a20 (false,1)=some (.inr (.inr false)):=by
   unfold Qg
   dsimp only
   rw [jFj (show ¬ (1:Int) < ((⟨#[109]⟩:jSj).size:Int) by decide)]
  rw [Wy (by omega) q,Zf (by omega) q2,jBj,h]
  dsimp only
  rw [Zd,jBj];rfl
 ·have q:Qg n (⟨#[109]⟩) a1 a2 a3 a4 a5 [Sd a] a7 a8 a9 a10 a11 a12 a13 a14 a15 a16 a17 a18 (ms.map QY) a20 (false,0)=some (.inr (.inl ())):=by
   unfold Qg
   dsimp only
   rw [jTj (by decide),show WQ ⟨#[109]⟩ 0=some 109 from rfl,jBj,jFj (by decide),jFj (by decide),UC ms (by omega) (by omega),jBj,gs0,W4 (nmM ms) a (by rw [Zo];omega) (by rw [Zo];omega),jBj,jFj h]
  rw [Zf (by omega) q,jBj]
  simp only [Bool.not_eq_true] at h
  rw [h];rfl
theorem Qbo {n:Nat} (hn:100≤n) {a1:Int} {a2 a3:FnD} {a4:Int} {a5:jSj} {a7:jVj} {a8:jSj} {a9 a10:jVj} {a11 a12:Int} {a13 a14:Bool} {a15 a16 a17:Int} {a18:jVj} {a19:jVj} (os:List Off) (ho:os.length≤40) (a:jSj):Qk n (⟨#[111]⟩) a1 a2 a3 a4 a5 [Sd a] a7 a8 a9 a10 a11 a12 a13 a14 a15 a16 a17 a18 a19 (os.map Zj)=some (QF (!Zu (nmO os) a) 10):=by
 unfold Qk
 by_cases h:Zu (nmO os) a=true
 ·have q:Qg n (⟨#[111]⟩) a1 a2 a3 a4 a5 [Sd a] a7 a8 a9 a10 a11 a12 a13 a14 a15 a16 a17 a18 a19 (os.map Zj) (false,0)=some (.inl (false,1)):=by
   unfold Qg
   dsimp only
   rw [jTj (by decide),show WQ ⟨#[111]⟩ 0=some 111 from rfl,jBj,jFj (by decide),jFj (by decide),EC os (by omega) (by omega),jBj,gs0,W4 (nmO os) a (by rw [Vq];omega) (by rw [Vq];omega),jBj,jTj h,jFj (by decide),jTj (by decide)];rfl
  have q2:Qg n (⟨#[111]⟩) a1 a2 a3 a4 a5 [Sd a] a7 a8 a9 a10 a11 a12 a13 a14 a15 a16 a17 a18 a19 (os.map Zj) (false,1)=some (.inr (.inr false)):=by
   unfold Qg
   dsimp only
   rw [jFj (show ¬ (1:Int) < ((⟨#[111]⟩:jSj).size:Int) by decide)]
  rw [Wy (by omega) q,Zf (by omega) q2,jBj,h]
  dsimp only
  rw [Zd,jBj];rfl
 ·have q:Qg n (⟨#[111]⟩) a1 a2 a3 a4 a5 [Sd a] a7 a8 a9 a10 a11 a12 a13 a14 a15 a16 a17 a18 a19 (os.map Zj) (false,0)=some (.inr (.inl ())):=by
   unfold Qg
   dsimp only
   rw [jTj (by decide),show WQ ⟨#[111]⟩ 0=some 111 from rfl,jBj,jFj (by decide),jFj (by decide),EC os (by omega) (by omega),jBj,gs0,W4 (nmO os) a (by rw [Vq];omega) (by rw [Vq];omega),jBj,jFj h]
  rw [Zf (by omega) q,jBj]
  simp only [Bool.not_eq_true] at h
  rw [h];rfl
theorem Qcx {n:Nat} (hn:100≤n) {a1:Int} {a2 a3:FnD} {a4:Int} {a5:jSj} {a7:jVj} {a8:jSj} {a9 a10:jVj} {a11 a12:Int} {a13 a14:Bool} {a15 a16 a17:Int} {a20:jVj} (ss:List jSj) (hs:ss.length≤40) (ms:List Mir) (hm:ms.length≤40) (a b:jSj):Qk n (⟨#[77,115]⟩) a1 a2 a3 a4 a5 [Sd a,Sd b] a7 a8 a9 a10 a11 a12 a13 a14 a15 a16 a17 (ss.map Sd) (ms.map QY) a20=some (if Zu ss b=true then QF (Zu (nmM ms) a) 9 else 10):=by
 unfold Qk
 have q:Qg n (⟨#[77,115]⟩) a1 a2 a3 a4 a5 [Sd a,Sd b] a7 a8 a9 a10 a11 a12 a13 a14 a15 a16 a17 (ss.map Sd) (ms.map QY) a20 (false,0)=some (.inl (Zu (nmM ms) a,1)):=by
  unfold Qg
  dsimp only
  rw [jTj (by decide),show WQ ⟨#[77,115]⟩ 0=some 77 from rfl,jBj,jTj (by decide),jFj (by decide),show IntKind.wrap .u8 (77+32)=109 from by decide,UC ms (by omega) (by omega),jBj,gs0,W4 (nmM ms) a (by rw [Zo];omega) (by rw [Zo];omega),jBj,jFj (by decide),jTj (by decide)];rfl
 rw [Wy (by omega) q]
 by_cases h:Zu ss b=true
 ·have q2:Qg n (⟨#[77,115]⟩) a1 a2 a3 a4 a5 [Sd a,Sd b] a7 a8 a9 a10 a11 a12 a13 a14 a15 a16 a17 (ss.map Sd) (ms.map QY) a20 (Zu (nmM ms) a,1)=some (.inl (Zu (nmM ms) a,2)):=by
   unfold Qg
   dsimp only
   rw [jTj (show (1:Int) < ((⟨#[77,115]⟩:jSj).size:Int) by decide),show WQ ⟨#[77,115]⟩ 1=some 115 from rfl,jBj,jFj (by decide),jTj rfl,gs1,W4 ss b (by omega) (by omega),jBj,jTj h]
   by_cases g:Zu (nmM ms) a=true
   ·rw [jTj g,jTj (by decide),g];rfl
   ·rw [jFj g,jTj (by decide)]
    simp only [Bool.not_eq_true] at g
    rw [g];rfl
  have q3:Qg n (⟨#[77,115]⟩) a1 a2 a3 a4 a5 [Sd a,Sd b] a7 a8 a9 a10 a11 a12 a13 a14 a15 a16 a17 (ss.map Sd) (ms.map QY) a20 (Zu (nmM ms) a,2)=some (.inr (.inr (Zu (nmM ms) a))):=by
   unfold Qg
   dsimp only
   rw [jFj (show ¬ (2:Int) < ((⟨#[77,115]⟩:jSj).size:Int) by decide)]
  rw [Wy (by omega) q2,Zf (by omega) q3,jBj,jTj h]
  dsimp only
  rw [Zd,jBj]
 ·have q2:Qg n (⟨#[77,115]⟩) a1 a2 a3 a4 a5 [Sd a,Sd b] a7 a8 a9 a10 a11 a12 a13 a14 a15 a16 a17 (ss.map Sd) (ms.map QY) a20 (Zu (nmM ms) a,1)=some (.inr (.inl ())):=by
   unfold Qg
   dsimp only
   rw [jTj (show (1:Int) < ((⟨#[77,115]⟩:jSj).size:Int) by decide),show WQ ⟨#[77,115]⟩ 1=some 115 from rfl,jBj,jFj (by decide),jTj rfl,gs1,W4 ss b (by omega) (by omega),jBj,jFj h]
  rw [Zf (by omega) q2,jBj,jFj h]
end Go.Proofs.YtljabneifpkbjaaGreatDoor
set_option maxRecDepth 20000
namespace Go.Proofs.YtljabneifpkbjaaGreatDoor
open Go.SX
theorem Xq {a b c:Int} {x:Option Int} (h:Qt [a,b]=0→x=some c):(if Qt [a,b]=0 then x else some (Qt [a,b]))=some (Qt [a,b,c]):=by
 by_cases h0:Qt [a,b]=0
 ·rw [jTj h0,h h0]
  have h1:=Zv h0 a (by simp)
  have h2:=Zv h0 b (by simp)
  subst h1 h2
  simp only [Qt,if_true]
  by_cases hc:c=0
  ·rw [jTj hc,hc]
  ·rw [jFj hc]
 ·rw [jFj h0]
  simp only [Qt] at h0 ⊢
  by_cases ha:a=0
  ·subst ha
   simp only [if_true] at h0 ⊢
   by_cases hb:b=0
   ·subst hb;exact absurd rfl h0
   ·rw [jFj hb,jFj hb]
  ·rw [jFj ha,jFj ha]
theorem qK {a b:Int} (h:Qt [a,b]=0):b=0:=Zv h b (by simp)
theorem YT {b:Bool} {e:Int} (he:e≠0) (h:QF b e=0):b=false:=by
 unfold QF at h
 cases b
 ·rfl
 ·exact absurd h he
theorem ZW {b:Bool} (h:QF (!b) 10=0):b=true:=by
 have:=YT (by decide) h
 simpa using this
theorem QaE {α β:Type} (f:α→β) (l:List α) (n:Int):(((l.map f).length:Int) == n)=((l.length:Int) == n):=by rw [List.length_map]
theorem Qa3 {n c:Nat} (hn:100≤n) {r:Reg} (hr:Inv c r) (hc:c≤40) {num:Int} {kind text:jSj} {names:List jSj} {vals:List Int} {evs cnt:jVj} (he:evs.length≤5000) :
  ∀ {k:Ki},k≠.undo→Good (num,kind,names,vals,text) k→Qs n num kind (names.map Sd) (vals.map I) text evs cnt r.tick r.level r.filled r.tripped r.light r.heat r.money (r.sectors.map Sd) (r.mirrors.map QY) (r.offers.map Zj)=some (if num=(evs.length:Int)+1 then acc k r names vals else 11)
 | .sector,_,hg=>by
  have hk:=hg.kind
  dsimp only [kw] at hk
  obtain ⟨a,t,rfl,rfl,htv⟩:=hg.d11 rfl rfl
  simp only [jCj,List.map_nil]
  unfold Qs
  rw [jTj (by unfold Qh;omega)]
  by_cases hnum:num=(evs.length:Int)+1
  ·rw [jTj hnum,jTj hnum,jFj (kne hk (by decide))]
   unfold acc
   rw [gi0]
   by_cases htk:t < r.tick
   ·rw [jTj htk,jTj (g0 htk)]
   rw [jFj htk,jFj (g0n htk)]
   have ht:okT r t:=okt htk htv
   rw [jTj hk,Za hr hc hn ht,jBj]
   rw [Qc7 hn r.sectors (by have:=hr.secs;omega) a,jBj,VE (by omega),jBj]
   refine Xq fun h0=>?_
   rw [Zd,QaE];rfl
  ·rw [jFj hnum,jFj hnum]
 | .mirror,_,hg=>by
  have hk:=hg.kind
  dsimp only [kw] at hk
  obtain ⟨a,b,t,v1,rfl,rfl,htv⟩:=hg.d22 rfl rfl
  simp only [jCj,List.map_nil]
  unfold Qs
  rw [jTj (by unfold Qh;omega)]
  by_cases hnum:num=(evs.length:Int)+1
  ·rw [jTj hnum,jTj hnum,jFj (kne hk (by decide))]
   unfold acc
   rw [gi0]
   by_cases htk:t < r.tick
   ·rw [jTj htk,jTj (g0 htk)]
   rw [jFj htk,jFj (g0n htk)]
   have ht:okT r t:=okt htk htv
   (iterate 1 rw [jFj (dne hk (by decide))])
   rw [jTj hk,Za hr hc hn ht,jBj]
   rw [Qcx hn r.sectors (by have:=hr.secs;omega) r.mirrors (by have:=hr.lenM;omega) a b,jBj,VE (by omega),jBj]
   refine Xq fun h0=>?_
   rw [gi1,V2,jBj,Zd,jBj,VE (by omega),QaE];rfl
  ·rw [jFj hnum,jFj hnum]
 | .soil,_,hg=>by
  have hk:=hg.kind
  dsimp only [kw] at hk
  obtain ⟨a,t,v1,rfl,rfl,htv⟩:=hg.d12 rfl rfl
  simp only [jCj,List.map_nil]
  unfold Qs
  rw [jTj (by unfold Qh;omega)]
  by_cases hnum:num=(evs.length:Int)+1
  ·rw [jTj hnum,jTj hnum,jFj (kne hk (by decide))]
   unfold acc
   rw [gi0]
   by_cases htk:t < r.tick
   ·rw [jTj htk,jTj (g0 htk)]
   rw [jFj htk,jFj (g0n htk)]
   have ht:okT r t:=okt htk htv
   (iterate 2 rw [jFj (dne hk (by decide))])
   rw [jTj hk,Za hr hc hn ht,jBj]
   rw [XO hn r.mirrors (by have:=hr.lenM;omega) a,jBj,VE (by omega),jBj]
   refine Xq fun h0=>?_
   rw [gi1,V2];rfl
  ·rw [jFj hnum,jFj hnum]
 | .clean,_,hg=>by
  have hk:=hg.kind
  dsimp only [kw] at hk
  obtain ⟨a,t,rfl,rfl,htv⟩:=hg.d11 rfl rfl
  simp only [jCj,List.map_nil]
  unfold Qs
  rw [jTj (by unfold Qh;omega)]
  by_cases hnum:num=(evs.length:Int)+1
  ·rw [jTj hnum,jTj hnum,jFj (kne hk (by decide))]
   unfold acc
   rw [gi0]
   by_cases htk:t < r.tick
   ·rw [jTj htk,jTj (g0 htk)]
   rw [jFj htk,jFj (g0n htk)]
   have ht:okT r t:=okt htk htv
   (iterate 3 rw [jFj (dne hk (by decide))])
   rw [jTj hk,Za hr hc hn ht,jBj]
   rw [XO hn r.mirrors (by have:=hr.lenM;omega) a,jBj,VE (by omega),jBj]
   refine Xq fun h0=>?_
   rfl
  ·rw [jFj hnum,jFj hnum]
 | .defect,_,hg=>by
  have hk:=hg.kind
  dsimp only [kw] at hk
  obtain ⟨a,t,rfl,rfl,htv⟩:=hg.d11 rfl rfl
  simp only [jCj,List.map_nil]
  unfold Qs
  rw [jTj (by unfold Qh;omega)]
  by_cases hnum:num=(evs.length:Int)+1
  ·rw [jTj hnum,jTj hnum,jFj (kne hk (by decide))]
   unfold acc
   rw [gi0]
   by_cases htk:t < r.tick
   ·rw [jTj htk,jTj (g0 htk)]
   rw [jFj htk,jFj (g0n htk)]
   have ht:okT r t:=okt htk htv
   (iterate 4 rw [jFj (dne hk (by decide))])
   rw [jTj hk,Za hr hc hn ht,jBj]
   rw [XO hn r.mirrors (by have:=hr.lenM;omega) a,jBj,VE (by omega),jBj]
   refine Xq fun h0=>?_
   have hh:=ZW (qK h0)
   obtain ⟨p1,p2,p3⟩:=WP hh
   have hlt:=Jl p1 p2
   rw [gs0,UC _ (by have:=hr.lenM;omega) (by have:=hr.lenM;omega),jBj,Wb _ _ (by rw [Zo];have:=hr.lenM;omega) (by rw [Zo];have:=hr.lenM;omega),jBj,jTj hlt,p1,Q4 unM p3,jBj]
   rw [Zd,jBj,Zd,jBj,VE (by omega)];rfl
  ·rw [jFj hnum,jFj hnum]
 | .repair,_,hg=>by
  have hk:=hg.kind
  dsimp only [kw] at hk
  obtain ⟨a,t,rfl,rfl,htv⟩:=hg.d11 rfl rfl
  simp only [jCj,List.map_nil]
  unfold Qs
  rw [jTj (by unfold Qh;omega)]
  by_cases hnum:num=(evs.length:Int)+1
  ·rw [jTj hnum,jTj hnum,jFj (kne hk (by decide))]
   unfold acc
   rw [gi0]
   by_cases htk:t < r.tick
   ·rw [jTj htk,jTj (g0 htk)]
   rw [jFj htk,jFj (g0n htk)]
   have ht:okT r t:=okt htk htv
   (iterate 5 rw [jFj (dne hk (by decide))])
   rw [jTj hk,Za hr hc hn ht,jBj]
   rw [XO hn r.mirrors (by have:=hr.lenM;omega) a,jBj,VE (by omega),jBj]
   refine Xq fun h0=>?_
   have hh:=ZW (qK h0)
   obtain ⟨p1,p2,p3⟩:=WP hh
   have hlt:=Jl p1 p2
   rw [gs0,UC _ (by have:=hr.lenM;omega) (by have:=hr.lenM;omega),jBj,Wb _ _ (by rw [Zo];have:=hr.lenM;omega) (by rw [Zo];have:=hr.lenM;omega),jBj,jTj hlt,p1,Q4 unM p3,jBj]
   rw [Zd];rfl
  ·rw [jFj hnum,jFj hnum]
 | .aim,_,hg=>by
  have hk:=hg.kind
  dsimp only [kw] at hk
  obtain ⟨a,t,rfl,rfl,htv⟩:=hg.d11 rfl rfl
  simp only [jCj,List.map_nil]
  unfold Qs
  rw [jTj (by unfold Qh;omega)]
  by_cases hnum:num=(evs.length:Int)+1
  ·rw [jTj hnum,jTj hnum,jFj (kne hk (by decide))]
   unfold acc
   rw [gi0]
   by_cases htk:t < r.tick
   ·rw [jTj htk,jTj (g0 htk)]
   rw [jFj htk,jFj (g0n htk)]
   have ht:okT r t:=okt htk htv
   (iterate 6 rw [jFj (dne hk (by decide))])
   rw [jTj hk,Za hr hc hn ht,jBj]
   rw [XO hn r.mirrors (by have:=hr.lenM;omega) a,jBj,VE (by omega),jBj]
   refine Xq fun h0=>?_
   have hh:=ZW (qK h0)
   obtain ⟨p1,p2,p3⟩:=WP hh
   have hlt:=Jl p1 p2
   rw [gs0,UC _ (by have:=hr.lenM;omega) (by have:=hr.lenM;omega),jBj,Wb _ _ (by rw [Zo];have:=hr.lenM;omega) (by rw [Zo];have:=hr.lenM;omega),jBj,jTj hlt,p1]
   rw [Zd,jBj,Zd,jBj,Q4 unM p3,jBj,Zd,jBj,Zd,jBj,QaK (by omega)];rfl
  ·rw [jFj hnum,jFj hnum]
 | .park,_,hg=>by
  have hk:=hg.kind
  dsimp only [kw] at hk
  obtain ⟨a,t,rfl,rfl,htv⟩:=hg.d11 rfl rfl
  simp only [jCj,List.map_nil]
  unfold Qs
  rw [jTj (by unfold Qh;omega)]
  by_cases hnum:num=(evs.length:Int)+1
  ·rw [jTj hnum,jTj hnum,jFj (kne hk (by decide))]
   unfold acc
   rw [gi0]
   by_cases htk:t < r.tick
   ·rw [jTj htk,jTj (g0 htk)]
   rw [jFj htk,jFj (g0n htk)]
   have ht:okT r t:=okt htk htv
   (iterate 7 rw [jFj (dne hk (by decide))])
   rw [jTj hk,Za hr hc hn ht,jBj]
   rw [XO hn r.mirrors (by have:=hr.lenM;omega) a,jBj,VE (by omega),jBj]
   refine Xq fun h0=>?_
   have hh:=ZW (qK h0)
   obtain ⟨p1,p2,p3⟩:=WP hh
   have hlt:=Jl p1 p2
   rw [gs0,UC _ (by have:=hr.lenM;omega) (by have:=hr.lenM;omega),jBj,Wb _ _ (by rw [Zo];have:=hr.lenM;omega) (by rw [Zo];have:=hr.lenM;omega),jBj,jTj hlt,p1,Q4 unM p3,jBj]
   rw [Zd];rfl
  ·rw [jFj hnum,jFj hnum]
 | .dim,_,hg=>by
  have hk:=hg.kind
  dsimp only [kw] at hk
  obtain ⟨a,t,rfl,rfl,htv⟩:=hg.d11 rfl rfl
  simp only [jCj,List.map_nil]
  unfold Qs
  rw [jTj (by unfold Qh;omega)]
  by_cases hnum:num=(evs.length:Int)+1
  ·rw [jTj hnum,jTj hnum,jFj (kne hk (by decide))]
   unfold acc
   rw [gi0]
   by_cases htk:t < r.tick
   ·rw [jTj htk,jTj (g0 htk)]
   rw [jFj htk,jFj (g0n htk)]
   have ht:okT r t:=okt htk htv
   (iterate 8 rw [jFj (dne hk (by decide))])
   rw [jTj hk,Za hr hc hn ht,jBj]
   rw [Qc6 hn r.sectors (by have:=hr.secs;omega) a,jBj,VE (by omega),jBj]
   refine Xq fun h0=>?_
   rfl
  ·rw [jFj hnum,jFj hnum]
 | .sun,_,hg=>by
  have hk:=hg.kind
  dsimp only [kw] at hk
  obtain ⟨t,v1,rfl,rfl,htv⟩:=hg.d02 rfl rfl
  simp only [jCj,List.map_nil]
  unfold Qs
  rw [jTj (by unfold Qh;omega)]
  by_cases hnum:num=(evs.length:Int)+1
  ·rw [jTj hnum,jTj hnum,jFj (kne hk (by decide))]
   unfold acc
   rw [gi0]
   by_cases htk:t < r.tick
   ·rw [jTj htk,jTj (g0 htk)]
   rw [jFj htk,jFj (g0n htk)]
   have ht:okT r t:=okt htk htv
   (iterate 9 rw [jFj (dne hk (by decide))])
   rw [jTj hk,Za hr hc hn ht,jBj]
   rw [Gd hn,jBj,VE (by omega),jBj]
   refine Xq fun h0=>?_
   rw [gi1,V2];rfl
  ·rw [jFj hnum,jFj hnum]
 | .fill,_,hg=>by
  have hk:=hg.kind
  dsimp only [kw] at hk
  obtain ⟨t,rfl,rfl,htv⟩:=hg.d01 rfl rfl
  simp only [jCj,List.map_nil]
  unfold Qs
  rw [jTj (by unfold Qh;omega)]
  by_cases hnum:num=(evs.length:Int)+1
  ·rw [jTj hnum,jTj hnum,jFj (kne hk (by decide))]
   unfold acc
   rw [gi0]
   by_cases htk:t < r.tick
   ·rw [jTj htk,jTj (g0 htk)]
   rw [jFj htk,jFj (g0n htk)]
   have ht:okT r t:=okt htk htv
   (iterate 10 rw [jFj (dne hk (by decide))])
   rw [jTj hk,Za hr hc hn ht,jBj]
   rw [Gd hn,jBj,VE (by omega),jBj]
   refine Xq fun h0=>?_
   rw [Zd];rfl
  ·rw [jFj hnum,jFj hnum]
 | .drain,_,hg=>by
  have hk:=hg.kind
  dsimp only [kw] at hk
  obtain ⟨t,rfl,rfl,htv⟩:=hg.d01 rfl rfl
  simp only [jCj,List.map_nil]
  unfold Qs
  rw [jTj (by unfold Qh;omega)]
  by_cases hnum:num=(evs.length:Int)+1
  ·rw [jTj hnum,jTj hnum,jFj (kne hk (by decide))]
   unfold acc
   rw [gi0]
   by_cases htk:t < r.tick
   ·rw [jTj htk,jTj (g0 htk)]
   rw [jFj htk,jFj (g0n htk)]
   have ht:okT r t:=okt htk htv
   (iterate 11 rw [jFj (dne hk (by decide))])
   rw [jTj hk,Za hr hc hn ht,jBj]
   rw [Gd hn,jBj,VE (by omega),jBj]
   refine Xq fun h0=>?_
   rw [Zd,jBj,QdF _ (by have:=hr.lenM;omega) (by have:=hr.lenM;omega),jBj,Zd,jBj,VE (by omega)];rfl
  ·rw [jFj hnum,jFj hnum]
 | .trip,_,hg=>by
  have hk:=hg.kind
  dsimp only [kw] at hk
  obtain ⟨t,rfl,rfl,htv⟩:=hg.d01 rfl rfl
  simp only [jCj,List.map_nil]
  unfold Qs
  rw [jTj (by unfold Qh;omega)]
  by_cases hnum:num=(evs.length:Int)+1
  ·rw [jTj hnum,jTj hnum,jFj (kne hk (by decide))]
   unfold acc
   rw [gi0]
   by_cases htk:t < r.tick
   ·rw [jTj htk,jTj (g0 htk)]
   rw [jFj htk,jFj (g0n htk)]
   have ht:okT r t:=okt htk htv
   (iterate 12 rw [jFj (dne hk (by decide))])
   rw [jTj hk,Za hr hc hn ht,jBj]
   rw [Gd hn,jBj,VE (by omega),jBj]
   refine Xq fun h0=>?_
   rw [Zd];rfl
  ·rw [jFj hnum,jFj hnum]
 | .reset,_,hg=>by
  have hk:=hg.kind
  dsimp only [kw] at hk
  obtain ⟨t,rfl,rfl,htv⟩:=hg.d01 rfl rfl
  simp only [jCj,List.map_nil]
  unfold Qs
  rw [jTj (by unfold Qh;omega)]
  by_cases hnum:num=(evs.length:Int)+1
  ·rw [jTj hnum,jTj hnum,jFj (kne hk (by decide))]
   unfold acc
   rw [gi0]
   by_cases htk:t < r.tick
   ·rw [jTj htk,jTj (g0 htk)]
   rw [jFj htk,jFj (g0n htk)]
   have ht:okT r t:=okt htk htv
   (iterate 13 rw [jFj (dne hk (by decide))])
   rw [jTj hk,Za hr hc hn ht,jBj]
   rw [Gd hn,jBj,VE (by omega),jBj]
   refine Xq fun h0=>?_
   rw [Zd];rfl
  ·rw [jFj hnum,jFj hnum]
 | .offer,_,hg=>by
  have hk:=hg.kind
  dsimp only [kw] at hk
  obtain ⟨a,t,v1,v2,v3,v4,rfl,rfl,htv⟩:=hg.d15 rfl rfl
  simp only [jCj,List.map_nil]
  unfold Qs
  rw [jTj (by unfold Qh;omega)]
  by_cases hnum:num=(evs.length:Int)+1
  ·rw [jTj hnum,jTj hnum,jFj (kne hk (by decide))]
   unfold acc
   rw [gi0]
   by_cases htk:t < r.tick
   ·rw [jTj htk,jTj (g0 htk)]
   rw [jFj htk,jFj (g0n htk)]
   have ht:okT r t:=okt htk htv
   (iterate 14 rw [jFj (dne hk (by decide))])
   rw [jTj hk,Za hr hc hn ht,jBj]
   rw [Qc8 hn r.offers (by have:=hr.lenO;omega) a,jBj,VE (by omega),jBj]
   refine Xq fun h0=>?_
   have hs:WL n num kind [Sd a] [I t,I v1,I v2,I v3,I v4] text=some (v1,v2,ws [t,v1,v2,v3,v4]):=by
    unfold WL
    rw [gi1,gi2,gi0]
    unfold ws
    by_cases h:v1 < t
    ·rw [jTj h,jTj (show [t,v1,v2,v3,v4].getD 1 0 < [t,v1,v2,v3,v4].getD 0 0 from h)];rfl
    ·rw [jFj h,jFj (show ¬ [t,v1,v2,v3,v4].getD 1 0 < [t,v1,v2,v3,v4].getD 0 0 from h),Zd];rfl
   rw [hs,jBj,gi3,V2,jBj,gi4,V2,jBj,Zd,jBj,QaK (by omega),QaE];rfl
  ·rw [jFj hnum,jFj hnum]
 | .deliver,_,hg=>by
  have hk:=hg.kind
  dsimp only [kw] at hk
  obtain ⟨a,t,v1,rfl,rfl,htv⟩:=hg.d12 rfl rfl
  simp only [jCj,List.map_nil]
  unfold Qs
  rw [jTj (by unfold Qh;omega)]
  by_cases hnum:num=(evs.length:Int)+1
  ·rw [jTj hnum,jTj hnum,jFj (kne hk (by decide))]
   unfold acc
   rw [gi0]
   by_cases htk:t < r.tick
   ·rw [jTj htk,jTj (g0 htk)]
   rw [jFj htk,jFj (g0n htk)]
   have ht:okT r t:=okt htk htv
   (iterate 15 rw [jFj (dne hk (by decide))])
   rw [jTj hk,Za hr hc hn ht,jBj]
   rw [Qbo hn r.offers (by have:=hr.lenO;omega) a,jBj,VE (by omega),jBj]
   refine Xq fun h0=>?_
   have hh:=ZW (qK h0)
   obtain ⟨p1,p2,p3⟩:=JV hh
   have hok:=hr.offs _ (List.mem_of_getElem? p3)
   have hlt:=uS p1 p2
   rw [gs0,EC _ (by have:=hr.lenO;omega) (by have:=hr.lenO;omega),jBj,Wb _ _ (by rw [Vq];have:=hr.lenO;omega) (by rw [Vq];have:=hr.lenO;omega),jBj,jTj hlt,p1]
   rw [gi1,Q4 unO p3,jBj,Zd,jBj]
   have e4:∀ w:Int,((Qm n (v1 == 0) 3).bind fun t35=>(Zg n (oAt r.offers a).1 (oAt r.offers a).2.1 (oAt r.offers a).2.2.1 (oAt r.offers a).2.2.2.1 (oAt r.offers a).2.2.2.2.1 (oAt r.offers a).2.2.2.2.2.1 (oAt r.offers a).2.2.2.2.2.2).bind fun t36 =>
     (Qm n (decide (v1 > t36)) 20).bind fun t37=>(Qo n ([I (QF (oAt r.offers a).2.2.2.2.2.2 23),I w,I t35,I t37])).bind fun t38 =>
     if t38=0 then (if Qh (v1 * 1000000) then (Q8 n t evs cnt r.tick r.level r.filled r.tripped r.light r.heat r.money (r.sectors.map Sd) (r.mirrors.map QY) (r.offers.map Zj)).bind fun t41=>(Qm n (decide ((v1 * 1000000) > t41.2)) 16).bind fun t42=>some t42 else none) else some t38) =
     some (if Qt [QF (oAt r.offers a).2.2.2.2.2.2 23,w,QF (v1 == 0) 3,QF (decide (v1 > Ws (oAt r.offers a))) 20]=0 then QF (decide (v1 * 1000000 > r.heat+ZL r t)) 16 else Qt [QF (oAt r.offers a).2.2.2.2.2.2 23,w,QF (v1 == 0) 3,QF (decide (v1 > Ws (oAt r.offers a))) 20]):=by
    intro w
    rw [Zd,jBj,Qag n hok,jBj,Zd,jBj,QaK (by omega),jBj]
    by_cases hz:Qt [QF (oAt r.offers a).2.2.2.2.2.2 23,w,QF (v1 == 0) 3,QF (decide (v1 > Ws (oAt r.offers a))) 20]=0
    ·have hv:=hg.val v1 (by simp)
     rw [jTj hz,jTj hz,jTj (by unfold Qh;omega),Z7 hr hc hn ht,jBj,Zd,jBj]
    ·rw [jFj hz,jFj hz]
   unfold spec
   simp only [List.getD_cons_zero,List.getD_cons_succ]
   by_cases hf:t < (oAt r.offers a).2.1
   ·rw [jTj hf]
    simp only [jTj hf]
    exact e4 14
   ·rw [jFj hf,Zd,jBj]
    simp only [jFj hf]
    exact e4 _
  ·rw [jFj hnum,jFj hnum]
 | .bill,_,hg=>by
  have hk:=hg.kind
  dsimp only [kw] at hk
  obtain ⟨a,t,rfl,rfl,htv⟩:=hg.d11 rfl rfl
  simp only [jCj,List.map_nil]
  unfold Qs
  rw [jTj (by unfold Qh;omega)]
  by_cases hnum:num=(evs.length:Int)+1
  ·rw [jTj hnum,jTj hnum,jFj (kne hk (by decide))]
   unfold acc
   rw [gi0]
   by_cases htk:t < r.tick
   ·rw [jTj htk,jTj (g0 htk)]
   rw [jFj htk,jFj (g0n htk)]
   have ht:okT r t:=okt htk htv
   (iterate 16 rw [jFj (dne hk (by decide))])
   rw [jTj hk,Za hr hc hn ht,jBj]
   rw [Qbo hn r.offers (by have:=hr.lenO;omega) a,jBj,VE (by omega),jBj]
   refine Xq fun h0=>?_
   have hh:=ZW (qK h0)
   obtain ⟨p1,p2,p3⟩:=JV hh
   have hok:=hr.offs _ (List.mem_of_getElem? p3)
   have hlt:=uS p1 p2
   rw [gs0,EC _ (by have:=hr.lenO;omega) (by have:=hr.lenO;omega),jBj,Wb _ _ (by rw [Vq];have:=hr.lenO;omega) (by rw [Vq];have:=hr.lenO;omega),jBj,jTj hlt,p1,Q4 unO p3,jBj]
   rw [Zd,jBj,Zd,jBj,VE (by omega)];rfl
  ·rw [jFj hnum,jFj hnum]
 | .undo,h,_=>absurd rfl h
def X7 (cnt:List Ev):Int:=match cnt.getLast? with
 | none=>12
 | some e=>if e.2.1.data.toList=kw .deliver ∨ e.2.1.data.toList=kw .bill then 21 else 0
theorem uc {n:Nat} (r:Reg) {num:Int} {kind text:jSj} {names:List jSj} {vals:List Int} {evs:jVj} (he:evs.length≤5000) (cnt:List Ev) (hcn:cnt.length≤5000)
  (hg:Good (num,kind,names,vals,text) .undo):Qs n num kind (names.map Sd) (vals.map I) text evs (cnt.map Zr) r.tick r.level r.filled r.tripped r.light r.heat r.money (r.sectors.map Sd) (r.mirrors.map QY) (r.offers.map Zj)=some (if num=(evs.length:Int)+1 then X7 cnt else 11):=by
 have hk:=hg.kind
 dsimp only at hk
 unfold Qs
 rw [jTj (by unfold Qh;omega)]
 by_cases hnum:num=(evs.length:Int)+1
 ·rw [jTj hnum,jTj hnum,jTj (keq hk rfl)]
  unfold X7
  cases hl:cnt.getLast? with
  | none =>
   rw [List.getLast?_eq_none_iff.1 hl];rfl
  | some e =>
   have hne:cnt≠[]:=fun h=>by rw [h] at hl;cases hl
   have hpos:=List.length_pos_iff.2 hne
   rw [List.getLast?_eq_getElem?] at hl
   have hi:(((cnt.map Zr).length:Int) - 1)=((cnt.length - 1:Nat):Int):=by rw [List.length_map];omega
   rw [jFj (by rw [List.length_map];omega),hi,jTj (by unfold Qh;omega),jTj (by rw [List.length_map];omega),Int.toNat_natCast,Ub,List.getElem?_map,hl]
   show (if (e.2.1.toList == (⟨#[100,101,108,105,118,101,114]⟩:jSj).toList)=true then (Un n).bind (fun t9=>some t9) else (Qm n (e.2.1.toList == (⟨#[98,105,108,108]⟩:jSj).toList) 21).bind fun t9=>some t9)=some (if e.2.1.data.toList=kw .deliver ∨ e.2.1.data.toList=kw .bill then 21 else 0)
   by_cases h1:e.2.1.data.toList=kw .deliver
   ·rw [jTj (keq h1 rfl),jTj (.inl h1)];rfl
   ·rw [jFj (fun h=>h1 (by rw [kq] at h;exact h)),Zd,jBj]
    by_cases h2:e.2.1.data.toList=kw .bill
    ·rw [jTj (.inr h2)]
     unfold QF
     rw [jTj (keq h2 rfl)]
    ·rw [jFj (by rintro (h | h);exact h1 h;exact h2 h)]
     unfold QF
     rw [jFj (fun h=>h2 (by rw [kq] at h;exact h))]
 ·rw [jFj hnum,jFj hnum]
end Go.Proofs.YtljabneifpkbjaaGreatDoor
set_option maxRecDepth 20000
namespace Go.Proofs.YtljabneifpkbjaaGreatDoor
open Go.SX
def bkd (r:Reg) (t:Int):Reg:={ r with tick:=t,light:=r.light+ZL r t,heat:=r.heat+ZL r t }
def chgM (r:Reg) (a:jSj) (m:Mir):Reg:={ r with mirrors:=r.mirrors.set (iM r.mirrors a) m }
def chgO (r:Reg) (a:jSj) (o:Off):Reg:={ r with offers:=r.offers.set (iO r.offers a) o }
def X8 (m:Mir) (v:Int):Mir:=(m.1,m.2.1,m.2.2.1,v,m.2.2.2.2.1,m.2.2.2.2.2)
def zU (m:Mir) (b:Bool):Mir:=(m.1,m.2.1,m.2.2.1,m.2.2.2.1,b,m.2.2.2.2.2)
def aimM (m:Mir):Mir:=(m.1,m.2.1,m.2.2.1,m.2.2.2.1,m.2.2.2.2.1,true)
def yO (o:Off) (v:Int):Off:=(o.1,o.2.1,o.2.2.1,o.2.2.2.1,o.2.2.2.2.1,o.2.2.2.2.2.1+v,o.2.2.2.2.2.2)
def GV (o:Off):Off:=(o.1,o.2.1,o.2.2.1,o.2.2.2.1,o.2.2.2.2.1,o.2.2.2.2.2.1,true)
def act (k:Ki) (q:Reg) (ns:List jSj) (vs:List Int):Reg:=match k with
 | .sector=>{ q with sectors:=q.sectors++[ns.getD 0 ⟨#[]⟩] }
 | .mirror=>{ q with mirrors:=q.mirrors++[(ns.getD 0 ⟨#[]⟩,ns.getD 1 ⟨#[]⟩,vs.getD 1 0,0,false,false)] }
 | .soil=>chgM q (ns.getD 0 ⟨#[]⟩) (X8 (mAt q.mirrors (ns.getD 0 ⟨#[]⟩)) (vs.getD 1 0))
 | .clean=>chgM q (ns.getD 0 ⟨#[]⟩) (X8 (mAt q.mirrors (ns.getD 0 ⟨#[]⟩)) 0)
 | .defect=>chgM q (ns.getD 0 ⟨#[]⟩) (zU (mAt q.mirrors (ns.getD 0 ⟨#[]⟩)) true)
 | .repair=>chgM q (ns.getD 0 ⟨#[]⟩) (zU (mAt q.mirrors (ns.getD 0 ⟨#[]⟩)) false)
 | .aim=>chgM q (ns.getD 0 ⟨#[]⟩) (aimM (mAt q.mirrors (ns.getD 0 ⟨#[]⟩)))
 | .park=>chgM q (ns.getD 0 ⟨#[]⟩) (Ka (mAt q.mirrors (ns.getD 0 ⟨#[]⟩)))
 | .dim=>{ q with mirrors:=q.mirrors.map (EN (ns.getD 0 ⟨#[]⟩)) }
 | .sun=>{ q with level:=vs.getD 1 0 }
 | .fill=>{ q with filled:=true }
 | .drain=>{ q with filled:=false }
 | .trip=>{ q with tripped:=true,mirrors:=q.mirrors.map Ka }
 | .reset=>{ q with tripped:=false }
 | .offer=>{ q with offers:=q.offers++[(ns.getD 0 ⟨#[]⟩,vs.getD 1 0,vs.getD 2 0,vs.getD 3 0,vs.getD 4 0,0,false)] }
 | .deliver=>{ chgO q (ns.getD 0 ⟨#[]⟩) (yO (oAt q.offers (ns.getD 0 ⟨#[]⟩)) (vs.getD 1 0)) with heat:=q.heat - 1000000 * vs.getD 1 0 }
 | .bill=>{ chgO q (ns.getD 0 ⟨#[]⟩) (GV (oAt q.offers (ns.getD 0 ⟨#[]⟩))) with money:=q.money+U5 (oAt q.offers (ns.getD 0 ⟨#[]⟩)) }
 | .undo=>q
def app (k:Ki) (r:Reg) (ns:List jSj) (vs:List Int):Reg:=act k (bkd r (vs.getD 0 0)) ns vs
abbrev X1:=Int×Int×Bool×Bool×Int×Int×Int×jVj×jVj×jVj
def Vb (r:Reg):X1:=(r.tick,r.level,r.filled,r.tripped,r.light,r.heat,r.money,r.sectors.map Sd,r.mirrors.map QY,r.offers.map Zj)
theorem set_encO {s:List Off} {i:Nat} {y:Off}:List.set (s.map Zj) i (Zj y)=(s.set i y).map Zj:=by rw [List.map_set]
theorem QS {k:Ki} {r:Reg} {ns:List jSj} {vs:List Int} (h:acc k r ns vs=0):¬ vs.getD 0 0 < r.tick∧Zk r (vs.getD 0 0)=0∧known k r ns=0∧spec k r ns vs=0:=by
 unfold acc at h
 by_cases h1:vs.getD 0 0 < r.tick
 ·rw [jTj h1] at h;cases h
 ·rw [jFj h1] at h
  exact ⟨h1,Zv h _ (by simp),Zv h _ (by simp),Zv h _ (by simp)⟩
theorem EO {r:Reg} {a:jSj} {t v1:Int} (h:spec .deliver r [a] [t,v1]=0):(oAt r.offers a).2.2.2.2.2.2=false∧v1≠0∧v1≤Ws (oAt r.offers a)∧v1 * 1000000≤r.heat+ZL r t:=by
 have h:(if Qt [QF (oAt r.offers a).2.2.2.2.2.2 23,(if t < (oAt r.offers a).2.1 then 14 else QF (decide (t ≥ (oAt r.offers a).2.2.1)) 14),QF (v1 == 0) 3,QF (decide (v1 > Ws (oAt r.offers a))) 20]=0 then QF (decide (v1 * 1000000 > r.heat+ZL r t)) 16 else Qt [QF (oAt r.offers a).2.2.2.2.2.2 23,(if t < (oAt r.offers a).2.1 then 14 else QF (decide (t ≥ (oAt r.offers a).2.2.1)) 14),QF (v1 == 0) 3,QF (decide (v1 > Ws (oAt r.offers a))) 20])=0:=h
 by_cases h0:Qt [QF (oAt r.offers a).2.2.2.2.2.2 23,(if t < (oAt r.offers a).2.1 then 14 else QF (decide (t ≥ (oAt r.offers a).2.2.1)) 14),QF (v1 == 0) 3,QF (decide (v1 > Ws (oAt r.offers a))) 20]=0
 ·rw [jTj h0] at h
  have a1:=YT (e:=23) (by decide) (Zv h0 (QF (oAt r.offers a).2.2.2.2.2.2 23) (by simp))
  have a2:=YT (e:=3) (by decide) (Zv h0 (QF (v1 == 0) 3) (by simp))
  have a3:=YT (e:=20) (by decide) (Zv h0 (QF (decide (v1 > Ws (oAt r.offers a))) 20) (by simp))
  have a4:=YT (e:=16) (by decide) h
  have a3':=of_decide_eq_false a3
  have a4':=of_decide_eq_false a4
  refine ⟨a1,by simpa using a2,by omega,by omega⟩
 ·rw [jFj h0] at h;exact absurd h h0
theorem QcN {n c:Nat} (hn:100≤n) {r:Reg} (hr:Inv c r) (hc:c≤40) {num:Int} {kind text:jSj} {names:List jSj} {vals:List Int} :
  ∀ {k:Ki},k≠.undo→Good (num,kind,names,vals,text) k→acc k r names vals=0→Qz n num kind (names.map Sd) (vals.map I) text r.tick r.level r.filled r.tripped r.light r.heat r.money (r.sectors.map Sd) (r.mirrors.map QY) (r.offers.map Zj)=some (Vb (app k r names vals))
 | .sector,_,hg,ha=>by
  have hk:=hg.kind
  dsimp only [kw] at hk
  obtain ⟨a,t,rfl,rfl,htv⟩:=hg.d11 rfl rfl
  obtain ⟨htk,hbk,hkn,hsp⟩:=QS ha
  have ht:okT r t:=okt htk htv
  simp only [jCj,List.map_nil]
  refine Eq.trans ?_ (show some (rtM r t ((r.sectors++[a]).map Sd) (r.mirrors.map QY) (r.offers.map Zj))=some (Vb (app .sector r [a] [t])) from rfl)
  unfold Qz
  rw [gi0,Wc hr hc hn ht,jBj]
  rw [jTj hk]
  rw [gs0,jTj (rmS hr),List.map_append];rfl
 | .mirror,_,hg,ha=>by
  have hk:=hg.kind
  dsimp only [kw] at hk
  obtain ⟨a,b,t,v1,rfl,rfl,htv⟩:=hg.d22 rfl rfl
  obtain ⟨htk,hbk,hkn,hsp⟩:=QS ha
  have ht:okT r t:=okt htk htv
  simp only [jCj,List.map_nil]
  refine Eq.trans ?_ (show some (rtM r t (r.sectors.map Sd) ((r.mirrors++[((a,b,v1,0,false,false):Mir)]).map QY) (r.offers.map Zj))=some (Vb (app .mirror r [a,b] [t,v1])) from rfl)
  unfold Qz
  rw [gi0,Wc hr hc hn ht,jBj]
  (iterate 1 rw [jFj (dne hk (by decide))])
  rw [jTj hk]
  rw [gs0,gs1,gi1,jTj (rmM hr (by omega)),List.map_append];rfl
 | .soil,_,hg,ha=>by
  have hk:=hg.kind
  dsimp only [kw] at hk
  obtain ⟨a,t,v1,rfl,rfl,htv⟩:=hg.d12 rfl rfl
  obtain ⟨htk,hbk,hkn,hsp⟩:=QS ha
  have ht:okT r t:=okt htk htv
  simp only [jCj,List.map_nil]
  refine Eq.trans ?_ (show some (rtM r t (r.sectors.map Sd) ((r.mirrors.set (iM r.mirrors a) (X8 (mAt r.mirrors a) v1)).map QY) (r.offers.map Zj))=some (Vb (app .soil r [a] [t,v1])) from rfl)
  unfold Qz
  rw [gi0,Wc hr hc hn ht,jBj]
  (iterate 2 rw [jFj (dne hk (by decide))])
  rw [jTj hk]
  have hh:Zu (nmM r.mirrors) a=true:=ZW hkn
  obtain ⟨p1,p2,p3⟩:=WP hh
  have hlt:=Jl p1 p2
  rw [gs0,XN _ (by have:=hr.lenM;omega) (by have:=hr.lenM;omega),jBj,Wb _ _ (by rw [Zo];have:=hr.lenM;omega) (by rw [Zo];have:=hr.lenM;omega),jBj,jTj hlt,p1]
  rw [gi1]
  rw [Q4 unM p3,jBj,← WH,Int.toNat_natCast];rfl
 | .clean,_,hg,ha=>by
  have hk:=hg.kind
  dsimp only [kw] at hk
  obtain ⟨a,t,rfl,rfl,htv⟩:=hg.d11 rfl rfl
  obtain ⟨htk,hbk,hkn,hsp⟩:=QS ha
  have ht:okT r t:=okt htk htv
  simp only [jCj,List.map_nil]
  refine Eq.trans ?_ (show some (rtM r t (r.sectors.map Sd) ((r.mirrors.set (iM r.mirrors a) (X8 (mAt r.mirrors a) 0)).map QY) (r.offers.map Zj))=some (Vb (app .clean r [a] [t])) from rfl)
  unfold Qz
  rw [gi0,Wc hr hc hn ht,jBj]
  (iterate 3 rw [jFj (dne hk (by decide))])
  rw [jTj hk]
  have hh:Zu (nmM r.mirrors) a=true:=ZW hkn
  obtain ⟨p1,p2,p3⟩:=WP hh
  have hlt:=Jl p1 p2
  rw [gs0,XN _ (by have:=hr.lenM;omega) (by have:=hr.lenM;omega),jBj,Wb _ _ (by rw [Zo];have:=hr.lenM;omega) (by rw [Zo];have:=hr.lenM;omega),jBj,jTj hlt,p1]
  rw [Q4 unM p3,jBj,← WH,Int.toNat_natCast];rfl
 | .defect,_,hg,ha=>by
  have hk:=hg.kind
  dsimp only [kw] at hk
  obtain ⟨a,t,rfl,rfl,htv⟩:=hg.d11 rfl rfl
  obtain ⟨htk,hbk,hkn,hsp⟩:=QS ha
  have ht:okT r t:=okt htk htv
  simp only [jCj,List.map_nil]
  refine Eq.trans ?_ (show some (rtM r t (r.sectors.map Sd) ((r.mirrors.set (iM r.mirrors a) (zU (mAt r.mirrors a) true)).map QY) (r.offers.map Zj))=some (Vb (app .defect r [a] [t])) from rfl)
  unfold Qz
  rw [gi0,Wc hr hc hn ht,jBj]
  (iterate 4 rw [jFj (dne hk (by decide))])
  rw [jTj hk]
  have hh:Zu (nmM r.mirrors) a=true:=ZW hkn
  obtain ⟨p1,p2,p3⟩:=WP hh
  have hlt:=Jl p1 p2
  rw [gs0,XN _ (by have:=hr.lenM;omega) (by have:=hr.lenM;omega),jBj,Wb _ _ (by rw [Zo];have:=hr.lenM;omega) (by rw [Zo];have:=hr.lenM;omega),jBj,jTj hlt,p1]
  rw [Q4 unM p3,jBj,← WH,Int.toNat_natCast];rfl
 | .repair,_,hg,ha=>by
  have hk:=hg.kind
  dsimp only [kw] at hk
  obtain ⟨a,t,rfl,rfl,htv⟩:=hg.d11 rfl rfl
  obtain ⟨htk,hbk,hkn,hsp⟩:=QS ha
  have ht:okT r t:=okt htk htv
  simp only [jCj,List.map_nil]
  refine Eq.trans ?_ (show some (rtM r t (r.sectors.map Sd) ((r.mirrors.set (iM r.mirrors a) (zU (mAt r.mirrors a) false)).map QY) (r.offers.map Zj))=some (Vb (app .repair r [a] [t])) from rfl)
  unfold Qz
  rw [gi0,Wc hr hc hn ht,jBj]
  (iterate 5 rw [jFj (dne hk (by decide))])
  rw [jTj hk]
  have hh:Zu (nmM r.mirrors) a=true:=ZW hkn
  obtain ⟨p1,p2,p3⟩:=WP hh
  have hlt:=Jl p1 p2
  rw [gs0,XN _ (by have:=hr.lenM;omega) (by have:=hr.lenM;omega),jBj,Wb _ _ (by rw [Zo];have:=hr.lenM;omega) (by rw [Zo];have:=hr.lenM;omega),jBj,jTj hlt,p1]
  rw [Q4 unM p3,jBj,← WH,Int.toNat_natCast];rfl
 | .aim,_,hg,ha=>by
  have hk:=hg.kind
  dsimp only [kw] at hk
  obtain ⟨a,t,rfl,rfl,htv⟩:=hg.d11 rfl rfl
  obtain ⟨htk,hbk,hkn,hsp⟩:=QS ha
  have ht:okT r t:=okt htk htv
  simp only [jCj,List.map_nil]
  refine Eq.trans ?_ (show some (rtM r t (r.sectors.map Sd) ((r.mirrors.set (iM r.mirrors a) (aimM (mAt r.mirrors a))).map QY) (r.offers.map Zj))=some (Vb (app .aim r [a] [t])) from rfl)
  unfold Qz
  rw [gi0,Wc hr hc hn ht,jBj]
  (iterate 6 rw [jFj (dne hk (by decide))])
  rw [jTj hk]
  have hh:Zu (nmM r.mirrors) a=true:=ZW hkn
  obtain ⟨p1,p2,p3⟩:=WP hh
  have hlt:=Jl p1 p2
  rw [gs0,XN _ (by have:=hr.lenM;omega) (by have:=hr.lenM;omega),jBj,Wb _ _ (by rw [Zo];have:=hr.lenM;omega) (by rw [Zo];have:=hr.lenM;omega),jBj,jTj hlt,p1]
  rw [Q4 unM p3,jBj,← WH,Int.toNat_natCast];rfl
 | .park,_,hg,ha=>by
  have hk:=hg.kind
  dsimp only [kw] at hk
  obtain ⟨a,t,rfl,rfl,htv⟩:=hg.d11 rfl rfl
  obtain ⟨htk,hbk,hkn,hsp⟩:=QS ha
  have ht:okT r t:=okt htk htv
  simp only [jCj,List.map_nil]
  refine Eq.trans ?_ (show some (rtM r t (r.sectors.map Sd) ((r.mirrors.set (iM r.mirrors a) (Ka (mAt r.mirrors a))).map QY) (r.offers.map Zj))=some (Vb (app .park r [a] [t])) from rfl)
  unfold Qz
  rw [gi0,Wc hr hc hn ht,jBj]
  (iterate 7 rw [jFj (dne hk (by decide))])
  rw [jTj hk]
  have hh:Zu (nmM r.mirrors) a=true:=ZW hkn
  obtain ⟨p1,p2,p3⟩:=WP hh
  have hlt:=Jl p1 p2
  rw [gs0,XN _ (by have:=hr.lenM;omega) (by have:=hr.lenM;omega),jBj,Wb _ _ (by rw [Zo];have:=hr.lenM;omega) (by rw [Zo];have:=hr.lenM;omega),jBj,jTj hlt,p1]
  rw [Q4 unM p3,jBj,← WH,Int.toNat_natCast];rfl
 | .dim,_,hg,ha=>by
  have hk:=hg.kind
  dsimp only [kw] at hk
  obtain ⟨a,t,rfl,rfl,htv⟩:=hg.d11 rfl rfl
  obtain ⟨htk,hbk,hkn,hsp⟩:=QS ha
  have ht:okT r t:=okt htk htv
  simp only [jCj,List.map_nil]
  refine Eq.trans ?_ (show some (rtM r t (r.sectors.map Sd) ((r.mirrors.map (EN a)).map QY) (r.offers.map Zj))=some (Vb (app .dim r [a] [t])) from rfl)
  unfold Qz
  rw [gi0,Wc hr hc hn ht,jBj]
  (iterate 8 rw [jFj (dne hk (by decide))])
  rw [jTj hk]
  rw [QdO _ (by have:=hr.lenM;omega) (by have:=hr.lenM;omega),jBj]
 | .sun,_,hg,ha=>by
  have hk:=hg.kind
  dsimp only [kw] at hk
  obtain ⟨t,v1,rfl,rfl,htv⟩:=hg.d02 rfl rfl
  obtain ⟨htk,hbk,hkn,hsp⟩:=QS ha
  have ht:okT r t:=okt htk htv
  simp only [jCj,List.map_nil]
  refine Eq.trans ?_ (show some ((t,v1,r.filled,r.tripped,r.light+ZL r t,r.heat+ZL r t,r.money,r.sectors.map Sd,r.mirrors.map QY,r.offers.map Zj):X1)=some (Vb (app .sun r [] [t,v1])) from rfl)
  unfold Qz
  rw [gi0,Wc hr hc hn ht,jBj]
  (iterate 9 rw [jFj (dne hk (by decide))])
  rw [jTj hk]
  rw [gi1]
 | .fill,_,hg,ha=>by
  have hk:=hg.kind
  dsimp only [kw] at hk
  obtain ⟨t,rfl,rfl,htv⟩:=hg.d01 rfl rfl
  obtain ⟨htk,hbk,hkn,hsp⟩:=QS ha
  have ht:okT r t:=okt htk htv
  simp only [jCj,List.map_nil]
  refine Eq.trans ?_ (show some ((t,r.level,true,r.tripped,r.light+ZL r t,r.heat+ZL r t,r.money,r.sectors.map Sd,r.mirrors.map QY,r.offers.map Zj):X1)=some (Vb (app .fill r [] [t])) from rfl)
  unfold Qz
  rw [gi0,Wc hr hc hn ht,jBj]
  (iterate 10 rw [jFj (dne hk (by decide))])
  rw [jTj hk]
 | .drain,_,hg,ha=>by
  have hk:=hg.kind
  dsimp only [kw] at hk
  obtain ⟨t,rfl,rfl,htv⟩:=hg.d01 rfl rfl
  obtain ⟨htk,hbk,hkn,hsp⟩:=QS ha
  have ht:okT r t:=okt htk htv
  simp only [jCj,List.map_nil]
  refine Eq.trans ?_ (show some ((t,r.level,false,r.tripped,r.light+ZL r t,r.heat+ZL r t,r.money,r.sectors.map Sd,r.mirrors.map QY,r.offers.map Zj):X1)=some (Vb (app .drain r [] [t])) from rfl)
  unfold Qz
  rw [gi0,Wc hr hc hn ht,jBj]
  (iterate 11 rw [jFj (dne hk (by decide))])
  rw [jTj hk]
 | .trip,_,hg,ha=>by
  have hk:=hg.kind
  dsimp only [kw] at hk
  obtain ⟨t,rfl,rfl,htv⟩:=hg.d01 rfl rfl
  obtain ⟨htk,hbk,hkn,hsp⟩:=QS ha
  have ht:okT r t:=okt htk htv
  simp only [jCj,List.map_nil]
  refine Eq.trans ?_ (show some ((t,r.level,r.filled,true,r.light+ZL r t,r.heat+ZL r t,r.money,r.sectors.map Sd,(r.mirrors.map Ka).map QY,r.offers.map Zj):X1)=some (Vb (app .trip r [] [t])) from rfl)
  unfold Qz
  rw [gi0,Wc hr hc hn ht,jBj]
  (iterate 12 rw [jFj (dne hk (by decide))])
  rw [jTj hk]
  rw [QdN _ (by have:=hr.lenM;omega) (by have:=hr.lenM;omega),jBj]
 | .reset,_,hg,ha=>by
  have hk:=hg.kind
  dsimp only [kw] at hk
  obtain ⟨t,rfl,rfl,htv⟩:=hg.d01 rfl rfl
  obtain ⟨htk,hbk,hkn,hsp⟩:=QS ha
  have ht:okT r t:=okt htk htv
  simp only [jCj,List.map_nil]
  refine Eq.trans ?_ (show some ((t,r.level,r.filled,false,r.light+ZL r t,r.heat+ZL r t,r.money,r.sectors.map Sd,r.mirrors.map QY,r.offers.map Zj):X1)=some (Vb (app .reset r [] [t])) from rfl)
  unfold Qz
  rw [gi0,Wc hr hc hn ht,jBj]
  (iterate 13 rw [jFj (dne hk (by decide))])
  rw [jTj hk]
 | .offer,_,hg,ha=>by
  have hk:=hg.kind
  dsimp only [kw] at hk
  obtain ⟨a,t,v1,v2,v3,v4,rfl,rfl,htv⟩:=hg.d15 rfl rfl
  obtain ⟨htk,hbk,hkn,hsp⟩:=QS ha
  have ht:okT r t:=okt htk htv
  simp only [jCj,List.map_nil]
  refine Eq.trans ?_ (show some (rtM r t (r.sectors.map Sd) (r.mirrors.map QY) ((r.offers++[((a,v1,v2,v3,v4,0,false):Off)]).map Zj))=some (Vb (app .offer r [a] [t,v1,v2,v3,v4])) from rfl)
  unfold Qz
  rw [gi0,Wc hr hc hn ht,jBj]
  (iterate 14 rw [jFj (dne hk (by decide))])
  rw [jTj hk]
  have hs:∃ w,WL n num kind [Sd a] [I t,I v1,I v2,I v3,I v4] text=some (v1,v2,w):=by
   unfold WL
   rw [gi1,gi2,gi0]
   by_cases h:v1 < t
   ·rw [jTj h];exact ⟨14,rfl⟩
   ·rw [jFj h,Zd];exact ⟨_,rfl⟩
  obtain ⟨w,hs⟩:=hs
  rw [hs,jBj,gs0,gi3,gi4,jTj (rmO hr (by omega)),List.map_append];rfl
 | .deliver,_,hg,ha=>by
  have hk:=hg.kind
  dsimp only [kw] at hk
  obtain ⟨a,t,v1,rfl,rfl,htv⟩:=hg.d12 rfl rfl
  obtain ⟨htk,hbk,hkn,hsp⟩:=QS ha
  have ht:okT r t:=okt htk htv
  simp only [jCj,List.map_nil]
  refine Eq.trans ?_ (show some ((t,r.level,r.filled,r.tripped,r.light+ZL r t,r.heat+ZL r t - 1000000 * v1,r.money,r.sectors.map Sd,r.mirrors.map QY,(r.offers.set (iO r.offers a) (yO (oAt r.offers a) v1)).map Zj):X1)=some (Vb (app .deliver r [a] [t,v1])) from rfl)
  unfold Qz
  rw [gi0,Wc hr hc hn ht,jBj]
  (iterate 15 rw [jFj (dne hk (by decide))])
  rw [jTj hk]
  have hh:Zu (nmO r.offers) a=true:=ZW hkn
  obtain ⟨p1,p2,p3⟩:=JV hh
  have hok:=hr.offs _ (List.mem_of_getElem? p3)
  have hlt:=uS p1 p2
  rw [gs0,Qbh _ (by have:=hr.lenO;omega) (by have:=hr.lenO;omega),jBj,Wb _ _ (by rw [Vq];have:=hr.lenO;omega) (by rw [Vq];have:=hr.lenO;omega),jBj,jTj hlt,p1]
  have hd:=EO hsp
  have hb:=YF hok
  have hv:=hg.val v1 (by simp)
  have hg2:=K4 hr hc ht
  have hh5:=hr.heat
  have hd3:=hd.2.2.1
  have hd0:=hok.2.2
  unfold Ws at hd3
  rw [Q4 unO p3,jBj,gi1,jTj (by unfold Qh;have:=hok.1;omega),jTj (by unfold Qh;omega),jTj (by unfold Qh;omega),← set_encO,Int.toNat_natCast];rfl
 | .bill,_,hg,ha=>by
  have hk:=hg.kind
  dsimp only [kw] at hk
  obtain ⟨a,t,rfl,rfl,htv⟩:=hg.d11 rfl rfl
  obtain ⟨htk,hbk,hkn,hsp⟩:=QS ha
  have ht:okT r t:=okt htk htv
  simp only [jCj,List.map_nil]
  refine Eq.trans ?_ (show some ((t,r.level,r.filled,r.tripped,r.light+ZL r t,r.heat+ZL r t,r.money+U5 (oAt r.offers a),r.sectors.map Sd,r.mirrors.map QY,(r.offers.set (iO r.offers a) (GV (oAt r.offers a))).map Zj):X1)=some (Vb (app .bill r [a] [t])) from rfl)
  unfold Qz
  rw [gi0,Wc hr hc hn ht,jBj]
  (iterate 16 rw [jFj (dne hk (by decide))])
  rw [jTj hk]
  have hh:Zu (nmO r.offers) a=true:=ZW hkn
  obtain ⟨p1,p2,p3⟩:=JV hh
  have hok:=hr.offs _ (List.mem_of_getElem? p3)
  have hlt:=uS p1 p2
  rw [gs0,Qbh _ (by have:=hr.lenO;omega) (by have:=hr.lenO;omega),jBj,Wb _ _ (by rw [Vq];have:=hr.lenO;omega) (by rw [Vq];have:=hr.lenO;omega),jBj,jTj hlt,p1]
  have hb:=(YF hok).2.2.2
  have hm:=hr.money
  have hn2:(nth (List.set (r.offers.map Zj) (Int.toNat (iO r.offers a:Int)) (Zj (GV (oAt r.offers a))):jVj) (Int.toNat (iO r.offers a:Int))).bind Z6=some (GV (oAt r.offers a)):=by
   rw [Int.toNat_natCast,set_encO]
   have:=Q4 (i:=iO r.offers a) (l:=r.offers.set (iO r.offers a) (GV (oAt r.offers a))) (x:=GV (oAt r.offers a)) unO (by rw [List.getElem?_set_self p2])
   rwa [Int.toNat_natCast] at this
  have hok2:okO (GV (oAt r.offers a)):=hok
  have hbe:U5 (GV (oAt r.offers a))=U5 (oAt r.offers a):=rfl
  rw [Q4 unO p3,jBj]
  refine Eq.trans (congrArg (fun x:Option Off=>x.bind _) hn2) ?_
  rw [jBj,Qbp n hok2,jBj,hbe,jTj (by unfold Qh;omega),← set_encO,Int.toNat_natCast];rfl
 | .undo,h,_,_=>absurd rfl h
theorem Qb1 {n c:Nat} (hn:100≤n) {r:Reg} (hr:Inv c r) (hc:c≤40) {num:Int} {kind text:jSj} {names:List jSj} {vals:List Int} {evs cnt:jVj} :
  ∀ {k:Ki},k≠.undo→Good (num,kind,names,vals,text) k→acc k r names vals=0→Qy n num kind (names.map Sd) (vals.map I) text evs cnt r.tick r.level r.filled r.tripped r.light r.heat r.money (r.sectors.map Sd) (r.mirrors.map QY) (r.offers.map Zj)=some (Vb (app k r names vals))
 | .sector,_,hg,ha=>by
  have hk:=hg.kind
  dsimp only [kw] at hk
  obtain ⟨a,t,rfl,rfl,htv⟩:=hg.d11 rfl rfl
  obtain ⟨htk,hbk,hkn,hsp⟩:=QS ha
  have ht:okT r t:=okt htk htv
  simp only [jCj,List.map_nil]
  refine Eq.trans ?_ (show some (rtM r t ((r.sectors++[a]).map Sd) (r.mirrors.map QY) (r.offers.map Zj))=some (Vb (app .sector r [a] [t])) from rfl)
  unfold Qy
  rw [gi0,Z7 hr hc hn ht,jBj]
  rw [jTj hk]
  rw [gs0,jTj (rmS hr),List.map_append];rfl
 | .mirror,_,hg,ha=>by
  have hk:=hg.kind
  dsimp only [kw] at hk
  obtain ⟨a,b,t,v1,rfl,rfl,htv⟩:=hg.d22 rfl rfl
  obtain ⟨htk,hbk,hkn,hsp⟩:=QS ha
  have ht:okT r t:=okt htk htv
  simp only [jCj,List.map_nil]
  refine Eq.trans ?_ (show some (rtM r t (r.sectors.map Sd) ((r.mirrors++[((a,b,v1,0,false,false):Mir)]).map QY) (r.offers.map Zj))=some (Vb (app .mirror r [a,b] [t,v1])) from rfl)
  unfold Qy
  rw [gi0,Z7 hr hc hn ht,jBj]
  (iterate 1 rw [jFj (dne hk (by decide))])
  rw [jTj hk]
  rw [gs0,gs1,gi1,jTj (rmM hr (by omega)),List.map_append];rfl
 | .soil,_,hg,ha=>by
  have hk:=hg.kind
  dsimp only [kw] at hk
  obtain ⟨a,t,v1,rfl,rfl,htv⟩:=hg.d12 rfl rfl
  obtain ⟨htk,hbk,hkn,hsp⟩:=QS ha
  have ht:okT r t:=okt htk htv
  simp only [jCj,List.map_nil]
  refine Eq.trans ?_ (show some (rtM r t (r.sectors.map Sd) ((r.mirrors.set (iM r.mirrors a) (X8 (mAt r.mirrors a) v1)).map QY) (r.offers.map Zj))=some (Vb (app .soil r [a] [t,v1])) from rfl)
  unfold Qy
  rw [gi0,Z7 hr hc hn ht,jBj]
  (iterate 2 rw [jFj (dne hk (by decide))])
  rw [jTj hk]
  have hh:Zu (nmM r.mirrors) a=true:=ZW hkn
  obtain ⟨p1,p2,p3⟩:=WP hh
  have hlt:=Jl p1 p2
  rw [gs0,UC _ (by have:=hr.lenM;omega) (by have:=hr.lenM;omega),jBj,Wb _ _ (by rw [Zo];have:=hr.lenM;omega) (by rw [Zo];have:=hr.lenM;omega),jBj,jTj hlt,p1]
  rw [gi1]
  rw [Q4 unM p3,jBj,← WH,Int.toNat_natCast];rfl
 | .clean,_,hg,ha=>by
  have hk:=hg.kind
  dsimp only [kw] at hk
  obtain ⟨a,t,rfl,rfl,htv⟩:=hg.d11 rfl rfl
  obtain ⟨htk,hbk,hkn,hsp⟩:=QS ha
  have ht:okT r t:=okt htk htv
  simp only [jCj,List.map_nil]
  refine Eq.trans ?_ (show some (rtM r t (r.sectors.map Sd) ((r.mirrors.set (iM r.mirrors a) (X8 (mAt r.mirrors a) 0)).map QY) (r.offers.map Zj))=some (Vb (app .clean r [a] [t])) from rfl)
  unfold Qy
  rw [gi0,Z7 hr hc hn ht,jBj]
  (iterate 3 rw [jFj (dne hk (by decide))])
  rw [jTj hk]
  have hh:Zu (nmM r.mirrors) a=true:=ZW hkn
  obtain ⟨p1,p2,p3⟩:=WP hh
  have hlt:=Jl p1 p2
  rw [gs0,UC _ (by have:=hr.lenM;omega) (by have:=hr.lenM;omega),jBj,Wb _ _ (by rw [Zo];have:=hr.lenM;omega) (by rw [Zo];have:=hr.lenM;omega),jBj,jTj hlt,p1]
  rw [Q4 unM p3,jBj,← WH,Int.toNat_natCast];rfl
 | .defect,_,hg,ha=>by
  have hk:=hg.kind
  dsimp only [kw] at hk
  obtain ⟨a,t,rfl,rfl,htv⟩:=hg.d11 rfl rfl
  obtain ⟨htk,hbk,hkn,hsp⟩:=QS ha
  have ht:okT r t:=okt htk htv
  simp only [jCj,List.map_nil]
  refine Eq.trans ?_ (show some (rtM r t (r.sectors.map Sd) ((r.mirrors.set (iM r.mirrors a) (zU (mAt r.mirrors a) true)).map QY) (r.offers.map Zj))=some (Vb (app .defect r [a] [t])) from rfl)
  unfold Qy
  rw [gi0,Z7 hr hc hn ht,jBj]
  (iterate 4 rw [jFj (dne hk (by decide))])
  rw [jTj hk]
  have hh:Zu (nmM r.mirrors) a=true:=ZW hkn
  obtain ⟨p1,p2,p3⟩:=WP hh
  have hlt:=Jl p1 p2
  rw [gs0,UC _ (by have:=hr.lenM;omega) (by have:=hr.lenM;omega),jBj,Wb _ _ (by rw [Zo];have:=hr.lenM;omega) (by rw [Zo];have:=hr.lenM;omega),jBj,jTj hlt,p1]
  rw [Q4 unM p3,jBj,← WH,Int.toNat_natCast];rfl
 | .repair,_,hg,ha=>by
  have hk:=hg.kind
  dsimp only [kw] at hk
  obtain ⟨a,t,rfl,rfl,htv⟩:=hg.d11 rfl rfl
  obtain ⟨htk,hbk,hkn,hsp⟩:=QS ha
  have ht:okT r t:=okt htk htv
  simp only [jCj,List.map_nil]
  refine Eq.trans ?_ (show some (rtM r t (r.sectors.map Sd) ((r.mirrors.set (iM r.mirrors a) (zU (mAt r.mirrors a) false)).map QY) (r.offers.map Zj))=some (Vb (app .repair r [a] [t])) from rfl)
  unfold Qy
  rw [gi0,Z7 hr hc hn ht,jBj]
  (iterate 5 rw [jFj (dne hk (by decide))])
  rw [jTj hk]
  have hh:Zu (nmM r.mirrors) a=true:=ZW hkn
  obtain ⟨p1,p2,p3⟩:=WP hh
  have hlt:=Jl p1 p2
  rw [gs0,UC _ (by have:=hr.lenM;omega) (by have:=hr.lenM;omega),jBj,Wb _ _ (by rw [Zo];have:=hr.lenM;omega) (by rw [Zo];have:=hr.lenM;omega),jBj,jTj hlt,p1]
  rw [Q4 unM p3,jBj,← WH,Int.toNat_natCast];rfl
 | .aim,_,hg,ha=>by
  have hk:=hg.kind
  dsimp only [kw] at hk
  obtain ⟨a,t,rfl,rfl,htv⟩:=hg.d11 rfl rfl
  obtain ⟨htk,hbk,hkn,hsp⟩:=QS ha
  have ht:okT r t:=okt htk htv
  simp only [jCj,List.map_nil]
  refine Eq.trans ?_ (show some (rtM r t (r.sectors.map Sd) ((r.mirrors.set (iM r.mirrors a) (aimM (mAt r.mirrors a))).map QY) (r.offers.map Zj))=some (Vb (app .aim r [a] [t])) from rfl)
  unfold Qy
  rw [gi0,Z7 hr hc hn ht,jBj]
  (iterate 6 rw [jFj (dne hk (by decide))])
  rw [jTj hk]
  have hh:Zu (nmM r.mirrors) a=true:=ZW hkn
  obtain ⟨p1,p2,p3⟩:=WP hh
  have hlt:=Jl p1 p2
  rw [gs0,UC _ (by have:=hr.lenM;omega) (by have:=hr.lenM;omega),jBj,Wb _ _ (by rw [Zo];have:=hr.lenM;omega) (by rw [Zo];have:=hr.lenM;omega),jBj,jTj hlt,p1]
  rw [Q4 unM p3,jBj,← WH,Int.toNat_natCast];rfl
 | .park,_,hg,ha=>by
  have hk:=hg.kind
  dsimp only [kw] at hk
  obtain ⟨a,t,rfl,rfl,htv⟩:=hg.d11 rfl rfl
  obtain ⟨htk,hbk,hkn,hsp⟩:=QS ha
  have ht:okT r t:=okt htk htv
  simp only [jCj,List.map_nil]
  refine Eq.trans ?_ (show some (rtM r t (r.sectors.map Sd) ((r.mirrors.set (iM r.mirrors a) (Ka (mAt r.mirrors a))).map QY) (r.offers.map Zj))=some (Vb (app .park r [a] [t])) from rfl)
  unfold Qy
  rw [gi0,Z7 hr hc hn ht,jBj]
  (iterate 7 rw [jFj (dne hk (by decide))])
  rw [jTj hk]
  have hh:Zu (nmM r.mirrors) a=true:=ZW hkn
  obtain ⟨p1,p2,p3⟩:=WP hh
  have hlt:=Jl p1 p2
  rw [gs0,UC _ (by have:=hr.lenM;omega) (by have:=hr.lenM;omega),jBj,Wb _ _ (by rw [Zo];have:=hr.lenM;omega) (by rw [Zo];have:=hr.lenM;omega),jBj,jTj hlt,p1]
  rw [Q4 unM p3,jBj,← WH,Int.toNat_natCast];rfl
 | .dim,_,hg,ha=>by
  have hk:=hg.kind
  dsimp only [kw] at hk
  obtain ⟨a,t,rfl,rfl,htv⟩:=hg.d11 rfl rfl
  obtain ⟨htk,hbk,hkn,hsp⟩:=QS ha
  have ht:okT r t:=okt htk htv
  simp only [jCj,List.map_nil]
  refine Eq.trans ?_ (show some (rtM r t (r.sectors.map Sd) ((r.mirrors.map (EN a)).map QY) (r.offers.map Zj))=some (Vb (app .dim r [a] [t])) from rfl)
  unfold Qy
  rw [gi0,Z7 hr hc hn ht,jBj]
  (iterate 8 rw [jFj (dne hk (by decide))])
  rw [jTj hk]
  rw [Qdr _ (by have:=hr.lenM;omega) (by have:=hr.lenM;omega),jBj]
 | .sun,_,hg,ha=>by
  have hk:=hg.kind
  dsimp only [kw] at hk
  obtain ⟨t,v1,rfl,rfl,htv⟩:=hg.d02 rfl rfl
  obtain ⟨htk,hbk,hkn,hsp⟩:=QS ha
  have ht:okT r t:=okt htk htv
  simp only [jCj,List.map_nil]
  refine Eq.trans ?_ (show some ((t,v1,r.filled,r.tripped,r.light+ZL r t,r.heat+ZL r t,r.money,r.sectors.map Sd,r.mirrors.map QY,r.offers.map Zj):X1)=some (Vb (app .sun r [] [t,v1])) from rfl)
  unfold Qy
  rw [gi0,Z7 hr hc hn ht,jBj]
  (iterate 9 rw [jFj (dne hk (by decide))])
  rw [jTj hk]
  rw [gi1]
 | .fill,_,hg,ha=>by
  have hk:=hg.kind
  dsimp only [kw] at hk
  obtain ⟨t,rfl,rfl,htv⟩:=hg.d01 rfl rfl
  obtain ⟨htk,hbk,hkn,hsp⟩:=QS ha
  have ht:okT r t:=okt htk htv
  simp only [jCj,List.map_nil]
  refine Eq.trans ?_ (show some ((t,r.level,true,r.tripped,r.light+ZL r t,r.heat+ZL r t,r.money,r.sectors.map Sd,r.mirrors.map QY,r.offers.map Zj):X1)=some (Vb (app .fill r [] [t])) from rfl)
  unfold Qy
  rw [gi0,Z7 hr hc hn ht,jBj]
  (iterate 10 rw [jFj (dne hk (by decide))])
  rw [jTj hk]
 | .drain,_,hg,ha=>by
  have hk:=hg.kind
  dsimp only [kw] at hk
  obtain ⟨t,rfl,rfl,htv⟩:=hg.d01 rfl rfl
  obtain ⟨htk,hbk,hkn,hsp⟩:=QS ha
  have ht:okT r t:=okt htk htv
  simp only [jCj,List.map_nil]
  refine Eq.trans ?_ (show some ((t,r.level,false,r.tripped,r.light+ZL r t,r.heat+ZL r t,r.money,r.sectors.map Sd,r.mirrors.map QY,r.offers.map Zj):X1)=some (Vb (app .drain r [] [t])) from rfl)
  unfold Qy
  rw [gi0,Z7 hr hc hn ht,jBj]
  (iterate 11 rw [jFj (dne hk (by decide))])
  rw [jTj hk]
 | .trip,_,hg,ha=>by
  have hk:=hg.kind
  dsimp only [kw] at hk
  obtain ⟨t,rfl,rfl,htv⟩:=hg.d01 rfl rfl
  obtain ⟨htk,hbk,hkn,hsp⟩:=QS ha
  have ht:okT r t:=okt htk htv
  simp only [jCj,List.map_nil]
  refine Eq.trans ?_ (show some ((t,r.level,r.filled,true,r.light+ZL r t,r.heat+ZL r t,r.money,r.sectors.map Sd,(r.mirrors.map Ka).map QY,r.offers.map Zj):X1)=some (Vb (app .trip r [] [t])) from rfl)
  unfold Qy
  rw [gi0,Z7 hr hc hn ht,jBj]
  (iterate 12 rw [jFj (dne hk (by decide))])
  rw [jTj hk]
  rw [Qdq _ (by have:=hr.lenM;omega) (by have:=hr.lenM;omega),jBj]
 | .reset,_,hg,ha=>by
  have hk:=hg.kind
  dsimp only [kw] at hk
  obtain ⟨t,rfl,rfl,htv⟩:=hg.d01 rfl rfl
  obtain ⟨htk,hbk,hkn,hsp⟩:=QS ha
  have ht:okT r t:=okt htk htv
  simp only [jCj,List.map_nil]
  refine Eq.trans ?_ (show some ((t,r.level,r.filled,false,r.light+ZL r t,r.heat+ZL r t,r.money,r.sectors.map Sd,r.mirrors.map QY,r.offers.map Zj):X1)=some (Vb (app .reset r [] [t])) from rfl)
  unfold Qy
  rw [gi0,Z7 hr hc hn ht,jBj]
  (iterate 13 rw [jFj (dne hk (by decide))])
  rw [jTj hk]
 | .offer,_,hg,ha=>by
  have hk:=hg.kind
  dsimp only [kw] at hk
  obtain ⟨a,t,v1,v2,v3,v4,rfl,rfl,htv⟩:=hg.d15 rfl rfl
  obtain ⟨htk,hbk,hkn,hsp⟩:=QS ha
  have ht:okT r t:=okt htk htv
  simp only [jCj,List.map_nil]
  refine Eq.trans ?_ (show some (rtM r t (r.sectors.map Sd) (r.mirrors.map QY) ((r.offers++[((a,v1,v2,v3,v4,0,false):Off)]).map Zj))=some (Vb (app .offer r [a] [t,v1,v2,v3,v4])) from rfl)
  unfold Qy
  rw [gi0,Z7 hr hc hn ht,jBj]
  (iterate 14 rw [jFj (dne hk (by decide))])
  rw [jTj hk]
  have hs:∃ w,WL n num kind [Sd a] [I t,I v1,I v2,I v3,I v4] text=some (v1,v2,w):=by
   unfold WL
   rw [gi1,gi2,gi0]
   by_cases h:v1 < t
   ·rw [jTj h];exact ⟨14,rfl⟩
   ·rw [jFj h,Zd];exact ⟨_,rfl⟩
  obtain ⟨w,hs⟩:=hs
  rw [hs,jBj,gs0,gi3,gi4,jTj (rmO hr (by omega)),List.map_append];rfl
 | .deliver,_,hg,ha=>by
  have hk:=hg.kind
  dsimp only [kw] at hk
  obtain ⟨a,t,v1,rfl,rfl,htv⟩:=hg.d12 rfl rfl
  obtain ⟨htk,hbk,hkn,hsp⟩:=QS ha
  have ht:okT r t:=okt htk htv
  simp only [jCj,List.map_nil]
  refine Eq.trans ?_ (show some ((t,r.level,r.filled,r.tripped,r.light+ZL r t,r.heat+ZL r t - 1000000 * v1,r.money,r.sectors.map Sd,r.mirrors.map QY,(r.offers.set (iO r.offers a) (yO (oAt r.offers a) v1)).map Zj):X1)=some (Vb (app .deliver r [a] [t,v1])) from rfl)
  unfold Qy
  rw [gi0,Z7 hr hc hn ht,jBj]
  (iterate 15 rw [jFj (dne hk (by decide))])
  rw [jTj hk]
  have hh:Zu (nmO r.offers) a=true:=ZW hkn
  obtain ⟨p1,p2,p3⟩:=JV hh
  have hok:=hr.offs _ (List.mem_of_getElem? p3)
  have hlt:=uS p1 p2
  rw [gs0,EC _ (by have:=hr.lenO;omega) (by have:=hr.lenO;omega),jBj,Wb _ _ (by rw [Vq];have:=hr.lenO;omega) (by rw [Vq];have:=hr.lenO;omega),jBj,jTj hlt,p1]
  have hd:=EO hsp
  have hb:=YF hok
  have hv:=hg.val v1 (by simp)
  have hg2:=K4 hr hc ht
  have hh5:=hr.heat
  have hd3:=hd.2.2.1
  have hd0:=hok.2.2
  unfold Ws at hd3
  rw [Q4 unO p3,jBj,gi1,jTj (by unfold Qh;have:=hok.1;omega),jTj (by unfold Qh;omega),jTj (by unfold Qh;omega),← set_encO,Int.toNat_natCast];rfl
 | .bill,_,hg,ha=>by
  have hk:=hg.kind
  dsimp only [kw] at hk
  obtain ⟨a,t,rfl,rfl,htv⟩:=hg.d11 rfl rfl
  obtain ⟨htk,hbk,hkn,hsp⟩:=QS ha
  have ht:okT r t:=okt htk htv
  simp only [jCj,List.map_nil]
  refine Eq.trans ?_ (show some ((t,r.level,r.filled,r.tripped,r.light+ZL r t,r.heat+ZL r t,r.money+U5 (oAt r.offers a),r.sectors.map Sd,r.mirrors.map QY,(r.offers.set (iO r.offers a) (GV (oAt r.offers a))).map Zj):X1)=some (Vb (app .bill r [a] [t])) from rfl)
  unfold Qy
  rw [gi0,Z7 hr hc hn ht,jBj]
  (iterate 16 rw [jFj (dne hk (by decide))])
  rw [jTj hk]
  have hh:Zu (nmO r.offers) a=true:=ZW hkn
  obtain ⟨p1,p2,p3⟩:=JV hh
  have hok:=hr.offs _ (List.mem_of_getElem? p3)
  have hlt:=uS p1 p2
  rw [gs0,EC _ (by have:=hr.lenO;omega) (by have:=hr.lenO;omega),jBj,Wb _ _ (by rw [Vq];have:=hr.lenO;omega) (by rw [Vq];have:=hr.lenO;omega),jBj,jTj hlt,p1]
  have hb:=(YF hok).2.2.2
  have hm:=hr.money
  have hn2:(nth (List.set (r.offers.map Zj) (Int.toNat (iO r.offers a:Int)) (Zj (GV (oAt r.offers a))):jVj) (Int.toNat (iO r.offers a:Int))).bind Z6=some (GV (oAt r.offers a)):=by
   rw [Int.toNat_natCast,set_encO]
   have:=Q4 (i:=iO r.offers a) (l:=r.offers.set (iO r.offers a) (GV (oAt r.offers a))) (x:=GV (oAt r.offers a)) unO (by rw [List.getElem?_set_self p2])
   rwa [Int.toNat_natCast] at this
  have hok2:okO (GV (oAt r.offers a)):=hok
  have hbe:U5 (GV (oAt r.offers a))=U5 (oAt r.offers a):=rfl
  rw [Q4 unO p3,jBj]
  refine Eq.trans (congrArg (fun x:Option Off=>x.bind _) hn2) ?_
  rw [jBj,Qbp n hok2,jBj,hbe,jTj (by unfold Qh;omega),← set_encO,Int.toNat_natCast];rfl
 | .undo,h,_,_=>absurd rfl h
end Go.Proofs.YtljabneifpkbjaaGreatDoor
set_option maxRecDepth 20000
namespace Go.Proofs.YtljabneifpkbjaaGreatDoor
open Go.SX
theorem wh {l:List jSj} {s:jSj} (h:¬ Zu l s=true):YJ l s < 0:=wC.2 fun hm=>h (pos_mem.2 hm)
theorem EY {l:List jSj} {s:jSj} (h:Zu l s=true):¬ YJ l s < 0:=fun hh=>wC.1 hh (pos_mem.1 h)
theorem XL {l:List jSj} {s:jSj}:YJ l s ≥ 0↔Zu l s=true:=posI_nn.trans pos_mem.symm
theorem qm {n:Nat} (hn:100≤n) {a0 a1:Int} {a2 a3:Bool} {a4 a5 a6:Int} {a7:jVj} {a8:jVj} {a9:jVj} {a12:jVj} {a10:Int} {a11:jSj} {a13:jVj} {a14:jSj} {k:Ki} (hk:a11.data.toList=kw k) (hr:kr k=[]):QW n a0 a1 a2 a3 a4 a5 a6 a7 a8 a9 a10 a11 a12 a13 a14=some (0):=by
 unfold QW
 rw [JF n hk,jBj,hr]
 have q:Qj n a0 a1 a2 a3 a4 a5 a6 a7 a8 a9 a10 a11 a12 a13 a14 (mkS [],(kv k:Int),true) 0=some (.inr (.inr ())):=by
  unfold Qj
  dsimp only
  rw [jFj (show ¬ (0:Int) < ((mkS []).size:Int) by decide)]
 rw [Zf (by omega) q,jBj]
 dsimp only
 rw [jFj (show ¬ ((mkS []).size:Int) > 0 by decide)]
theorem QdX {n:Nat} (hn:100≤n) {a0 a1:Int} {a2 a3:Bool} {a4 a5 a6:Int} {a8:jVj} {a9:jVj} {a10:Int} {a11:jSj} {a13:jVj} {a14:jSj} (ss:List jSj) (hs:ss.length≤40) (a:jSj) {k:Ki} (hk:a11.data.toList=kw k) (hr:kr k=[83]):QW n a0 a1 a2 a3 a4 a5 a6 (ss.map Sd) a8 a9 a10 a11 [Sd a] a13 a14=some (QF (Zu ss a) 9):=by
 unfold QW
 rw [JF n hk,jBj,hr]
 have q:Qj n a0 a1 a2 a3 a4 a5 a6 (ss.map Sd) a8 a9 a10 a11 [Sd a] a13 a14 (mkS [83],(kv k:Int),true) 0=some (.inl 1):=by
  unfold Qj
  dsimp only
  rw [jTj (show (0:Int) < ((mkS [83]).size:Int) by decide),show WQ (mkS [83]) 0=some 83 from rfl,jBj,jFj (by decide),jTj (by decide)];rfl
 have q2:Qj n a0 a1 a2 a3 a4 a5 a6 (ss.map Sd) a8 a9 a10 a11 [Sd a] a13 a14 (mkS [83],(kv k:Int),true) 1=some (.inr (.inr ())):=by
  unfold Qj
  dsimp only
  rw [jFj (show ¬ (1:Int) < ((mkS [83]).size:Int) by decide)]
 rw [Wy (by omega) q,Zf (by omega) q2,jBj]
 dsimp only
 rw [jTj (show ((mkS [83]).size:Int) > 0 by decide),show WQ (mkS [83]) 0=some 83 from rfl,jBj,jTj (by decide),gs0,show IntKind.wrap .u8 (IntKind.wrap .u8 (83+97) - 65)=115 from by decide,at_s ss a (by omega) (by omega),jBj]
 unfold QF
 by_cases h:Zu ss a=true
 ·rw [jTj (XL.2 h),jTj h]
 ·rw [jFj (fun hh=>h (XL.1 hh)),jFj h]
theorem QdY {n:Nat} (hn:100≤n) {a0 a1:Int} {a2 a3:Bool} {a4 a5 a6:Int} {a7:jVj} {a8:jVj} {a10:Int} {a11:jSj} {a13:jVj} {a14:jSj} (os:List Off) (ho:os.length≤40) (a:jSj) {k:Ki} (hk:a11.data.toList=kw k) (hr:kr k=[79]):QW n a0 a1 a2 a3 a4 a5 a6 a7 a8 (os.map Zj) a10 a11 [Sd a] a13 a14=some (QF (Zu (nmO os) a) 9):=by
 unfold QW
 rw [JF n hk,jBj,hr]
 have q:Qj n a0 a1 a2 a3 a4 a5 a6 a7 a8 (os.map Zj) a10 a11 [Sd a] a13 a14 (mkS [79],(kv k:Int),true) 0=some (.inl 1):=by
  unfold Qj
  dsimp only
  rw [jTj (show (0:Int) < ((mkS [79]).size:Int) by decide),show WQ (mkS [79]) 0=some 79 from rfl,jBj,jFj (by decide),jTj (by decide)];rfl
 have q2:Qj n a0 a1 a2 a3 a4 a5 a6 a7 a8 (os.map Zj) a10 a11 [Sd a] a13 a14 (mkS [79],(kv k:Int),true) 1=some (.inr (.inr ())):=by
  unfold Qj
  dsimp only
  rw [jFj (show ¬ (1:Int) < ((mkS [79]).size:Int) by decide)]
 rw [Wy (by omega) q,Zf (by omega) q2,jBj]
 dsimp only
 rw [jTj (show ((mkS [79]).size:Int) > 0 by decide),show WQ (mkS [79]) 0=some 79 from rfl,jBj,jTj (by decide),gs0,show IntKind.wrap .u8 (IntKind.wrap .u8 (79+97) - 65)=111 from by decide,at_o os a (by omega) (by omega),jBj]
 unfold QF
 by_cases h:Zu (nmO os) a=true
 ·rw [jTj (XL.2 h),jTj h]
 ·rw [jFj (fun hh=>h (XL.1 hh)),jFj h]
theorem QdW {n:Nat} (hn:100≤n) {a0 a1:Int} {a2 a3:Bool} {a4 a5 a6:Int} {a8:jVj} {a9:jVj} {a10:Int} {a11:jSj} {a13:jVj} {a14:jSj} (ss:List jSj) (hs:ss.length≤40) (a:jSj) {k:Ki} (hk:a11.data.toList=kw k) (hr:kr k=[115]):QW n a0 a1 a2 a3 a4 a5 a6 (ss.map Sd) a8 a9 a10 a11 [Sd a] a13 a14=some (QF (!Zu ss a) 10):=by
 unfold QW
 rw [JF n hk,jBj,hr]
 by_cases h:Zu ss a=true
 ·have q:Qj n a0 a1 a2 a3 a4 a5 a6 (ss.map Sd) a8 a9 a10 a11 [Sd a] a13 a14 (mkS [115],(kv k:Int),true) 0=some (.inl 1):=by
   unfold Qj
   dsimp only
   rw [jTj (show (0:Int) < ((mkS [115]).size:Int) by decide),show WQ (mkS [115]) 0=some 115 from rfl,jBj,jTj (by decide),gs0,at_s ss a (by omega) (by omega),jBj,jFj (EY h),jTj (by decide)];rfl
  have q2:Qj n a0 a1 a2 a3 a4 a5 a6 (ss.map Sd) a8 a9 a10 a11 [Sd a] a13 a14 (mkS [115],(kv k:Int),true) 1=some (.inr (.inr ())):=by
   unfold Qj
   dsimp only
   rw [jFj (show ¬ (1:Int) < ((mkS [115]).size:Int) by decide)]
  rw [Wy (by omega) q,Zf (by omega) q2,jBj,h]
  dsimp only
  rw [jTj (show ((mkS [115]).size:Int) > 0 by decide),show WQ (mkS [115]) 0=some 115 from rfl,jBj,jFj (by decide)];rfl
 ·have q:Qj n a0 a1 a2 a3 a4 a5 a6 (ss.map Sd) a8 a9 a10 a11 [Sd a] a13 a14 (mkS [115],(kv k:Int),true) 0=some (.inr (.inl ())):=by
   unfold Qj
   dsimp only
   rw [jTj (show (0:Int) < ((mkS [115]).size:Int) by decide),show WQ (mkS [115]) 0=some 115 from rfl,jBj,jTj (by decide),gs0,at_s ss a (by omega) (by omega),jBj,jTj (wh h)]
  rw [Zf (by omega) q,jBj]
  simp only [Bool.not_eq_true] at h
  rw [h];rfl
theorem kQ {n:Nat} (hn:100≤n) {a0 a1:Int} {a2 a3:Bool} {a4 a5 a6:Int} {a7:jVj} {a9:jVj} {a10:Int} {a11:jSj} {a13:jVj} {a14:jSj} (ms:List Mir) (hm:ms.length≤40) (a:jSj) {k:Ki} (hk:a11.data.toList=kw k) (hr:kr k=[109]):QW n a0 a1 a2 a3 a4 a5 a6 a7 (ms.map QY) a9 a10 a11 [Sd a] a13 a14=some (QF (!Zu (nmM ms) a) 10):=by
 unfold QW
 rw [JF n hk,jBj,hr]
 by_cases h:Zu (nmM ms) a=true
 ·have q:Qj n a0 a1 a2 a3 a4 a5 a6 a7 (ms.map QY) a9 a10 a11 [Sd a] a13 a14 (mkS [109],(kv k:Int),true) 0=some (.inl 1):=by
   unfold Qj
   dsimp only
   rw [jTj (show (0:Int) < ((mkS [109]).size:Int) by decide),show WQ (mkS [109]) 0=some 109 from rfl,jBj,jTj (by decide),gs0,yT ms a (by omega) (by omega),jBj,jFj (EY h),jTj (by decide)];rfl
  have q2:Qj n a0 a1 a2 a3 a4 a5 a6 a7 (ms.map QY) a9 a10 a11 [Sd a] a13 a14 (mkS [109],(kv k:Int),true) 1=some (.inr (.inr ())):=by
   unfold Qj
   dsimp only
   rw [jFj (show ¬ (1:Int) < ((mkS [109]).size:Int) by decide)]
  rw [Wy (by omega) q,Zf (by omega) q2,jBj,h]
  dsimp only
  rw [jTj (show ((mkS [109]).size:Int) > 0 by decide),show WQ (mkS [109]) 0=some 109 from rfl,jBj,jFj (by decide)];rfl
 ·have q:Qj n a0 a1 a2 a3 a4 a5 a6 a7 (ms.map QY) a9 a10 a11 [Sd a] a13 a14 (mkS [109],(kv k:Int),true) 0=some (.inr (.inl ())):=by
   unfold Qj
   dsimp only
   rw [jTj (show (0:Int) < ((mkS [109]).size:Int) by decide),show WQ (mkS [109]) 0=some 109 from rfl,jBj,jTj (by decide),gs0,yT ms a (by omega) (by omega),jBj,jTj (wh h)]
  rw [Zf (by omega) q,jBj]
  simp only [Bool.not_eq_true] at h
  rw [h];rfl
theorem Qdo {n:Nat} (hn:100≤n) {a0 a1:Int} {a2 a3:Bool} {a4 a5 a6:Int} {a7:jVj} {a8:jVj} {a10:Int} {a11:jSj} {a13:jVj} {a14:jSj} (os:List Off) (ho:os.length≤40) (a:jSj) {k:Ki} (hk:a11.data.toList=kw k) (hr:kr k=[111]):QW n a0 a1 a2 a3 a4 a5 a6 a7 a8 (os.map Zj) a10 a11 [Sd a] a13 a14=some (QF (!Zu (nmO os) a) 10):=by
 unfold QW
 rw [JF n hk,jBj,hr]
 by_cases h:Zu (nmO os) a=true
 ·have q:Qj n a0 a1 a2 a3 a4 a5 a6 a7 a8 (os.map Zj) a10 a11 [Sd a] a13 a14 (mkS [111],(kv k:Int),true) 0=some (.inl 1):=by
   unfold Qj
   dsimp only
   rw [jTj (show (0:Int) < ((mkS [111]).size:Int) by decide),show WQ (mkS [111]) 0=some 111 from rfl,jBj,jTj (by decide),gs0,at_o os a (by omega) (by omega),jBj,jFj (EY h),jTj (by decide)];rfl
  have q2:Qj n a0 a1 a2 a3 a4 a5 a6 a7 a8 (os.map Zj) a10 a11 [Sd a] a13 a14 (mkS [111],(kv k:Int),true) 1=some (.inr (.inr ())):=by
   unfold Qj
   dsimp only
   rw [jFj (show ¬ (1:Int) < ((mkS [111]).size:Int) by decide)]
  rw [Wy (by omega) q,Zf (by omega) q2,jBj,h]
  dsimp only
  rw [jTj (show ((mkS [111]).size:Int) > 0 by decide),show WQ (mkS [111]) 0=some 111 from rfl,jBj,jFj (by decide)];rfl
 ·have q:Qj n a0 a1 a2 a3 a4 a5 a6 a7 a8 (os.map Zj) a10 a11 [Sd a] a13 a14 (mkS [111],(kv k:Int),true) 0=some (.inr (.inl ())):=by
   unfold Qj
   dsimp only
   rw [jTj (show (0:Int) < ((mkS [111]).size:Int) by decide),show WQ (mkS [111]) 0=some 111 from rfl,jBj,jTj (by decide),gs0,at_o os a (by omega) (by omega),jBj,jTj (wh h)]
  rw [Zf (by omega) q,jBj]
  simp only [Bool.not_eq_true] at h
  rw [h];rfl
theorem QdD {n:Nat} (hn:100≤n) {a0 a1:Int} {a2 a3:Bool} {a4 a5 a6:Int} {a9:jVj} {a10:Int} {a11:jSj} {a13:jVj} {a14:jSj} (ss:List jSj) (hs:ss.length≤40) (ms:List Mir) (hm:ms.length≤40) (a b:jSj) {k:Ki} (hk:a11.data.toList=kw k) (hr:kr k=[77,115]):QW n a0 a1 a2 a3 a4 a5 a6 (ss.map Sd) (ms.map QY) a9 a10 a11 [Sd a,Sd b] a13 a14=some (if Zu ss b=true then QF (Zu (nmM ms) a) 9 else 10):=by
 unfold QW
 rw [JF n hk,jBj,hr]
 have q:Qj n a0 a1 a2 a3 a4 a5 a6 (ss.map Sd) (ms.map QY) a9 a10 a11 [Sd a,Sd b] a13 a14 (mkS [77,115],(kv k:Int),true) 0=some (.inl 1):=by
  unfold Qj
  dsimp only
  rw [jTj (show (0:Int) < ((mkS [77,115]).size:Int) by decide),show WQ (mkS [77,115]) 0=some 77 from rfl,jBj,jFj (by decide),jTj (by decide)];rfl
 rw [Wy (by omega) q]
 by_cases h:Zu ss b=true
 ·have q2:Qj n a0 a1 a2 a3 a4 a5 a6 (ss.map Sd) (ms.map QY) a9 a10 a11 [Sd a,Sd b] a13 a14 (mkS [77,115],(kv k:Int),true) 1=some (.inl 2):=by
   unfold Qj
   dsimp only
   rw [jTj (show (1:Int) < ((mkS [77,115]).size:Int) by decide),show WQ (mkS [77,115]) 1=some 115 from rfl,jBj,jTj (by decide),gs1,at_s ss b (by omega) (by omega),jBj,jFj (EY h),jTj (by decide)];rfl
  have q3:Qj n a0 a1 a2 a3 a4 a5 a6 (ss.map Sd) (ms.map QY) a9 a10 a11 [Sd a,Sd b] a13 a14 (mkS [77,115],(kv k:Int),true) 2=some (.inr (.inr ())):=by
   unfold Qj
   dsimp only
   rw [jFj (show ¬ (2:Int) < ((mkS [77,115]).size:Int) by decide)]
  rw [Wy (by omega) q2,Zf (by omega) q3,jBj,jTj h]
  dsimp only
  rw [jTj (show ((mkS [77,115]).size:Int) > 0 by decide),show WQ (mkS [77,115]) 0=some 77 from rfl,jBj,jTj (by decide),gs0,show IntKind.wrap .u8 (IntKind.wrap .u8 (77+97) - 65)=109 from by decide,yT ms a (by omega) (by omega),jBj]
  unfold QF
  by_cases g:Zu (nmM ms) a=true
  ·rw [jTj (XL.2 g),jTj g]
  ·rw [jFj (fun hh=>g (XL.1 hh)),jFj g]
 ·have q2:Qj n a0 a1 a2 a3 a4 a5 a6 (ss.map Sd) (ms.map QY) a9 a10 a11 [Sd a,Sd b] a13 a14 (mkS [77,115],(kv k:Int),true) 1=some (.inr (.inl ())):=by
   unfold Qj
   dsimp only
   rw [jTj (show (1:Int) < ((mkS [77,115]).size:Int) by decide),show WQ (mkS [77,115]) 1=some 115 from rfl,jBj,jTj (by decide),gs1,at_s ss b (by omega) (by omega),jBj,jTj (wh h)]
  rw [Zf (by omega) q2,jBj,jFj h]
end Go.Proofs.YtljabneifpkbjaaGreatDoor
set_option maxRecDepth 20000
namespace Go.Proofs.YtljabneifpkbjaaGreatDoor
open Go.SX
def Vc (r:Reg) (e:Int):Int×Int×Bool×Bool×Int×Int×Int×jVj×jVj×jVj×Int:=(r.tick,r.level,r.filled,r.tripped,r.light,r.heat,r.money,r.sectors.map Sd,r.mirrors.map QY,r.offers.map Zj,e)
theorem VB {x:Option (Int×Int×Bool×Bool×Int×Int×Int×jVj×jVj×jVj×Int)} {k:Ki} {r:Reg} {ns:List jSj} {vs:List Int} {t:Int} (e:Int) (he:e≠0) (hs:spec k r ns vs=e) (h:x=some (Vc (bkd r t) e)) :
  ∃ r',x=some (Vc r' (spec k r ns vs))∧(spec k r ns vs=0→r'=app k r ns vs):=⟨bkd r t,by rw [hs];exact h,fun h0=>absurd (hs.symm.trans h0) he⟩
theorem UX {x:Option (Int×Int×Bool×Bool×Int×Int×Int×jVj×jVj×jVj×Int)} {k:Ki} {r:Reg} {ns:List jSj} {vs:List Int} (hs:spec k r ns vs=0) (h:x=some (Vc (app k r ns vs) 0)) :
  ∃ r',x=some (Vc r' (spec k r ns vs))∧(spec k r ns vs=0→r'=app k r ns vs):=⟨_,by rw [hs];exact h,fun _=>rfl⟩
theorem QaI {x lo hi:Int} (h:x > hi):inR x lo hi=3:=by
 unfold inR
 by_cases h2:x < lo
 ·rw [jTj h2]
 ·rw [jFj h2,jTj h]
theorem QaH {x lo hi:Int} (h1:lo≤x) (h2:x≤hi):inR x lo hi=0:=YC.2 ⟨h1,h2⟩
theorem QN {a:Int} (l:List Int) (h:a=0):Qt (a::l)=Qt l:=by unfold Qt;rw [jTj h];cases l <;> rfl
theorem QT {a:Int} (l:List Int) (h:a≠0):Qt (a::l)=a:=by unfold Qt;rw [jFj h]
theorem Wz {x:Int}:Qt [x]=x:=by
 simp only [Qt]
 split
 ·rename_i h;exact h.symm
 ·rfl
theorem El (e:Int):QF true e=e:=rfl
theorem Xb (e:Int):QF false e=0:=rfl
theorem QcR {n c:Nat} (hn:100≤n) {r:Reg} (hr:Inv c r) (hc:c≤30) {num:Int} {kind text:jSj} {names:List jSj} {vals:List Int} :
  ∀ {k:Ki},k≠.undo→Good (num,kind,names,vals,text) k→∃ r',QZ n r.tick r.level r.filled r.tripped r.light r.heat r.money (r.sectors.map Sd) (r.mirrors.map QY) (r.offers.map Zj) num kind (names.map Sd) (vals.map I) text=some (Vc r' (acc k r names vals))∧(acc k r names vals=0→r'=app k r names vals)
 | .sector,_,hg=>by
  have hk0:=hg.kind
  dsimp only at hk0
  have hk:=hk0
  dsimp only [kw] at hk
  obtain ⟨a,t,rfl,rfl,htv⟩:=hg.d11 rfl rfl
  simp only [jCj,List.map_nil]
  unfold QZ acc
  rw [gi0]
  by_cases htk:t < r.tick
  ·exact ⟨r,by rw [jTj htk,jTj (g0 htk)];rfl,fun h=>by rw [jTj (g0 htk)] at h;cases h⟩
  rw [jFj htk,jFj (g0n htk)]
  have ht:okT r t:=okt htk htv
  rw [Zs hr (by omega) hn ht,jBj]
  show ∃ r',_=some (Vc r' (Qt [Zk r t,known .sector r [a],spec .sector r [a] [t]]))∧(Qt [Zk r t,known .sector r [a],spec .sector r [a] [t]]=0→_)
  by_cases hbk:Zk r t=0
  ·rw [jTj hbk,QN _ hbk]
   dsimp only
   rw [jTj rfl,QdX hn r.sectors (by have:=hr.secs;omega) a hk0 rfl,jBj]
   show ∃ r',(if known .sector r [a]=0 then _ else _)=_∧_
   by_cases hkn:known .sector r [a]=0
   ·rw [jTj hkn,QN _ hkn]
    rw [Wz,jTj (rzS hr),jTj (rzM hr (by omega)),jTj (rzO hr (by omega))]
    (iterate 8 rw [jFj (kne hk (by decide))])
    rw [jTj (keq hk rfl)]
    have hse:=hr.secs
    have hsp0:spec .sector r [a] [t]=QF ((r.sectors.length:Int) == 8) 5:=rfl
    by_cases h:((r.sectors.map Sd).length:Int) ≥ 8
    ·have hb:((r.sectors.length:Int) == 8)=true:=by rw [List.length_map] at h;simp;omega
     exact VB (t:=t) 5 (by decide) (by rw [hsp0,hb];rfl) (by rw [jTj h];rfl)
    ·have hb:((r.sectors.length:Int) == 8)=false:=by rw [List.length_map] at h;simp;omega
     exact UX (by rw [hsp0,hb];rfl) (by rw [jFj h,gs0,jTj (V7 (by decide) (by rw [List.length_map];omega))];unfold Vc app act bkd;simp only [List.map_append];rfl)
   ·rw [jFj hkn,QT _ hkn]
    exact ⟨r,rfl,fun h=>absurd h hkn⟩
  ·rw [jFj hbk,QT _ hbk]
   rw [bk4 hbk]
   exact ⟨r,rfl,fun h=>by cases h⟩
 | .mirror,_,hg=>by
  have hk0:=hg.kind
  dsimp only at hk0
  have hk:=hk0
  dsimp only [kw] at hk
  obtain ⟨a,b,t,v1,rfl,rfl,htv⟩:=hg.d22 rfl rfl
  simp only [jCj,List.map_nil]
  unfold QZ acc
  rw [gi0]
  by_cases htk:t < r.tick
  ·exact ⟨r,by rw [jTj htk,jTj (g0 htk)];rfl,fun h=>by rw [jTj (g0 htk)] at h;cases h⟩
  rw [jFj htk,jFj (g0n htk)]
  have ht:okT r t:=okt htk htv
  rw [Zs hr (by omega) hn ht,jBj]
  show ∃ r',_=some (Vc r' (Qt [Zk r t,known .mirror r [a,b],spec .mirror r [a,b] [t,v1]]))∧(Qt [Zk r t,known .mirror r [a,b],spec .mirror r [a,b] [t,v1]]=0→_)
  by_cases hbk:Zk r t=0
  ·rw [jTj hbk,QN _ hbk]
   dsimp only
   rw [jTj rfl,QdD hn r.sectors (by have:=hr.secs;omega) r.mirrors (by have:=hr.lenM;omega) a b hk0 rfl,jBj]
   show ∃ r',(if known .mirror r [a,b]=0 then _ else _)=_∧_
   by_cases hkn:known .mirror r [a,b]=0
   ·rw [jTj hkn,QN _ hkn]
    rw [Wz,jTj (rzS hr),jTj (rzM hr (by omega)),jTj (rzO hr (by omega))]
    (iterate 9 rw [jFj (kne hk (by decide))])
    rw [jTj (keq hk rfl)]
    have hlm:=hr.lenM
    have hsp0:spec .mirror r [a,b] [t,v1]=Qt [inR v1 1 100,QF ((r.mirrors.length:Int) == 32) 5]:=rfl
    rw [gi1,YL,jBj]
    by_cases h:inR v1 1 100=0
    ·rw [QN _ h] at hsp0
     have hnb:((r.mirrors.length:Int) == 32)=false:=by simp;omega
     refine UX (by rw [hsp0,hnb];rfl) (by rw [jFj (by simp [h]),jFj (by rw [List.length_map];omega),gs0,gs1,jTj (V7 (by decide) (by rw [List.length_map];omega))];unfold Vc app act bkd;simp only [List.map_append];rfl)
    ·have h':=(qO v1 1 100).resolve_left h
     exact VB (t:=t) 3 (by decide) (by rw [hsp0,h'];rfl) (by rw [jTj (by simp [h])];rfl)
   ·rw [jFj hkn,QT _ hkn]
    exact ⟨r,rfl,fun h=>absurd h hkn⟩
  ·rw [jFj hbk,QT _ hbk]
   rw [bk4 hbk]
   exact ⟨r,rfl,fun h=>by cases h⟩
 | .soil,_,hg=>by
  have hk0:=hg.kind
  dsimp only at hk0
  have hk:=hk0
  dsimp only [kw] at hk
  obtain ⟨a,t,v1,rfl,rfl,htv⟩:=hg.d12 rfl rfl
  simp only [jCj,List.map_nil]
  unfold QZ acc
  rw [gi0]
  by_cases htk:t < r.tick
  ·exact ⟨r,by rw [jTj htk,jTj (g0 htk)];rfl,fun h=>by rw [jTj (g0 htk)] at h;cases h⟩
  rw [jFj htk,jFj (g0n htk)]
  have ht:okT r t:=okt htk htv
  rw [Zs hr (by omega) hn ht,jBj]
  show ∃ r',_=some (Vc r' (Qt [Zk r t,known .soil r [a],spec .soil r [a] [t,v1]]))∧(Qt [Zk r t,known .soil r [a],spec .soil r [a] [t,v1]]=0→_)
  by_cases hbk:Zk r t=0
  ·rw [jTj hbk,QN _ hbk]
   dsimp only
   rw [jTj rfl,kQ hn r.mirrors (by have:=hr.lenM;omega) a hk0 rfl,jBj]
   show ∃ r',(if known .soil r [a]=0 then _ else _)=_∧_
   by_cases hkn:known .soil r [a]=0
   ·rw [jTj hkn,QN _ hkn]
    rw [Wz,jTj (rzS hr),jTj (rzM hr (by omega)),jTj (rzO hr (by omega))]
    (iterate 11 rw [jFj (kne hk (by decide))])
    have hh:Zu (nmM r.mirrors) a=true:=ZW hkn
    obtain ⟨p1,p2,p3⟩:=WP hh
    have hlt:=Jl p1 p2
    have hlt2:Int.toNat (YJ (nmM r.mirrors) a) < (r.mirrors.map QY).length:=by rw [p1,List.length_map,Int.toNat_natCast];exact p2
    rw [gs0,yT _ _ (by have:=hr.lenM;omega) (by have:=hr.lenM;omega),jBj,jTj hlt]
    rw [p1] at hlt2 ⊢
    rw [Q4 unM p3,jBj]
    rw [jTj (keq hk rfl),gi1]
    by_cases h:v1 > 1000
    ·exact VB (t:=t) 3 (by decide) (QaI h) (by rw [jTj h];rfl)
    ·exact UX (QaH (x:=v1) (lo:=0) (hi:=1000) (hg.val v1 (by simp)).1 (by omega)) (by rw [jFj h];rw [jTj hlt2,show some (Vc (app .soil r [a] [t,v1]) 0)=some ((rtE r t (r.sectors.map Sd) ((r.mirrors.set (iM r.mirrors a) (X8 (mAt r.mirrors a) v1)).map QY) (r.offers.map Zj))) from rfl,← WH,Int.toNat_natCast];rfl)
   ·rw [jFj hkn,QT _ hkn]
    exact ⟨r,rfl,fun h=>absurd h hkn⟩
  ·rw [jFj hbk,QT _ hbk]
   rw [bk4 hbk]
   exact ⟨r,rfl,fun h=>by cases h⟩
 | .clean,_,hg=>by
  have hk0:=hg.kind
  dsimp only at hk0
  have hk:=hk0
  dsimp only [kw] at hk
  obtain ⟨a,t,rfl,rfl,htv⟩:=hg.d11 rfl rfl
  simp only [jCj,List.map_nil]
  unfold QZ acc
  rw [gi0]
  by_cases htk:t < r.tick
  ·exact ⟨r,by rw [jTj htk,jTj (g0 htk)];rfl,fun h=>by rw [jTj (g0 htk)] at h;cases h⟩
  rw [jFj htk,jFj (g0n htk)]
  have ht:okT r t:=okt htk htv
  rw [Zs hr (by omega) hn ht,jBj]
  show ∃ r',_=some (Vc r' (Qt [Zk r t,known .clean r [a],spec .clean r [a] [t]]))∧(Qt [Zk r t,known .clean r [a],spec .clean r [a] [t]]=0→_)
  by_cases hbk:Zk r t=0
  ·rw [jTj hbk,QN _ hbk]
   dsimp only
   rw [jTj rfl,kQ hn r.mirrors (by have:=hr.lenM;omega) a hk0 rfl,jBj]
   show ∃ r',(if known .clean r [a]=0 then _ else _)=_∧_
   by_cases hkn:known .clean r [a]=0
   ·rw [jTj hkn,QN _ hkn]
    rw [Wz,jTj (rzS hr),jTj (rzM hr (by omega)),jTj (rzO hr (by omega))]
    (iterate 11 rw [jFj (kne hk (by decide))])
    have hh:Zu (nmM r.mirrors) a=true:=ZW hkn
    obtain ⟨p1,p2,p3⟩:=WP hh
    have hlt:=Jl p1 p2
    have hlt2:Int.toNat (YJ (nmM r.mirrors) a) < (r.mirrors.map QY).length:=by rw [p1,List.length_map,Int.toNat_natCast];exact p2
    rw [gs0,yT _ _ (by have:=hr.lenM;omega) (by have:=hr.lenM;omega),jBj,jTj hlt]
    rw [p1] at hlt2 ⊢
    rw [Q4 unM p3,jBj]
    rw [jFj (kne hk (by decide)),jTj (keq hk rfl)]
    exact UX rfl (by rw [jTj hlt2,show some (Vc (app .clean r [a] [t]) 0)=some ((rtE r t (r.sectors.map Sd) ((r.mirrors.set (iM r.mirrors a) (X8 (mAt r.mirrors a) 0)).map QY) (r.offers.map Zj))) from rfl,← WH,Int.toNat_natCast];rfl)
   ·rw [jFj hkn,QT _ hkn]
    exact ⟨r,rfl,fun h=>absurd h hkn⟩
  ·rw [jFj hbk,QT _ hbk]
   rw [bk4 hbk]
   exact ⟨r,rfl,fun h=>by cases h⟩
 | .defect,_,hg=>by
  have hk0:=hg.kind
  dsimp only at hk0
  have hk:=hk0
  dsimp only [kw] at hk
  obtain ⟨a,t,rfl,rfl,htv⟩:=hg.d11 rfl rfl
  simp only [jCj,List.map_nil]
  unfold QZ acc
  rw [gi0]
  by_cases htk:t < r.tick
  ·exact ⟨r,by rw [jTj htk,jTj (g0 htk)];rfl,fun h=>by rw [jTj (g0 htk)] at h;cases h⟩
  rw [jFj htk,jFj (g0n htk)]
  have ht:okT r t:=okt htk htv
  rw [Zs hr (by omega) hn ht,jBj]
  show ∃ r',_=some (Vc r' (Qt [Zk r t,known .defect r [a],spec .defect r [a] [t]]))∧(Qt [Zk r t,known .defect r [a],spec .defect r [a] [t]]=0→_)
  by_cases hbk:Zk r t=0
  ·rw [jTj hbk,QN _ hbk]
   dsimp only
   rw [jTj rfl,kQ hn r.mirrors (by have:=hr.lenM;omega) a hk0 rfl,jBj]
   show ∃ r',(if known .defect r [a]=0 then _ else _)=_∧_
   by_cases hkn:known .defect r [a]=0
   ·rw [jTj hkn,QN _ hkn]
    rw [Wz,jTj (rzS hr),jTj (rzM hr (by omega)),jTj (rzO hr (by omega))]
    (iterate 11 rw [jFj (kne hk (by decide))])
    have hh:Zu (nmM r.mirrors) a=true:=ZW hkn
    obtain ⟨p1,p2,p3⟩:=WP hh
    have hlt:=Jl p1 p2
    have hlt2:Int.toNat (YJ (nmM r.mirrors) a) < (r.mirrors.map QY).length:=by rw [p1,List.length_map,Int.toNat_natCast];exact p2
    rw [gs0,yT _ _ (by have:=hr.lenM;omega) (by have:=hr.lenM;omega),jBj,jTj hlt]
    rw [p1] at hlt2 ⊢
    rw [Q4 unM p3,jBj]
    rw [jFj (kne hk (by decide)),jFj (kne hk (by decide)),jTj (keq hk rfl)]
    have hsp0:spec .defect r [a] [t]=Qt [QF (mAt r.mirrors a).2.2.2.2.1 9,QF (mAt r.mirrors a).2.2.2.2.2 31]:=rfl
    cases hd:(mAt r.mirrors a).2.2.2.2.1 with
    | true=>exact VB (t:=t) 9 (by decide) (by rw [hsp0,hd];rfl) (by rw [jTj rfl];rfl)
    | false =>
     rw [jFj (by decide)]
     cases hm:(mAt r.mirrors a).2.2.2.2.2 with
     | true=>exact VB (t:=t) 31 (by decide) (by rw [hsp0,hd,hm];rfl) (by rw [jTj rfl];rfl)
     | false =>
      have e3:zU (mAt r.mirrors a) true=((mAt r.mirrors a).1,(mAt r.mirrors a).2.1,(mAt r.mirrors a).2.2.1,(mAt r.mirrors a).2.2.2.1,true,false):=by unfold zU;rw [hm]
      exact UX (by rw [hsp0,hd,hm];rfl) (by rw [jFj (by decide)];rw [jTj hlt2,show some (Vc (app .defect r [a] [t]) 0)=some ((rtE r t (r.sectors.map Sd) ((r.mirrors.set (iM r.mirrors a) (zU (mAt r.mirrors a) true)).map QY) (r.offers.map Zj))) from rfl,e3,← WH,Int.toNat_natCast];rfl)
   ·rw [jFj hkn,QT _ hkn]
    exact ⟨r,rfl,fun h=>absurd h hkn⟩
  ·rw [jFj hbk,QT _ hbk]
   rw [bk4 hbk]
   exact ⟨r,rfl,fun h=>by cases h⟩
 | .repair,_,hg=>by
  have hk0:=hg.kind
  dsimp only at hk0
  have hk:=hk0
  dsimp only [kw] at hk
  obtain ⟨a,t,rfl,rfl,htv⟩:=hg.d11 rfl rfl
  simp only [jCj,List.map_nil]
  unfold QZ acc
  rw [gi0]
  by_cases htk:t < r.tick
  ·exact ⟨r,by rw [jTj htk,jTj (g0 htk)];rfl,fun h=>by rw [jTj (g0 htk)] at h;cases h⟩
  rw [jFj htk,jFj (g0n htk)]
  have ht:okT r t:=okt htk htv
  rw [Zs hr (by omega) hn ht,jBj]
  show ∃ r',_=some (Vc r' (Qt [Zk r t,known .repair r [a],spec .repair r [a] [t]]))∧(Qt [Zk r t,known .repair r [a],spec .repair r [a] [t]]=0→_)
  by_cases hbk:Zk r t=0
  ·rw [jTj hbk,QN _ hbk]
   dsimp only
   rw [jTj rfl,kQ hn r.mirrors (by have:=hr.lenM;omega) a hk0 rfl,jBj]
   show ∃ r',(if known .repair r [a]=0 then _ else _)=_∧_
   by_cases hkn:known .repair r [a]=0
   ·rw [jTj hkn,QN _ hkn]
    rw [Wz,jTj (rzS hr),jTj (rzM hr (by omega)),jTj (rzO hr (by omega))]
    (iterate 11 rw [jFj (kne hk (by decide))])
    have hh:Zu (nmM r.mirrors) a=true:=ZW hkn
    obtain ⟨p1,p2,p3⟩:=WP hh
    have hlt:=Jl p1 p2
    have hlt2:Int.toNat (YJ (nmM r.mirrors) a) < (r.mirrors.map QY).length:=by rw [p1,List.length_map,Int.toNat_natCast];exact p2
    rw [gs0,yT _ _ (by have:=hr.lenM;omega) (by have:=hr.lenM;omega),jBj,jTj hlt]
    rw [p1] at hlt2 ⊢
    rw [Q4 unM p3,jBj]
    (iterate 3 rw [jFj (kne hk (by decide))])
    rw [jTj (keq hk rfl)]
    have hsp0:spec .repair r [a] [t]=QF (!(mAt r.mirrors a).2.2.2.2.1) 22:=rfl
    cases hd:(mAt r.mirrors a).2.2.2.2.1 with
    | false=>exact VB (t:=t) 22 (by decide) (by rw [hsp0,hd];rfl) (by rw [jFj (by decide)];rfl)
    | true=>exact UX (by rw [hsp0,hd];rfl) (by rw [jTj rfl];rw [jTj hlt2,show some (Vc (app .repair r [a] [t]) 0)=some ((rtE r t (r.sectors.map Sd) ((r.mirrors.set (iM r.mirrors a) (zU (mAt r.mirrors a) false)).map QY) (r.offers.map Zj))) from rfl,← WH,Int.toNat_natCast];rfl)
   ·rw [jFj hkn,QT _ hkn]
    exact ⟨r,rfl,fun h=>absurd h hkn⟩
  ·rw [jFj hbk,QT _ hbk]
   rw [bk4 hbk]
   exact ⟨r,rfl,fun h=>by cases h⟩
 | .aim,_,hg=>by
  have hk0:=hg.kind
  dsimp only at hk0
  have hk:=hk0
  dsimp only [kw] at hk
  obtain ⟨a,t,rfl,rfl,htv⟩:=hg.d11 rfl rfl
  simp only [jCj,List.map_nil]
  unfold QZ acc
  rw [gi0]
  by_cases htk:t < r.tick
  ·exact ⟨r,by rw [jTj htk,jTj (g0 htk)];rfl,fun h=>by rw [jTj (g0 htk)] at h;cases h⟩
  rw [jFj htk,jFj (g0n htk)]
  have ht:okT r t:=okt htk htv
  rw [Zs hr (by omega) hn ht,jBj]
  show ∃ r',_=some (Vc r' (Qt [Zk r t,known .aim r [a],spec .aim r [a] [t]]))∧(Qt [Zk r t,known .aim r [a],spec .aim r [a] [t]]=0→_)
  by_cases hbk:Zk r t=0
  ·rw [jTj hbk,QN _ hbk]
   dsimp only
   rw [jTj rfl,kQ hn r.mirrors (by have:=hr.lenM;omega) a hk0 rfl,jBj]
   show ∃ r',(if known .aim r [a]=0 then _ else _)=_∧_
   by_cases hkn:known .aim r [a]=0
   ·rw [jTj hkn,QN _ hkn]
    rw [Wz,jTj (rzS hr),jTj (rzM hr (by omega)),jTj (rzO hr (by omega))]
    (iterate 11 rw [jFj (kne hk (by decide))])
    have hh:Zu (nmM r.mirrors) a=true:=ZW hkn
    obtain ⟨p1,p2,p3⟩:=WP hh
    have hlt:=Jl p1 p2
    have hlt2:Int.toNat (YJ (nmM r.mirrors) a) < (r.mirrors.map QY).length:=by rw [p1,List.length_map,Int.toNat_natCast];exact p2
    rw [gs0,yT _ _ (by have:=hr.lenM;omega) (by have:=hr.lenM;omega),jBj,jTj hlt]
    rw [p1] at hlt2 ⊢
    rw [Q4 unM p3,jBj]
    (iterate 4 rw [jFj (kne hk (by decide))])
    rw [jTj (keq hk rfl)]
    have hsp0:spec .aim r [a] [t]=Qt [QF (!r.filled) 30,QF r.tripped 29,QF (mAt r.mirrors a).2.2.2.2.1 21,QF (mAt r.mirrors a).2.2.2.2.2 9]:=rfl
    cases hf:r.filled with
    | false=>exact VB (t:=t) 30 (by decide) (by rw [hsp0,hf];rfl) (by rw [jFj (by decide)];unfold Vc bkd;rw [hf])
    | true =>
     rw [jTj rfl]
     cases htr:r.tripped with
     | true=>exact VB (t:=t) 29 (by decide) (by rw [hsp0,hf,htr];rfl) (by rw [jTj rfl];unfold Vc bkd;rw [hf,htr])
     | false =>
      rw [jFj (by decide)]
      cases hd:(mAt r.mirrors a).2.2.2.2.1 with
      | true=>exact VB (t:=t) 21 (by decide) (by rw [hsp0,hf,htr,hd];rfl) (by rw [jTj rfl];unfold Vc bkd;rw [hf,htr])
      | false =>
       rw [jFj (by decide)]
       cases hm:(mAt r.mirrors a).2.2.2.2.2 with
       | true=>exact VB (t:=t) 9 (by decide) (by rw [hsp0,hf,htr,hd,hm];rfl) (by rw [jTj rfl];unfold Vc bkd;rw [hf,htr])
       | false =>
        have e3:aimM (mAt r.mirrors a)=((mAt r.mirrors a).1,(mAt r.mirrors a).2.1,(mAt r.mirrors a).2.2.1,(mAt r.mirrors a).2.2.2.1,false,true):=by unfold aimM;rw [hd]
        exact UX (by rw [hsp0,hf,htr,hd,hm];rfl) (by rw [jFj (by decide)];rw [jTj hlt2,show some (Vc (app .aim r [a] [t]) 0)=some ((rtE r t (r.sectors.map Sd) ((r.mirrors.set (iM r.mirrors a) (aimM (mAt r.mirrors a))).map QY) (r.offers.map Zj))) from rfl,rtE,e3,← WH,Int.toNat_natCast,hf,htr];rfl)
   ·rw [jFj hkn,QT _ hkn]
    exact ⟨r,rfl,fun h=>absurd h hkn⟩
  ·rw [jFj hbk,QT _ hbk]
   rw [bk4 hbk]
   exact ⟨r,rfl,fun h=>by cases h⟩
 | .park,_,hg=>by
  have hk0:=hg.kind
  dsimp only at hk0
  have hk:=hk0
  dsimp only [kw] at hk
  obtain ⟨a,t,rfl,rfl,htv⟩:=hg.d11 rfl rfl
  simp only [jCj,List.map_nil]
  unfold QZ acc
  rw [gi0]
  by_cases htk:t < r.tick
  ·exact ⟨r,by rw [jTj htk,jTj (g0 htk)];rfl,fun h=>by rw [jTj (g0 htk)] at h;cases h⟩
  rw [jFj htk,jFj (g0n htk)]
  have ht:okT r t:=okt htk htv
  rw [Zs hr (by omega) hn ht,jBj]
  show ∃ r',_=some (Vc r' (Qt [Zk r t,known .park r [a],spec .park r [a] [t]]))∧(Qt [Zk r t,known .park r [a],spec .park r [a] [t]]=0→_)
  by_cases hbk:Zk r t=0
  ·rw [jTj hbk,QN _ hbk]
   dsimp only
   rw [jTj rfl,kQ hn r.mirrors (by have:=hr.lenM;omega) a hk0 rfl,jBj]
   show ∃ r',(if known .park r [a]=0 then _ else _)=_∧_
   by_cases hkn:known .park r [a]=0
   ·rw [jTj hkn,QN _ hkn]
    rw [Wz,jTj (rzS hr),jTj (rzM hr (by omega)),jTj (rzO hr (by omega))]
    (iterate 11 rw [jFj (kne hk (by decide))])
    have hh:Zu (nmM r.mirrors) a=true:=ZW hkn
    obtain ⟨p1,p2,p3⟩:=WP hh
    have hlt:=Jl p1 p2
    have hlt2:Int.toNat (YJ (nmM r.mirrors) a) < (r.mirrors.map QY).length:=by rw [p1,List.length_map,Int.toNat_natCast];exact p2
    rw [gs0,yT _ _ (by have:=hr.lenM;omega) (by have:=hr.lenM;omega),jBj,jTj hlt]
    rw [p1] at hlt2 ⊢
    rw [Q4 unM p3,jBj]
    (iterate 5 rw [jFj (kne hk (by decide))])
    have hsp0:spec .park r [a] [t]=QF (!(mAt r.mirrors a).2.2.2.2.2) 22:=rfl
    cases hm:(mAt r.mirrors a).2.2.2.2.2 with
    | false=>exact VB (t:=t) 22 (by decide) (by rw [hsp0,hm];rfl) (by rw [jFj (by decide)];rfl)
    | true=>exact UX (by rw [hsp0,hm];rfl) (by rw [jTj rfl];rw [jTj hlt2,show some (Vc (app .park r [a] [t]) 0)=some ((rtE r t (r.sectors.map Sd) ((r.mirrors.set (iM r.mirrors a) (Ka (mAt r.mirrors a))).map QY) (r.offers.map Zj))) from rfl,← WH,Int.toNat_natCast];rfl)
   ·rw [jFj hkn,QT _ hkn]
    exact ⟨r,rfl,fun h=>absurd h hkn⟩
  ·rw [jFj hbk,QT _ hbk]
   rw [bk4 hbk]
   exact ⟨r,rfl,fun h=>by cases h⟩
 | .dim,_,hg=>by
  have hk0:=hg.kind
  dsimp only at hk0
  have hk:=hk0
  dsimp only [kw] at hk
  obtain ⟨a,t,rfl,rfl,htv⟩:=hg.d11 rfl rfl
  simp only [jCj,List.map_nil]
  unfold QZ acc
  rw [gi0]
  by_cases htk:t < r.tick
  ·exact ⟨r,by rw [jTj htk,jTj (g0 htk)];rfl,fun h=>by rw [jTj (g0 htk)] at h;cases h⟩
  rw [jFj htk,jFj (g0n htk)]
  have ht:okT r t:=okt htk htv
  rw [Zs hr (by omega) hn ht,jBj]
  show ∃ r',_=some (Vc r' (Qt [Zk r t,known .dim r [a],spec .dim r [a] [t]]))∧(Qt [Zk r t,known .dim r [a],spec .dim r [a] [t]]=0→_)
  by_cases hbk:Zk r t=0
  ·rw [jTj hbk,QN _ hbk]
   dsimp only
   rw [jTj rfl,QdW hn r.sectors (by have:=hr.secs;omega) a hk0 rfl,jBj]
   show ∃ r',(if known .dim r [a]=0 then _ else _)=_∧_
   by_cases hkn:known .dim r [a]=0
   ·rw [jTj hkn,QN _ hkn]
    rw [Wz,jTj (rzS hr),jTj (rzM hr (by omega)),jTj (rzO hr (by omega))]
    (iterate 10 rw [jFj (kne hk (by decide))])
    rw [jTj (keq hk rfl)]
    exact UX rfl (by rw [gs0,Qch _ (by have:=hr.lenM;omega) (by have:=hr.lenM;omega),jBj];rfl)
   ·rw [jFj hkn,QT _ hkn]
    exact ⟨r,rfl,fun h=>absurd h hkn⟩
  ·rw [jFj hbk,QT _ hbk]
   rw [bk4 hbk]
   exact ⟨r,rfl,fun h=>by cases h⟩
 | .sun,_,hg=>by
  have hk0:=hg.kind
  dsimp only at hk0
  have hk:=hk0
  dsimp only [kw] at hk
  obtain ⟨t,v1,rfl,rfl,htv⟩:=hg.d02 rfl rfl
  simp only [jCj,List.map_nil]
  unfold QZ acc
  rw [gi0]
  by_cases htk:t < r.tick
  ·exact ⟨r,by rw [jTj htk,jTj (g0 htk)];rfl,fun h=>by rw [jTj (g0 htk)] at h;cases h⟩
  rw [jFj htk,jFj (g0n htk)]
  have ht:okT r t:=okt htk htv
  rw [Zs hr (by omega) hn ht,jBj]
  show ∃ r',_=some (Vc r' (Qt [Zk r t,known .sun r [],spec .sun r [] [t,v1]]))∧(Qt [Zk r t,known .sun r [],spec .sun r [] [t,v1]]=0→_)
  by_cases hbk:Zk r t=0
  ·rw [jTj hbk,QN _ hbk]
   dsimp only
   rw [jTj rfl,qm hn hk0 rfl,jBj]
   show ∃ r',(if known .sun r []=0 then _ else _)=_∧_
   by_cases hkn:known .sun r []=0
   ·rw [jTj hkn,QN _ hkn]
    rw [Wz,jTj (rzS hr),jTj (rzM hr (by omega)),jTj (rzO hr (by omega))]
    rw [jTj (keq hk rfl)]
    rw [gi1]
    by_cases h:v1 > 1000
    ·exact VB (t:=t) 3 (by decide) (QaI h) (by rw [jTj h];rfl)
    ·exact UX (QaH (x:=v1) (lo:=0) (hi:=1000) (hg.val v1 (by simp)).1 (by omega)) (by rw [jFj h];rfl)
   ·rw [jFj hkn,QT _ hkn]
    exact ⟨r,rfl,fun h=>absurd h hkn⟩
  ·rw [jFj hbk,QT _ hbk]
   rw [bk4 hbk]
   exact ⟨r,rfl,fun h=>by cases h⟩
 | .fill,_,hg=>by
  have hk0:=hg.kind
  dsimp only at hk0
  have hk:=hk0
  dsimp only [kw] at hk
  obtain ⟨t,rfl,rfl,htv⟩:=hg.d01 rfl rfl
  simp only [jCj,List.map_nil]
  unfold QZ acc
  rw [gi0]
  by_cases htk:t < r.tick
  ·exact ⟨r,by rw [jTj htk,jTj (g0 htk)];rfl,fun h=>by rw [jTj (g0 htk)] at h;cases h⟩
  rw [jFj htk,jFj (g0n htk)]
  have ht:okT r t:=okt htk htv
  rw [Zs hr (by omega) hn ht,jBj]
  show ∃ r',_=some (Vc r' (Qt [Zk r t,known .fill r [],spec .fill r [] [t]]))∧(Qt [Zk r t,known .fill r [],spec .fill r [] [t]]=0→_)
  by_cases hbk:Zk r t=0
  ·rw [jTj hbk,QN _ hbk]
   dsimp only
   rw [jTj rfl,qm hn hk0 rfl,jBj]
   show ∃ r',(if known .fill r []=0 then _ else _)=_∧_
   by_cases hkn:known .fill r []=0
   ·rw [jTj hkn,QN _ hkn]
    rw [Wz,jTj (rzS hr),jTj (rzM hr (by omega)),jTj (rzO hr (by omega))]
    (iterate 1 rw [jFj (kne hk (by decide))])
    rw [jTj (keq hk rfl)]
    cases hf:r.filled with
    | true=>exact VB (t:=t) 9 (by decide) (by unfold spec;rw [hf];rfl) (by rw [jTj rfl];unfold Vc bkd;rw [hf])
    | false=>exact UX (by unfold spec;rw [hf];rfl) (by rw [jFj (by decide)];rfl)
   ·rw [jFj hkn,QT _ hkn]
    exact ⟨r,rfl,fun h=>absurd h hkn⟩
  ·rw [jFj hbk,QT _ hbk]
   rw [bk4 hbk]
   exact ⟨r,rfl,fun h=>by cases h⟩
 | .drain,_,hg=>by
  have hk0:=hg.kind
  dsimp only at hk0
  have hk:=hk0
  dsimp only [kw] at hk
  obtain ⟨t,rfl,rfl,htv⟩:=hg.d01 rfl rfl
  simp only [jCj,List.map_nil]
  unfold QZ acc
  rw [gi0]
  by_cases htk:t < r.tick
  ·exact ⟨r,by rw [jTj htk,jTj (g0 htk)];rfl,fun h=>by rw [jTj (g0 htk)] at h;cases h⟩
  rw [jFj htk,jFj (g0n htk)]
  have ht:okT r t:=okt htk htv
  rw [Zs hr (by omega) hn ht,jBj]
  show ∃ r',_=some (Vc r' (Qt [Zk r t,known .drain r [],spec .drain r [] [t]]))∧(Qt [Zk r t,known .drain r [],spec .drain r [] [t]]=0→_)
  by_cases hbk:Zk r t=0
  ·rw [jTj hbk,QN _ hbk]
   dsimp only
   rw [jTj rfl,qm hn hk0 rfl,jBj]
   show ∃ r',(if known .drain r []=0 then _ else _)=_∧_
   by_cases hkn:known .drain r []=0
   ·rw [jTj hkn,QN _ hkn]
    rw [Wz,jTj (rzS hr),jTj (rzM hr (by omega)),jTj (rzO hr (by omega))]
    (iterate 2 rw [jFj (kne hk (by decide))])
    rw [jTj (keq hk rfl)]
    cases hf:r.filled with
    | true =>
     rw [jTj rfl,zy _ (by have:=hr.lenM;omega) (by have:=hr.lenM;omega),jBj]
     have hany:((((YQ r.mirrors).map Sd).length:Int) > 0)↔r.mirrors.any isA=true:=by
      unfold YQ
      rw [List.length_map,List.length_map,List.any_eq_true]
      constructor
      ·intro h
       have:(r.mirrors.filter isA).length≠0:=by omega
       obtain ⟨x,hx⟩:=List.exists_mem_of_length_pos (Nat.pos_of_ne_zero this)
       exact ⟨x,(List.mem_filter.1 hx).1,(List.mem_filter.1 hx).2⟩
      ·rintro ⟨x,h1,h2⟩
       have:=List.length_pos_of_mem (List.mem_filter.2 ⟨h1,h2⟩)
       omega
     by_cases h:r.mirrors.any isA=true
     ·exact VB (t:=t) 31 (by decide) (by unfold spec;rw [hf,h];rfl) (by rw [jTj (hany.2 h)];unfold Vc bkd;rw [hf])
     ·refine UX (by unfold spec;simp only [Bool.not_eq_true] at h;rw [hf,h];rfl) (by rw [jFj (fun hh=>h (hany.1 hh))];rfl)
    | false=>exact VB (t:=t) 22 (by decide) (by unfold spec;rw [hf];rfl) (by rw [jFj (by decide)];unfold Vc bkd;rw [hf])
   ·rw [jFj hkn,QT _ hkn]
    exact ⟨r,rfl,fun h=>absurd h hkn⟩
  ·rw [jFj hbk,QT _ hbk]
   rw [bk4 hbk]
   exact ⟨r,rfl,fun h=>by cases h⟩
 | .trip,_,hg=>by
  have hk0:=hg.kind
  dsimp only at hk0
  have hk:=hk0
  dsimp only [kw] at hk
  obtain ⟨t,rfl,rfl,htv⟩:=hg.d01 rfl rfl
  simp only [jCj,List.map_nil]
  unfold QZ acc
  rw [gi0]
  by_cases htk:t < r.tick
  ·exact ⟨r,by rw [jTj htk,jTj (g0 htk)];rfl,fun h=>by rw [jTj (g0 htk)] at h;cases h⟩
  rw [jFj htk,jFj (g0n htk)]
  have ht:okT r t:=okt htk htv
  rw [Zs hr (by omega) hn ht,jBj]
  show ∃ r',_=some (Vc r' (Qt [Zk r t,known .trip r [],spec .trip r [] [t]]))∧(Qt [Zk r t,known .trip r [],spec .trip r [] [t]]=0→_)
  by_cases hbk:Zk r t=0
  ·rw [jTj hbk,QN _ hbk]
   dsimp only
   rw [jTj rfl,qm hn hk0 rfl,jBj]
   show ∃ r',(if known .trip r []=0 then _ else _)=_∧_
   by_cases hkn:known .trip r []=0
   ·rw [jTj hkn,QN _ hkn]
    rw [Wz,jTj (rzS hr),jTj (rzM hr (by omega)),jTj (rzO hr (by omega))]
    (iterate 3 rw [jFj (kne hk (by decide))])
    rw [jTj (keq hk rfl)]
    cases hf:r.tripped with
    | true=>exact VB (t:=t) 9 (by decide) (by unfold spec;rw [hf];rfl) (by rw [jTj rfl];unfold Vc bkd;rw [hf])
    | false=>exact UX (by unfold spec;rw [hf];rfl) (by rw [jFj (by decide),Qcg _ (by have:=hr.lenM;omega) (by have:=hr.lenM;omega),jBj];rfl)
   ·rw [jFj hkn,QT _ hkn]
    exact ⟨r,rfl,fun h=>absurd h hkn⟩
  ·rw [jFj hbk,QT _ hbk]
   rw [bk4 hbk]
   exact ⟨r,rfl,fun h=>by cases h⟩
 | .reset,_,hg=>by
  have hk0:=hg.kind
  dsimp only at hk0
  have hk:=hk0
  dsimp only [kw] at hk
  obtain ⟨t,rfl,rfl,htv⟩:=hg.d01 rfl rfl
  simp only [jCj,List.map_nil]
  unfold QZ acc
  rw [gi0]
  by_cases htk:t < r.tick
  ·exact ⟨r,by rw [jTj htk,jTj (g0 htk)];rfl,fun h=>by rw [jTj (g0 htk)] at h;cases h⟩
  rw [jFj htk,jFj (g0n htk)]
  have ht:okT r t:=okt htk htv
  rw [Zs hr (by omega) hn ht,jBj]
  show ∃ r',_=some (Vc r' (Qt [Zk r t,known .reset r [],spec .reset r [] [t]]))∧(Qt [Zk r t,known .reset r [],spec .reset r [] [t]]=0→_)
  by_cases hbk:Zk r t=0
  ·rw [jTj hbk,QN _ hbk]
   dsimp only
   rw [jTj rfl,qm hn hk0 rfl,jBj]
   show ∃ r',(if known .reset r []=0 then _ else _)=_∧_
   by_cases hkn:known .reset r []=0
   ·rw [jTj hkn,QN _ hkn]
    rw [Wz,jTj (rzS hr),jTj (rzM hr (by omega)),jTj (rzO hr (by omega))]
    (iterate 4 rw [jFj (kne hk (by decide))])
    rw [jTj (keq hk rfl)]
    cases hf:r.tripped with
    | true=>exact UX (by unfold spec;rw [hf];rfl) (by rw [jTj rfl];rfl)
    | false=>exact VB (t:=t) 22 (by decide) (by unfold spec;rw [hf];rfl) (by rw [jFj (by decide)];unfold Vc bkd;rw [hf])
   ·rw [jFj hkn,QT _ hkn]
    exact ⟨r,rfl,fun h=>absurd h hkn⟩
  ·rw [jFj hbk,QT _ hbk]
   rw [bk4 hbk]
   exact ⟨r,rfl,fun h=>by cases h⟩
 | .offer,_,hg=>by
  have hk0:=hg.kind
  dsimp only at hk0
  have hk:=hk0
  dsimp only [kw] at hk
  obtain ⟨a,t,v1,v2,v3,v4,rfl,rfl,htv⟩:=hg.d15 rfl rfl
  simp only [jCj,List.map_nil]
  unfold QZ acc
  rw [gi0]
  by_cases htk:t < r.tick
  ·exact ⟨r,by rw [jTj htk,jTj (g0 htk)];rfl,fun h=>by rw [jTj (g0 htk)] at h;cases h⟩
  rw [jFj htk,jFj (g0n htk)]
  have ht:okT r t:=okt htk htv
  rw [Zs hr (by omega) hn ht,jBj]
  show ∃ r',_=some (Vc r' (Qt [Zk r t,known .offer r [a],spec .offer r [a] [t,v1,v2,v3,v4]]))∧(Qt [Zk r t,known .offer r [a],spec .offer r [a] [t,v1,v2,v3,v4]]=0→_)
  by_cases hbk:Zk r t=0
  ·rw [jTj hbk,QN _ hbk]
   dsimp only
   rw [jTj rfl,QdY hn r.offers (by have:=hr.lenO;omega) a hk0 rfl,jBj]
   show ∃ r',(if known .offer r [a]=0 then _ else _)=_∧_
   by_cases hkn:known .offer r [a]=0
   ·rw [jTj hkn,QN _ hkn]
    rw [Wz,jTj (rzS hr),jTj (rzM hr (by omega)),jTj (rzO hr (by omega))]
    (iterate 5 rw [jFj (kne hk (by decide))])
    rw [jTj (keq hk rfl)]
    rw [gi1]
    have hsp0:spec .offer r [a] [t,v1,v2,v3,v4]=Qt [ws [t,v1,v2,v3,v4],inR v3 1 1000,inR v4 0 1000,QF ((r.offers.length:Int) == 32) 5]:=rfl
    by_cases h1:v1 < t
    ·exact VB (t:=t) 14 (by decide) (by rw [hsp0];unfold ws;rw [jTj (show [t,v1,v2,v3,v4].getD 1 0 < [t,v1,v2,v3,v4].getD 0 0 from h1)];rfl) (by rw [jTj h1];rfl)
    rw [jFj h1,gi2]
    have hspan:ws [t,v1,v2,v3,v4]=QF (decide (v1 ≥ v2)) 14:=by
     unfold ws;rw [jFj (show ¬ [t,v1,v2,v3,v4].getD 1 0 < [t,v1,v2,v3,v4].getD 0 0 from h1)];rfl
    by_cases h2:v1 ≥ v2
    ·exact VB (t:=t) 14 (by decide) (by rw [hsp0,hspan,jDj h2];rfl) (by rw [jTj h2];rfl)
    rw [jFj h2,gi3,YL,jBj]
    rw [hspan,jEj h2,Xb,QN _ rfl] at hsp0
    by_cases h3:inR v3 1 1000=0
    ·rw [jFj (by simp [h3]),gi4]
     rw [QN _ h3] at hsp0
     have hv4:=hg.val v4 (by simp)
     by_cases h4:v4 > 1000
     ·exact VB (t:=t) 3 (by decide) (by rw [hsp0,QaI h4];rfl) (by rw [jTj h4];rfl)
     ·rw [QN _ (QaH hv4.1 (by omega))] at hsp0
      have hlo:=hr.lenO
      have hno:¬ (((r.offers.map Zj).length:Int) ≥ 32):=by rw [List.length_map];omega
      have hnb:((r.offers.length:Int) == 32)=false:=by simp;omega
      refine UX (by rw [hsp0,hnb];rfl) (by rw [jFj h4,jFj hno,gs0,jTj (V7 (by decide) (by rw [List.length_map];omega))];unfold Vc app act bkd;simp only [List.map_append];rfl)
    ·have h3':=(qO v3 1 1000).resolve_left h3
     exact VB (t:=t) 3 (by decide) (by rw [hsp0,h3'];rfl) (by rw [jTj (by simp [h3])];rfl)
   ·rw [jFj hkn,QT _ hkn]
    exact ⟨r,rfl,fun h=>absurd h hkn⟩
  ·rw [jFj hbk,QT _ hbk]
   rw [bk4 hbk]
   exact ⟨r,rfl,fun h=>by cases h⟩
 | .deliver,_,hg=>by
  have hk0:=hg.kind
  dsimp only at hk0
  have hk:=hk0
  dsimp only [kw] at hk
  obtain ⟨a,t,v1,rfl,rfl,htv⟩:=hg.d12 rfl rfl
  simp only [jCj,List.map_nil]
  unfold QZ acc
  rw [gi0]
  by_cases htk:t < r.tick
  ·exact ⟨r,by rw [jTj htk,jTj (g0 htk)];rfl,fun h=>by rw [jTj (g0 htk)] at h;cases h⟩
  rw [jFj htk,jFj (g0n htk)]
  have ht:okT r t:=okt htk htv
  rw [Zs hr (by omega) hn ht,jBj]
  show ∃ r',_=some (Vc r' (Qt [Zk r t,known .deliver r [a],spec .deliver r [a] [t,v1]]))∧(Qt [Zk r t,known .deliver r [a],spec .deliver r [a] [t,v1]]=0→_)
  by_cases hbk:Zk r t=0
  ·rw [jTj hbk,QN _ hbk]
   dsimp only
   rw [jTj rfl,Qdo hn r.offers (by have:=hr.lenO;omega) a hk0 rfl,jBj]
   show ∃ r',(if known .deliver r [a]=0 then _ else _)=_∧_
   by_cases hkn:known .deliver r [a]=0
   ·rw [jTj hkn,QN _ hkn]
    rw [Wz,jTj (rzS hr),jTj (rzM hr (by omega)),jTj (rzO hr (by omega))]
    (iterate 6 rw [jFj (kne hk (by decide))])
    rw [jTj (keq hk rfl)]
    have hh:Zu (nmO r.offers) a=true:=ZW hkn
    obtain ⟨p1,p2,p3⟩:=JV hh
    have hok:=hr.offs _ (List.mem_of_getElem? p3)
    have hlt:=uS p1 p2
    rw [gs0,at_o _ _ (by have:=hr.lenO;omega) (by have:=hr.lenO;omega),jBj,jTj hlt,p1,Q4 unO p3,jBj]
    have hok0:=hok
    obtain ⟨ok1,ok2,ok3⟩:=hok0
    have hv1:=hg.val v1 (by simp)
    have hg2:=K4 hr (by omega) ht
    have hh5:=hr.heat
    have hsp0:spec .deliver r [a] [t,v1]=if Qt [QF (oAt r.offers a).2.2.2.2.2.2 23,(if t < (oAt r.offers a).2.1 then 14 else QF (decide (t ≥ (oAt r.offers a).2.2.1)) 14),QF (v1 == 0) 3,QF (decide (v1 > Ws (oAt r.offers a))) 20]=0
     then QF (decide (v1 * 1000000 > r.heat+ZL r t)) 16
     else Qt [QF (oAt r.offers a).2.2.2.2.2.2 23,(if t < (oAt r.offers a).2.1 then 14 else QF (decide (t ≥ (oAt r.offers a).2.2.1)) 14),QF (v1 == 0) 3,QF (decide (v1 > Ws (oAt r.offers a))) 20]:=rfl
    cases hb:(oAt r.offers a).2.2.2.2.2.2 with
    | true =>
     rw [hb,El,QT _ (by decide),jFj (by decide)] at hsp0
     exact VB (t:=t) 23 (by decide) hsp0 (by rw [jTj rfl];rfl)
    | false =>
     rw [hb,Xb,QN _ rfl] at hsp0
     rw [jFj (by decide),jFj (kne hk (by decide))]
     by_cases h1:t < (oAt r.offers a).2.1
     ·rw [jTj h1,QT _ (by decide),jFj (by decide)] at hsp0
      exact VB (t:=t) 14 (by decide) hsp0 (by rw [jTj h1];rfl)
     rw [jFj h1] at hsp0
     rw [jFj h1]
     by_cases h2:t ≥ (oAt r.offers a).2.2.1
     ·rw [jDj h2,El,QT _ (by decide),jFj (by decide)] at hsp0
      exact VB (t:=t) 14 (by decide) hsp0 (by rw [jTj h2];rfl)
     rw [jEj h2,Xb,QN _ rfl] at hsp0
     rw [jFj h2,gi1]
     by_cases h3:v1=0
     ·have h3' : (v1 == 0)=true:=by simp [h3]
      rw [h3',El,QT _ (by decide),jFj (by decide)] at hsp0
      exact VB (t:=t) 3 (by decide) hsp0 (by rw [jTj h3];rfl)
     have h3' : (v1 == 0)=false:=by simp [h3]
     rw [h3',Xb,QN _ rfl] at hsp0
     have hsf:=zx n hok
     rw [hb] at hsf
     rw [jFj h3,hsf,jBj]
     by_cases h4:v1 > Ws (oAt r.offers a)
     ·rw [jDj h4,El,QT _ (by decide),jFj (by decide)] at hsp0
      exact VB (t:=t) 20 (by decide) hsp0 (by rw [jTj h4];rfl)
     rw [jEj h4,Xb,QN _ rfl,jTj (show Qt []=0 from rfl)] at hsp0
     rw [jFj h4,jTj (by unfold Qh;omega)]
     by_cases h5:v1 * 1000000 > r.heat+ZL r t
     ·rw [jDj h5,El] at hsp0
      exact VB (t:=t) 16 (by decide) hsp0 (by rw [jTj h5];rfl)
     rw [jEj h5,Xb] at hsp0
     unfold Ws at h4
     have hcm:r.heat+ZL r t - v1 * 1000000=r.heat+ZL r t - 1000000 * v1:=by omega
     refine UX hsp0 ?_
     rw [jFj h5,jTj (by unfold Qh;omega),jTj (by unfold Qh;omega),hcm]
     have e:(r.offers.set (iO r.offers a) (yO (oAt r.offers a) v1)).map Zj=List.set (r.offers.map Zj) (iO r.offers a) (Zj (yO (oAt r.offers a) v1)):=set_encO.symm
     have e2:Vc (app .deliver r [a] [t,v1]) 0=(t,r.level,r.filled,r.tripped,r.light+ZL r t,r.heat+ZL r t - 1000000 * v1,r.money,r.sectors.map Sd,r.mirrors.map QY,(r.offers.set (iO r.offers a) (yO (oAt r.offers a) v1)).map Zj,0):=rfl
     have e3:yO (oAt r.offers a) v1=((oAt r.offers a).1,(oAt r.offers a).2.1,(oAt r.offers a).2.2.1,(oAt r.offers a).2.2.2.1,(oAt r.offers a).2.2.2.2.1,(oAt r.offers a).2.2.2.2.2.1+v1,false):=by unfold yO;rw [hb]
     rw [e2,e,e3,Int.toNat_natCast];rfl
   ·rw [jFj hkn,QT _ hkn]
    exact ⟨r,rfl,fun h=>absurd h hkn⟩
  ·rw [jFj hbk,QT _ hbk]
   rw [bk4 hbk]
   exact ⟨r,rfl,fun h=>by cases h⟩
 | .bill,_,hg=>by
  have hk0:=hg.kind
  dsimp only at hk0
  have hk:=hk0
  dsimp only [kw] at hk
  obtain ⟨a,t,rfl,rfl,htv⟩:=hg.d11 rfl rfl
  simp only [jCj,List.map_nil]
  unfold QZ acc
  rw [gi0]
  by_cases htk:t < r.tick
  ·exact ⟨r,by rw [jTj htk,jTj (g0 htk)];rfl,fun h=>by rw [jTj (g0 htk)] at h;cases h⟩
  rw [jFj htk,jFj (g0n htk)]
  have ht:okT r t:=okt htk htv
  rw [Zs hr (by omega) hn ht,jBj]
  show ∃ r',_=some (Vc r' (Qt [Zk r t,known .bill r [a],spec .bill r [a] [t]]))∧(Qt [Zk r t,known .bill r [a],spec .bill r [a] [t]]=0→_)
  by_cases hbk:Zk r t=0
  ·rw [jTj hbk,QN _ hbk]
   dsimp only
   rw [jTj rfl,Qdo hn r.offers (by have:=hr.lenO;omega) a hk0 rfl,jBj]
   show ∃ r',(if known .bill r [a]=0 then _ else _)=_∧_
   by_cases hkn:known .bill r [a]=0
   ·rw [jTj hkn,QN _ hkn]
    rw [Wz,jTj (rzS hr),jTj (rzM hr (by omega)),jTj (rzO hr (by omega))]
    (iterate 7 rw [jFj (kne hk (by decide))])
    rw [jTj (keq hk rfl)]
    have hh:Zu (nmO r.offers) a=true:=ZW hkn
    obtain ⟨p1,p2,p3⟩:=JV hh
    have hok:=hr.offs _ (List.mem_of_getElem? p3)
    have hlt:=uS p1 p2
    rw [gs0,at_o _ _ (by have:=hr.lenO;omega) (by have:=hr.lenO;omega),jBj,jTj hlt,p1,Q4 unO p3,jBj]
    have hbb:=(YF hok).2.2.2
    have hm:=hr.money
    have hsp0:spec .bill r [a] [t]=Qt [QF (oAt r.offers a).2.2.2.2.2.2 23,QF (decide (t < (oAt r.offers a).2.2.1)) 32]:=rfl
    cases hb:(oAt r.offers a).2.2.2.2.2.2 with
    | true =>
     rw [hb,El,QT _ (by decide)] at hsp0
     exact VB (t:=t) 23 (by decide) hsp0 (by rw [jTj rfl];rfl)
    | false =>
     rw [hb,Xb,QN _ rfl] at hsp0
     rw [jFj (by decide)]
     by_cases h1:t < (oAt r.offers a).2.2.1
     ·rw [jDj h1,El,QT _ (by decide)] at hsp0
      exact VB (t:=t) 32 (by decide) hsp0 (by rw [jTj h1];rfl)
     rw [jEj h1,Xb,QN _ rfl] at hsp0
     have hbe:=Qar n hok
     rw [hb] at hbe
     refine UX hsp0 ?_
     rw [jFj h1,hbe,jBj,jTj (by unfold Qh;omega)]
     have e:(r.offers.set (iO r.offers a) (GV (oAt r.offers a))).map Zj=List.set (r.offers.map Zj) (iO r.offers a) (Zj (GV (oAt r.offers a))):=set_encO.symm
     have e2:Vc (app .bill r [a] [t]) 0=(t,r.level,r.filled,r.tripped,r.light+ZL r t,r.heat+ZL r t,r.money+U5 (oAt r.offers a),r.sectors.map Sd,r.mirrors.map QY,(r.offers.set (iO r.offers a) (GV (oAt r.offers a))).map Zj,0):=rfl
     rw [e2,e,Int.toNat_natCast];rfl
   ·rw [jFj hkn,QT _ hkn]
    exact ⟨r,rfl,fun h=>absurd h hkn⟩
  ·rw [jFj hbk,QT _ hbk]
   rw [bk4 hbk]
   exact ⟨r,rfl,fun h=>by cases h⟩
 | .undo,h,_=>absurd rfl h
end Go.Proofs.YtljabneifpkbjaaGreatDoor
set_option maxRecDepth 20000
namespace Go.Proofs.YtljabneifpkbjaaGreatDoor
open Go.SX
theorem W2 {c d:Nat} (h:c≤d) {r:Reg} (hr:Inv c r):Inv d r :=
 ⟨hr.tick,hr.level,hr.light,hr.heat,by have:=hr.money;omega,hr.secs,by have:=hr.lenM;omega,by have:=hr.lenO;omega,hr.mirs,hr.offs⟩
theorem VC {c:Nat} {r:Reg} (hr:Inv c r) (hc:c≤40) {t:Int} (ht:okT r t) (hb:Zk r t=0):Inv c (bkd r t):=by
 have hg:=(K4 hr hc ht).2
 have h1:=hr.light
 have h2:=hr.heat
 have h3:=hr.tick
 have hb' : r.light+ZL r t≤1000000000000000∧r.heat+ZL r t≤1000000000000000:=by
  unfold Zk at hb
  split at hb
  ·rename_i h;exact h
  ·cases hb
 obtain ⟨ht1,ht2⟩:=ht
 exact ⟨⟨show 0≤t by omega,ht2⟩,hr.level,⟨show 0≤r.light+ZL r t by omega,hb'.1⟩,⟨show 0≤r.heat+ZL r t by omega,hb'.2⟩,hr.money,hr.secs,hr.lenM,hr.lenO,hr.mirs,hr.offs⟩
theorem Ge {c:Nat} {q:Reg} (hq:Inv c q) (a:jSj) {m:Mir} (hm:okM m):Inv c (chgM q a m) :=
 ⟨hq.tick,hq.level,hq.light,hq.heat,hq.money,hq.secs,by show (q.mirrors.set _ _).length≤c;rw [List.length_set];exact hq.lenM,hq.lenO,fun x hx=>by
  rcases List.mem_or_eq_of_mem_set hx with h | h
  ·exact hq.mirs x h
  ·rw [h];exact hm,hq.offs⟩
theorem uP {c:Nat} {q:Reg} (hq:Inv c q) (a:jSj) {o:Off} (ho:okO o):Inv c (chgO q a o) :=
 ⟨hq.tick,hq.level,hq.light,hq.heat,hq.money,hq.secs,hq.lenM,by show (q.offers.set _ _).length≤c;rw [List.length_set];exact hq.lenO,hq.mirs,fun x hx=>by
  rcases List.mem_or_eq_of_mem_set hx with h | h
  ·exact hq.offs x h
  ·rw [h];exact ho⟩
theorem uQ {c:Nat} {q:Reg} (hq:Inv c q) (f:Mir→Mir) (hf:∀ m,okM m→okM (f m)):Inv c { q with mirrors:=q.mirrors.map f } :=
 ⟨hq.tick,hq.level,hq.light,hq.heat,hq.money,hq.secs,by show (q.mirrors.map f).length≤c;rw [List.length_map];exact hq.lenM,hq.lenO,fun x hx=>by
  obtain ⟨y,hy,rfl⟩:=List.mem_map.1 hx
  exact hf y (hq.mirs y hy),hq.offs⟩
theorem QdC (s:jSj) (m:Mir) (h:okM m):okM (EN s m):=by
 unfold EN
 split
 ·exact h
 ·exact h
theorem Qc9 {c:Nat} {r:Reg} (hr:Inv c r) (hc:c≤30) {num:Int} {kind text:jSj} {names:List jSj} {vals:List Int} :
  ∀ {k:Ki},k≠.undo→Good (num,kind,names,vals,text) k→acc k r names vals=0→Inv (c+1) (app k r names vals)
 | .sector,_,hg,ha=>by
  obtain ⟨a,t,rfl,rfl,htv⟩:=hg.d11 rfl rfl
  obtain ⟨htk,hbk,hkn,hsp⟩:=QS ha
  have ht:okT r t:=okt htk htv
  have hq:=W2 (Nat.le_succ c) (VC hr (by omega) ht hbk)
  have h8:=YT (e:=5) (b:=((r.sectors.length:Int) == 8)) (by decide) hsp
  have h8' : ¬ (r.sectors.length:Int)=8:=by simpa using h8
  have hs:=hr.secs
  exact ⟨hq.tick,hq.level,hq.light,hq.heat,hq.money,by show (r.sectors++[a]).length≤8;simp;omega,hq.lenM,hq.lenO,hq.mirs,hq.offs⟩
 | .mirror,_,hg,ha=>by
  obtain ⟨a,b,t,v1,rfl,rfl,htv⟩:=hg.d22 rfl rfl
  obtain ⟨htk,hbk,hkn,hsp⟩:=QS ha
  have ht:okT r t:=okt htk htv
  have hq:=W2 (Nat.le_succ c) (VC hr (by omega) ht hbk)
  have h1:=YC.1 (Zv hsp (inR v1 1 100) (by simp))
  have hl:=hr.lenM
  refine ⟨hq.tick,hq.level,hq.light,hq.heat,hq.money,hq.secs,by show (r.mirrors++[_]).length≤c+1;simp;omega,hq.lenO,fun m hm=>?_,hq.offs⟩
  rcases List.mem_append.1 hm with h | h
  ·exact hr.mirs m h
  ·rw [List.mem_singleton.1 h];exact ⟨h1,⟨Int.le_refl 0,show (0:Int)≤1000 by decide⟩⟩
 | .soil,_,hg,ha=>by
  obtain ⟨a,t,v1,rfl,rfl,htv⟩:=hg.d12 rfl rfl
  obtain ⟨htk,hbk,hkn,hsp⟩:=QS ha
  have ht:okT r t:=okt htk htv
  have hq:=W2 (Nat.le_succ c) (VC hr (by omega) ht hbk)
  have hh:Zu (nmM r.mirrors) a=true:=ZW hkn
  have hm:=hr.mirs _ (List.mem_of_getElem? (WP hh).2.2)
  exact Ge hq a (m:=X8 (mAt r.mirrors a) v1) ⟨hm.1,YC.1 hsp⟩
 | .clean,_,hg,ha=>by
  obtain ⟨a,t,rfl,rfl,htv⟩:=hg.d11 rfl rfl
  obtain ⟨htk,hbk,hkn,hsp⟩:=QS ha
  have ht:okT r t:=okt htk htv
  have hq:=W2 (Nat.le_succ c) (VC hr (by omega) ht hbk)
  have hh:Zu (nmM r.mirrors) a=true:=ZW hkn
  have hm:=hr.mirs _ (List.mem_of_getElem? (WP hh).2.2)
  exact Ge hq a (m:=X8 (mAt r.mirrors a) 0) ⟨hm.1,⟨Int.le_refl 0,show (0:Int)≤1000 by decide⟩⟩
 | .defect,_,hg,ha=>by
  obtain ⟨a,t,rfl,rfl,htv⟩:=hg.d11 rfl rfl
  obtain ⟨htk,hbk,hkn,hsp⟩:=QS ha
  have ht:okT r t:=okt htk htv
  have hq:=W2 (Nat.le_succ c) (VC hr (by omega) ht hbk)
  have hh:Zu (nmM r.mirrors) a=true:=ZW hkn
  have hm:=hr.mirs _ (List.mem_of_getElem? (WP hh).2.2)
  exact Ge hq a (m:=zU (mAt r.mirrors a) true) hm
 | .repair,_,hg,ha=>by
  obtain ⟨a,t,rfl,rfl,htv⟩:=hg.d11 rfl rfl
  obtain ⟨htk,hbk,hkn,hsp⟩:=QS ha
  have ht:okT r t:=okt htk htv
  have hq:=W2 (Nat.le_succ c) (VC hr (by omega) ht hbk)
  have hh:Zu (nmM r.mirrors) a=true:=ZW hkn
  have hm:=hr.mirs _ (List.mem_of_getElem? (WP hh).2.2)
  exact Ge hq a (m:=zU (mAt r.mirrors a) false) hm
 | .aim,_,hg,ha=>by
  obtain ⟨a,t,rfl,rfl,htv⟩:=hg.d11 rfl rfl
  obtain ⟨htk,hbk,hkn,hsp⟩:=QS ha
  have ht:okT r t:=okt htk htv
  have hq:=W2 (Nat.le_succ c) (VC hr (by omega) ht hbk)
  have hh:Zu (nmM r.mirrors) a=true:=ZW hkn
  have hm:=hr.mirs _ (List.mem_of_getElem? (WP hh).2.2)
  exact Ge hq a (m:=aimM (mAt r.mirrors a)) hm
 | .park,_,hg,ha=>by
  obtain ⟨a,t,rfl,rfl,htv⟩:=hg.d11 rfl rfl
  obtain ⟨htk,hbk,hkn,hsp⟩:=QS ha
  have ht:okT r t:=okt htk htv
  have hq:=W2 (Nat.le_succ c) (VC hr (by omega) ht hbk)
  have hh:Zu (nmM r.mirrors) a=true:=ZW hkn
  have hm:=hr.mirs _ (List.mem_of_getElem? (WP hh).2.2)
  exact Ge hq a (m:=Ka (mAt r.mirrors a)) hm
 | .dim,_,hg,ha=>by
  obtain ⟨a,t,rfl,rfl,htv⟩:=hg.d11 rfl rfl
  obtain ⟨htk,hbk,hkn,hsp⟩:=QS ha
  have ht:okT r t:=okt htk htv
  have hq:=W2 (Nat.le_succ c) (VC hr (by omega) ht hbk)
  exact uQ hq (EN a) (QdC a)
 | .sun,_,hg,ha=>by
  obtain ⟨t,v1,rfl,rfl,htv⟩:=hg.d02 rfl rfl
  obtain ⟨htk,hbk,hkn,hsp⟩:=QS ha
  have ht:okT r t:=okt htk htv
  have hq:=W2 (Nat.le_succ c) (VC hr (by omega) ht hbk)
  exact ⟨hq.tick,YC.1 hsp,hq.light,hq.heat,hq.money,hq.secs,hq.lenM,hq.lenO,hq.mirs,hq.offs⟩
 | .fill,_,hg,ha=>by
  obtain ⟨t,rfl,rfl,htv⟩:=hg.d01 rfl rfl
  obtain ⟨htk,hbk,hkn,hsp⟩:=QS ha
  have ht:okT r t:=okt htk htv
  have hq:=W2 (Nat.le_succ c) (VC hr (by omega) ht hbk)
  exact ⟨hq.tick,hq.level,hq.light,hq.heat,hq.money,hq.secs,hq.lenM,hq.lenO,hq.mirs,hq.offs⟩
 | .drain,_,hg,ha=>by
  obtain ⟨t,rfl,rfl,htv⟩:=hg.d01 rfl rfl
  obtain ⟨htk,hbk,hkn,hsp⟩:=QS ha
  have ht:okT r t:=okt htk htv
  have hq:=W2 (Nat.le_succ c) (VC hr (by omega) ht hbk)
  exact ⟨hq.tick,hq.level,hq.light,hq.heat,hq.money,hq.secs,hq.lenM,hq.lenO,hq.mirs,hq.offs⟩
 | .trip,_,hg,ha=>by
  obtain ⟨t,rfl,rfl,htv⟩:=hg.d01 rfl rfl
  obtain ⟨htk,hbk,hkn,hsp⟩:=QS ha
  have ht:okT r t:=okt htk htv
  have hq:=W2 (Nat.le_succ c) (VC hr (by omega) ht hbk)
  have:=uQ hq Ka (fun m h=>h)
  exact ⟨this.tick,this.level,this.light,this.heat,this.money,this.secs,this.lenM,this.lenO,this.mirs,this.offs⟩
 | .reset,_,hg,ha=>by
  obtain ⟨t,rfl,rfl,htv⟩:=hg.d01 rfl rfl
  obtain ⟨htk,hbk,hkn,hsp⟩:=QS ha
  have ht:okT r t:=okt htk htv
  have hq:=W2 (Nat.le_succ c) (VC hr (by omega) ht hbk)
  exact ⟨hq.tick,hq.level,hq.light,hq.heat,hq.money,hq.secs,hq.lenM,hq.lenO,hq.mirs,hq.offs⟩
 | .offer,_,hg,ha=>by
  obtain ⟨a,t,v1,v2,v3,v4,rfl,rfl,htv⟩:=hg.d15 rfl rfl
  obtain ⟨htk,hbk,hkn,hsp⟩:=QS ha
  have ht:okT r t:=okt htk htv
  have hq:=W2 (Nat.le_succ c) (VC hr (by omega) ht hbk)
  have h3:=YC.1 (Zv hsp (inR v3 1 1000) (by simp))
  have h4:=YC.1 (Zv hsp (inR v4 0 1000) (by simp))
  have hl:=hr.lenO
  refine ⟨hq.tick,hq.level,hq.light,hq.heat,hq.money,hq.secs,hq.lenM,by show (r.offers++[_]).length≤c+1;simp;omega,hq.mirs,fun o ho=>?_⟩
  rcases List.mem_append.1 ho with h | h
  ·exact hr.offs o h
  ·rw [List.mem_singleton.1 h];exact ⟨h3,h4,⟨Int.le_refl 0,show (0:Int)≤v3 by omega⟩⟩
 | .deliver,_,hg,ha=>by
  obtain ⟨a,t,v1,rfl,rfl,htv⟩:=hg.d12 rfl rfl
  obtain ⟨htk,hbk,hkn,hsp⟩:=QS ha
  have ht:okT r t:=okt htk htv
  have hq:=W2 (Nat.le_succ c) (VC hr (by omega) ht hbk)
  have hh:Zu (nmO r.offers) a=true:=ZW hkn
  have ho:=hr.offs _ (List.mem_of_getElem? (JV hh).2.2)
  have hd:=EO hsp
  have hv:=hg.val v1 (by simp)
  have hd3:=hd.2.2.1
  unfold Ws at hd3
  obtain ⟨o1,o2,o3⟩:=ho
  have hs:=uP hq a (o:=yO (oAt r.offers a) v1) ⟨o1,o2,⟨show 0≤(oAt r.offers a).2.2.2.2.2.1+v1 by omega,show (oAt r.offers a).2.2.2.2.2.1+v1≤(oAt r.offers a).2.2.2.1 by omega⟩⟩
  have hh:=hq.heat
  have hhe:0≤r.heat+ZL r t∧r.heat+ZL r t≤1000000000000000:=hh
  exact ⟨hs.tick,hs.level,hs.light,⟨show 0≤r.heat+ZL r t - 1000000 * v1 by omega,show r.heat+ZL r t - 1000000 * v1≤1000000000000000 by omega⟩,hs.money,hs.secs,hs.lenM,hs.lenO,hs.mirs,hs.offs⟩
 | .bill,_,hg,ha=>by
  obtain ⟨a,t,rfl,rfl,htv⟩:=hg.d11 rfl rfl
  obtain ⟨htk,hbk,hkn,hsp⟩:=QS ha
  have ht:okT r t:=okt htk htv
  have hq:=W2 (Nat.le_succ c) (VC hr (by omega) ht hbk)
  have hh:Zu (nmO r.offers) a=true:=ZW hkn
  have ho:=hr.offs _ (List.mem_of_getElem? (JV hh).2.2)
  have hs:=uP hq a (o:=GV (oAt r.offers a)) ho
  have hb:=(YF ho).2.2.2
  have hm:=hr.money
  exact ⟨hs.tick,hs.level,hs.light,hs.heat,⟨show -(2000000 * ((c+1:Nat):Int))≤r.money+U5 (oAt r.offers a) by omega,show r.money+U5 (oAt r.offers a)≤2000000 * ((c+1:Nat):Int) by omega⟩,hs.secs,hs.lenM,hs.lenO,hs.mirs,hs.offs⟩
 | .undo,h,_,_=>absurd rfl h
theorem Qcz:Inv 0 Reg.zero:=⟨by decide,by decide,by decide,by decide,by decide,by decide,jLj _,jLj _,fun m hm=>(List.not_mem_nil hm).elim,fun o ho=>(List.not_mem_nil ho).elim⟩
end Go.Proofs.YtljabneifpkbjaaGreatDoor
set_option maxRecDepth 20000
namespace Go.Proofs.YtljabneifpkbjaaGreatDoor
open Go.SX
def kdE (e:Ev):Option Ki:=yJ e.2.1.data.toList
def appE (r:Reg) (e:Ev):Reg:=match kdE e with
 | some k=>app k r e.2.2.1 e.2.2.2.1
 | none=>r
def X0 (r:Reg) (e:Ev):Int:=match kdE e with
 | some k=>acc k r e.2.2.1 e.2.2.2.1
 | none=>0
def QD (l:List Ev):Reg:=l.foldl appE Reg.zero
theorem GA (l:List Ev) (e:Ev):QD (l++[e])=appE (QD l) e:=by unfold QD;rw [List.foldl_append];rfl
theorem yI {e:Ev} {k:Ki} (h:Good e k):kdE e=some k:=by unfold kdE;rw [h.kind,E7]
theorem XR {e:Ev} {k:Ki} (h:Good e k) (r:Reg):appE r e=app k r e.2.2.1 e.2.2.2.1:=by unfold appE;rw [yI h]
theorem Gq {e:Ev} {k:Ki} (h:Good e k) (r:Reg):X0 r e=acc k r e.2.2.1 e.2.2.2.1:=by unfold X0;rw [yI h]
def OkL (l:List Ev):Prop:=∀ (i:Nat) (e:Ev),l[i]?=some e→∃ k,k≠.undo∧Good e k∧acc k (QD (l.take i)) e.2.2.1 e.2.2.2.1=0
theorem Jx:OkL []:=fun i e h=>by simp at h
theorem uH {l:List Ev} (h:OkL l) (j:Nat):OkL (l.take j):=fun i e he=>by
 rw [List.getElem?_take] at he
 split at he
 ·rename_i hij
  obtain ⟨k,h1,h2,h3⟩:=h i e he
  refine ⟨k,h1,h2,?_⟩
  rw [List.take_take,Nat.min_eq_left (by omega)];exact h3
 ·cases he
theorem Qcm {l:List Ev} (h:OkL l) {e:Ev} {k:Ki} (hk:k≠.undo) (hg:Good e k) (ha:acc k (QD l) e.2.2.1 e.2.2.2.1=0):OkL (l++[e]):=fun i x hx=>by
 by_cases hi:i < l.length
 ·rw [List.getElem?_append_left hi] at hx
  rw [List.take_append_of_le_length (by omega)]
  exact h i x hx
 ·rw [List.getElem?_append_right (by omega)] at hx
  have hi0:i - l.length=0:=by
   rcases Nat.eq_zero_or_pos (i - l.length) with h0 | h0
   ·exact h0
   ·rw [List.getElem?_eq_none (by simp;omega)] at hx;cases hx
  rw [hi0] at hx
  cases hx
  have:i=l.length:=by omega
  subst this
  rw [List.take_left]
  exact ⟨k,hk,hg,ha⟩
theorem yw {l:List Ev} (h:OkL l) (hl:l.length≤30):∀ j,j≤l.length→Inv j (QD (l.take j))
 | 0,_=>by rw [List.take_zero];exact Qcz
 | j+1,hj=>by
  have ih:=yw h hl j (by omega)
  have hx:=List.getElem?_eq_getElem (l:=l) (i:=j) (by omega)
  obtain ⟨k,h1,h2,h3⟩:=h j _ hx
  rw [List.take_succ_eq_append_getElem (by omega),GA,XR h2]
  exact Qc9 ih (by omega) h1 h2 h3
theorem GG {l:List Ev} (h:OkL l) (hl:l.length≤30):Inv l.length (QD l):=by
 have:=yw h hl l.length (jLj _)
 rwa [List.take_length] at this
def isU (e:Ev):Bool:=decide (kdE e=some .undo)
def YM (i:Nat) (cnt:List Ev) (e:Ev):Int:=if chk e=0 then (if e.1=(i:Int)+1 then (if isU e=true then X7 cnt else X0 (QD cnt) e) else 11) else chk e
def VO (cnt:List Ev) (e:Ev):List Ev:=if isU e=true then cnt.dropLast else cnt++[e]
def rep:Nat→List Ev→List Ev→(Int×Int)⊕List Ev
 | _,cnt,[]=>.inr cnt
 | i,cnt,e::l=>if YM i cnt e=0 then rep (i+1) (VO cnt e) l else .inl ((i:Int)+1,YM i cnt e)
theorem KY {e:Ev} {k:Ki} (h:Good e k):isU e=decide (k=.undo):=by
 unfold isU
 rw [yI h]
 by_cases hk:k=.undo
 ·simp [hk]
 ·simp [hk]
theorem kJ {i:Nat} {cnt:List Ev} {e:Ev} (h:YM i cnt e=0):∃ k,Good e k∧e.1=(i:Int)+1∧(if isU e=true then X7 cnt else X0 (QD cnt) e)=0:=by
 unfold YM at h
 by_cases hc:chk e=0
 ·rw [jTj hc] at h
  obtain ⟨k,hg⟩:=qn hc
  by_cases hn:e.1=(i:Int)+1
  ·rw [jTj hn] at h;exact ⟨k,hg,hn,h⟩
  ·rw [jFj hn] at h;cases h
 ·rw [jFj hc] at h;exact absurd h hc
theorem Qan {cnt:List Ev} (h:X7 cnt=0):cnt≠[]:=by
 intro e;subst e;cases h
theorem Xk {i:Nat} {cnt:List Ev} (hk:OkL cnt) (hc:cnt.length≤i) {e:Ev} (h:YM i cnt e=0):OkL (VO cnt e)∧(VO cnt e).length≤i+1:=by
 obtain ⟨k,hg,_,h2⟩:=kJ h
 unfold VO
 by_cases hu:isU e=true
 ·rw [jTj hu]
  rw [List.dropLast_eq_take]
  exact ⟨uH hk _,by simp;omega⟩
 ·rw [jFj hu] at h2 ⊢
  rw [KY hg] at hu
  rw [Gq hg] at h2
  exact ⟨Qcm hk (by simpa using hu) hg h2,by simp;omega⟩
theorem uF {x:D} (l:jVj):l.take ((List.replicate (Int.toNat ((l.length:Nat):Int)) (x:D)):jVj).length++(List.replicate (Int.toNat ((l.length:Nat):Int)) (x:D)).drop l.length=l:=by
 rw [List.length_replicate,Int.toNat_natCast,List.take_length,List.drop_eq_nil_of_le (by rw [List.length_replicate];exact jLj _),List.append_nil]
theorem Qal {n:Nat} (hn:100≤n) {cnt:List Ev} (hk:OkL cnt) (hc:cnt.length≤30) {evs:jVj} (he:evs.length≤5000) {e:Ev} (hz:chk e=0) :
  Qs n e.1 e.2.1 (e.2.2.1.map Sd) (e.2.2.2.1.map I) e.2.2.2.2 evs (cnt.map Zr) (QD cnt).tick (QD cnt).level (QD cnt).filled (QD cnt).tripped (QD cnt).light (QD cnt).heat (QD cnt).money ((QD cnt).sectors.map Sd) ((QD cnt).mirrors.map QY) ((QD cnt).offers.map Zj)=some (YM evs.length cnt e):=by
 obtain ⟨k,hg⟩:=qn hz
 unfold YM
 rw [jTj hz]
 by_cases hu:isU e=true
 ·have hku:k=.undo:=by rw [KY hg] at hu;exact of_decide_eq_true hu
  subst hku
  rw [uc (QD cnt) he cnt (by omega) hg,jTj hu]
 ·have hku:k≠.undo:=fun h=>hu (by rw [KY hg];exact jDj h)
  rw [Qa3 hn (GG hk hc) (by omega) he hku hg,jFj hu,Gq hg]
abbrev AddT:=jVj×jVj×Int×Int×Bool×Bool×Int×Int×Int×jVj×jVj×jVj
def outA (evs cnt:jVj) (r:Reg):AddT:=(evs,cnt,Vb r)
theorem unEs (e:Ev):(Option.map Zr (some e)).bind Ze=some (e.1,e.2.1,e.2.2.1.map Sd,e.2.2.2.1.map I,e.2.2.2.2):=rfl
theorem Qc5 {n:Nat} (hn:100≤n) {a0:Int} {a1:jSj} {a2 a3:jVj} {a4:jSj} {a5:jVj} {cnt:List Ev} {a7 a8:Int} {a9 a10:Bool} {a11 a12 a13:Int} {a14 a15 a16:jVj} (hk:OkL cnt) (hc:cnt.length≤30) (hne:cnt≠[]) :
  Q2 (Zm n a0 a1 a2 a3 a4 a5 (cnt.map Zr) a7 a8 a9 a10 a11 a12 a13 a14 a15 a16) n (.inl ())=some (if cnt.dropLast=[] then .inl () else .inr (Vb (QD cnt.dropLast))):=by
 have hlen:((cnt.map Zr).take (Int.toNat (((cnt.map Zr).length:Int) - 1)))=cnt.dropLast.map Zr:=by
  rw [List.length_map,List.dropLast_eq_take,List.map_take]
  congr 1
  have:=List.length_pos_iff.2 hne
  omega
 have hd:OkL cnt.dropLast:=by rw [List.dropLast_eq_take];exact uH hk _
 have hdl:cnt.dropLast.length≤30:=by simp;omega
 generalize cnt.dropLast=l at hlen hd hdl ⊢
 have step:∀ (i:Nat) (e:Ev),l[i]?=some e→Qz n e.1 e.2.1 (e.2.2.1.map Sd) (e.2.2.2.1.map I) e.2.2.2.2 (QD (l.take i)).tick (QD (l.take i)).level (QD (l.take i)).filled (QD (l.take i)).tripped (QD (l.take i)).light (QD (l.take i)).heat (QD (l.take i)).money ((QD (l.take i)).sectors.map Sd) ((QD (l.take i)).mirrors.map QY) ((QD (l.take i)).offers.map Zj)=some (Vb (QD (l.take (i+1)))):=by
  intro i e hx
  have hi:=(jGj hx).1
  obtain ⟨k,h1,h2,h3⟩:=hd i e hx
  have hinv:=yw hd hdl i (by omega)
  rw [QcN hn hinv (by omega) h1 h2 h3]
  have:l.take (i+1)=l.take i++[e]:=by
   rw [List.take_succ_eq_append_getElem hi]
   rw [List.getElem?_eq_getElem hi] at hx
   rw [Option.some.inj hx]
  rw [this,GA,XR h2]
 have rest:∀ (m i k:Nat),0 < i→i+m=l.length→m < k→Q2 (Zm n a0 a1 a2 a3 a4 a5 (cnt.map Zr) a7 a8 a9 a10 a11 a12 a13 a14 a15 a16) k (.inr ((i:Int),Vb (QD (l.take i))))=some (.inr (Vb (QD l))):=by
  intro m
  induction m with
  | zero =>
   intro i k h0 hi hk
   have:i=l.length:=by omega
   subst this
   rw [List.take_length]
   rw [Zf (by omega)]
   unfold Zm
   dsimp only
   rw [hlen,jFj (by simp)]
  | succ m ih =>
   intro i k h0 hi hk
   have hx:=List.getElem?_eq_getElem (l:=l) (i:=i) (by omega)
   rw [Wy (s':=.inr (((i+1:Nat):Int),Vb (QD (l.take (i+1))))) (by omega) ?_]
   ·exact ih (i+1) (k - 1) (by omega) (by omega) (by omega)
   ·unfold Zm
    dsimp only
    rw [hlen,jTj (ZD hx),jTj ⟨Int.natCast_nonneg i,ZD hx⟩,Int.toNat_natCast,Ub,List.getElem?_map,hx,unEs,jBj]
    refine Eq.trans (congrArg (fun x=>Option.bind x _) (step i _ hx)) ?_
    rw [jBj,jTj (by unfold Qh;omega)]
    rfl
 by_cases hl:l=[]
 ·rw [jTj hl]
  refine Zf (by omega) ?_
  unfold Zm
  dsimp only
  rw [hlen,hl,jFj (by decide)]
 ·rw [jFj hl]
  have hpos:=List.length_pos_iff.2 hl
  have hx:=List.getElem?_eq_getElem (l:=l) (i:=0) hpos
  rw [Wy (s':=.inr (((1:Nat):Int),Vb (QD (l.take 1)))) (by omega) ?_]
  ·exact rest (l.length - 1) 1 (n - 1) (by omega) (by omega) (by omega)
  ·unfold Zm
   dsimp only
   rw [hlen,jTj (by simp;omega),jTj (by simp;omega),Ub,List.getElem?_map,hx,unEs,jBj]
   have h0:=step 0 _ hx
   rw [List.take_zero] at h0
   refine Eq.trans (congrArg (fun x=>Option.bind x _) h0) ?_
   rfl
theorem addE {n:Nat} (hn:100≤n) {cnt:List Ev} (hk:OkL cnt) (hc:cnt.length≤30) {evs:jVj} (he:evs.length≤4000) {e:Ev} (hs:Yf e) (h:YM evs.length cnt e=0) :
  WO n e.1 e.2.1 (e.2.2.1.map Sd) (e.2.2.2.1.map I) e.2.2.2.2 evs (cnt.map Zr) (QD cnt).tick (QD cnt).level (QD cnt).filled (QD cnt).tripped (QD cnt).light (QD cnt).heat (QD cnt).money ((QD cnt).sectors.map Sd) ((QD cnt).mirrors.map QY) ((QD cnt).offers.map Zj)=some (outA (evs++[Zr e]) ((VO cnt e).map Zr) (QD (VO cnt e))):=by
 obtain ⟨k,hg,hnum,h2⟩:=kJ h
 obtain ⟨s1,s2,s3,s4,s5⟩:=hs
 unfold WO
 rw [jTj (by rw [List.length_map];omega),jTj (by rw [List.length_map];omega),jTj (V7 (by decide) (by omega)),uF,uF]
 unfold VO
 by_cases hu:isU e=true
 ·have hku:k=.undo:=by rw [KY hg] at hu;exact of_decide_eq_true hu
  subst hku
  rw [jTj hu] at h2
  have hne:=Qan h2
  have hpos:=List.length_pos_iff.2 hne
  have hlen:((cnt.map Zr).take (Int.toNat (((cnt.map Zr).length:Int) - 1)))=cnt.dropLast.map Zr:=by
   rw [List.length_map,List.dropLast_eq_take,List.map_take]
   congr 1
   omega
  rw [jTj (keq hg.kind rfl),jTj (by rw [List.length_map];unfold Qh;omega),jTj (by rw [List.length_map];omega),Qc5 hn hk hc hne,jBj,jTj hu]
  by_cases hd:cnt.dropLast=[]
  ·rw [jTj hd,hlen,hd];rfl
  ·rw [jFj hd,hlen];rfl
 ·have hku:k≠.undo:=fun h=>hu (by rw [KY hg];exact jDj h)
  rw [jFj hu,Gq hg] at h2
  rw [jFj (by rw [kq,hg.kind];intro h;exact hku (by have:=E7 k;rw [h] at this;exact (Option.some.inj this).symm)),jTj (V7 (by decide) (by rw [List.length_map];omega)),Qb1 hn (GG hk hc) (by omega) hku hg h2,jBj,jFj hu,GA,XR hg,List.map_append]
  rfl
end Go.Proofs.YtljabneifpkbjaaGreatDoor
set_option maxRecDepth 20000
namespace Go.Proofs.YtljabneifpkbjaaGreatDoor
open Go.SX
abbrev StT:=Int×Int×Bool×Bool×Int×Int×Int×jVj×jVj×jVj×jVj×jVj
def stS (evs cnt:jVj) (r:Reg):StT:=(r.tick,r.level,r.filled,r.tripped,r.light,r.heat,r.money,evs,cnt,r.sectors.map Sd,r.mirrors.map QY,r.offers.map Zj)
theorem qf {l:List Ev} {i:Nat} {e:Ev} (h:l[i]?=some e):el Ze (l.map Zr) (i:Int)=some (e.1,e.2.1,e.2.2.1.map Sd,e.2.2.2.1.map I,e.2.2.2.2):=by
 unfold el
 rw [jTj (Int.natCast_nonneg i),Int.toNat_natCast,Ub,List.getElem?_map,h]
 rfl
theorem Gg {i:Nat} {cnt:List Ev} {e:Ev} (h:¬ chk e=0):YM i cnt e=chk e:=by unfold YM;rw [jFj h]
theorem ux {n:Nat} (hn:100≤n) (l:List Ev) (hl:l.length≤30) (hs:∀ e,e∈l→Yf e):∀ (m pre cnt:List Ev) (k:Nat),l=pre++m→pre≠[]→OkL cnt→cnt.length≤pre.length→m.length < k →
  (match rep pre.length cnt m with
   | .inr c=>Q2 (QR n (l.map Zr)) k (.inr ((pre.length:Int),stS (pre.map Zr) (cnt.map Zr) (QD cnt)))=some (.inr (.inr (.inr (stS (l.map Zr) (c.map Zr) (QD c)))))∧OkL c∧c.length≤l.length
   | .inl (i,err)=>err≠0∧∃ w,Q2 (QR n (l.map Zr)) k (.inr ((pre.length:Int),stS (pre.map Zr) (cnt.map Zr) (QD cnt)))=some (.inl (i,err,w)))
 | [],pre,cnt,k,hl0,hne,hok,hc,hk=>by
  rw [List.append_nil] at hl0
  subst hl0
  unfold rep
  refine ⟨?_,hok,hc⟩
  refine Zf (by omega) ?_
  unfold QR
  dsimp only
  rw [jFj (by rw [List.length_map];omega)]
 | e::m,pre,cnt,k,hl0,hne,hok,hc,hk=>by
  have hlen:l.length=pre.length+(m.length+1):=by rw [hl0];simp
  have hx:l[pre.length]?=some e:=by rw [hl0,List.getElem?_append_right (jLj _),Nat.sub_self];rfl
  have hse:=hs e (List.mem_of_getElem? hx)
  have hmap:(pre.map Zr).length=pre.length:=List.length_map _
  unfold rep
  by_cases hz:chk e=0
  ·have hacc:=Qal hn hok (by omega) (evs:=pre.map Zr) (by rw [hmap];omega) hz
   rw [hmap] at hacc
   by_cases he:YM pre.length cnt e=0
   ·rw [jTj he]
    obtain ⟨ho1,ho2⟩:=Xk hok hc he
    have hadd:=addE hn hok (by omega) (evs:=pre.map Zr) (by rw [hmap];omega) hse (by rw [hmap];exact he)
    have hstep:QR n (l.map Zr) (.inr ((pre.length:Int),stS (pre.map Zr) (cnt.map Zr) (QD cnt)))=some (.inl (.inr (((pre++[e]).length:Int),stS ((pre++[e]).map Zr) ((VO cnt e).map Zr) (QD (VO cnt e))))):=by
     unfold QR
     dsimp only
     rw [jTj (ZD hx),qf hx,jBj,V3 hn e hse,jBj,jTj hz]
     refine Eq.trans (congrArg (fun x=>Option.bind x _) hacc) ?_
     rw [jBj,jTj he]
     refine Eq.trans (congrArg (fun x=>Option.bind x _) hadd) ?_
     rw [jBj,jTj (by unfold Qh;omega),List.map_append,List.length_append]
     rfl
    rw [Wy (by omega) hstep]
    have:=ux hn l hl hs m (pre++[e]) (VO cnt e) (k - 1) (by rw [hl0];simp) (by simp) ho1 (by rw [List.length_append];exact ho2) (by simp at hk;omega)
    have e1:(pre++[e]).length=pre.length+1:=by simp
    rw [e1] at this ⊢
    exact this
   ·rw [jFj he]
    refine ⟨he,stS (pre.map Zr) (cnt.map Zr) (QD cnt),?_⟩
    refine Zf (by omega) ?_
    unfold QR
    dsimp only
    rw [jTj (ZD hx),qf hx,jBj,V3 hn e hse,jBj,jTj hz]
    refine Eq.trans (congrArg (fun x=>Option.bind x _) hacc) ?_
    rw [jBj,jFj he,jTj (by unfold Qh;omega)]
    try rfl
  ·have he:¬ YM pre.length cnt e=0:=by rw [Gg hz];exact hz
   rw [jFj he,Gg hz]
   refine ⟨hz,stS (pre.map Zr) (cnt.map Zr) (QD cnt),?_⟩
   refine Zf (by omega) ?_
   unfold QR
   dsimp only
   rw [jTj (ZD hx),qf hx,jBj,V3 hn e hse,jBj,jFj hz,jTj (by unfold Qh;omega)]
   try rfl
theorem Xg {n:Nat} (hn:100≤n) (l:List Ev) (hl:l.length≤30) (hs:∀ e,e∈l→Yf e) :
  (match rep 0 [] l with
   | .inr c=>Q6 n (l.map Zr)=some (0,0,l.map Zr,c.map Zr,Vb (QD c))∧OkL c∧c.length≤l.length
   | .inl (i,err)=>err≠0∧∃ w,Q6 n (l.map Zr)=some (i,err,w)):=by
 have hgt:¬ (((l.map Zr).length:Int) > 1000):=by rw [List.length_map];omega
 cases l with
 | nil =>
  unfold rep Q6
  refine ⟨?_,Jx,jLj _⟩
  rw [jFj hgt]
  have:Q2 (QR n (([]:List Ev).map Zr)) n (.inl ())=some (.inr (.inr (.inl ()))):=by
   refine Zf (by omega) ?_
   unfold QR
   dsimp only
   rw [jFj (by decide)]
  rw [this];rfl
 | cons e m =>
  have hx:(e::m)[0]?=some e:=rfl
  have hse:=hs e jMj
  have hpos:(0:Int) < (((e::m).map Zr).length:Int):=by simp only [jCj,List.length_cons];omega
  unfold rep
  by_cases hz:chk e=0
  ·have hacc:=Qal hn Jx (by simp) (evs:=[]) (by simp) hz
   by_cases he:YM 0 [] e=0
   ·rw [jTj he]
    obtain ⟨ho1,ho2⟩:=Xk Jx (jLj _) he
    have hadd:=addE hn Jx (by simp) (evs:=[]) (by simp) hse he
    have hstep:QR n ((e::m).map Zr) (.inl ())=some (.inl (.inr ((([e]:List Ev).length:Int),stS ([e].map Zr) ((VO [] e).map Zr) (QD (VO [] e))))):=by
     unfold QR
     dsimp only
     rw [jTj hpos,show el Ze ((e::m).map Zr) 0=_ from qf hx,jBj,V3 hn e hse,jBj,jTj hz]
     refine Eq.trans (congrArg (fun x=>Option.bind x _) hacc) ?_
     rw [jBj,jTj (show YM ([]:jVj).length [] e=0 from he)]
     refine Eq.trans (congrArg (fun x=>Option.bind x _) hadd) ?_
     rfl
    have hrep:=ux hn (e::m) hl hs m [e] (VO [] e) (n - 1) rfl (by simp) ho1 (by simpa using ho2) (by simp at hl;omega)
    have hloop:=Wy (k:=n) (by omega) hstep
    have hlen1:([e]:List Ev).length=0+1:=rfl
    rw [hlen1] at hrep hloop
    unfold Q6
    rw [jFj hgt,hloop]
    cases hr:rep (0+1) (VO [] e) m with
    | inr c =>
     rw [hr] at hrep
     obtain ⟨h1,h2,h3⟩:=hrep
     refine ⟨?_,h2,h3⟩
     rw [h1];rfl
    | inl p =>
     obtain ⟨i,err⟩:=p
     rw [hr] at hrep
     obtain ⟨h1,w,h2⟩:=hrep
     refine ⟨h1,?_⟩
     rw [h2]
     exact ⟨_,rfl⟩
   ·rw [jFj he]
    refine ⟨he,?_⟩
    unfold Q6
    have:Q2 (QR n ((e::m).map Zr)) n (.inl ())=some (.inl (1,YM 0 [] e,0,0,false,false,0,0,0,[],[],[],[],[])):=by
     refine Zf (by omega) ?_
     unfold QR
     dsimp only
     rw [jTj hpos,show el Ze ((e::m).map Zr) 0=_ from qf hx,jBj,V3 hn e hse,jBj,jTj hz]
     refine Eq.trans (congrArg (fun x=>Option.bind x _) hacc) ?_
     rw [jBj,jFj (show ¬ YM ([]:jVj).length [] e=0 from he)]
     rfl
    rw [jFj hgt,this]
    exact ⟨_,rfl⟩
  ·have he:¬ YM 0 [] e=0:=by rw [Gg hz];exact hz
   rw [jFj he,Gg hz]
   refine ⟨hz,?_⟩
   unfold Q6
   have:Q2 (QR n ((e::m).map Zr)) n (.inl ())=some (.inr (.inl (chk e))):=by
    refine Zf (by omega) ?_
    unfold QR
    dsimp only
    rw [jTj hpos,show el Ze ((e::m).map Zr) 0=_ from qf hx,jBj,V3 hn e hse,jBj,jFj hz]
   rw [jFj hgt,this]
   exact ⟨_,rfl⟩
end Go.Proofs.YtljabneifpkbjaaGreatDoor
set_option maxRecDepth 20000
namespace Go.Proofs.YtljabneifpkbjaaGreatDoor
open Go.SX
def encR (r:Reg):D:=Vn (Vb r)
def z0:D:=.agg [I 0,I 0,B false,B false,I 0,I 0,I 0,.lst true 0 [],.lst true 0 [],.lst true 0 []]
def Ur (cnt:List Ev):jVj:=z0::(List.range cnt.length).map fun j=>encR (QD (cnt.take (j+1)))
theorem Yd (cnt:List Ev):(Ur cnt).length=cnt.length+1:=by unfold Ur;simp
theorem Qde (r:Reg):ZT (some (encR r))=false:=by
 unfold encR Vn ZT
 split
 ·rename_i h
  simp at h
 ·rfl
theorem wl {cnt:List Ev} {j:Nat} (h:j < cnt.length):(Ur cnt)[j+1]?=some (encR (QD (cnt.take (j+1)))):=by
 unfold Ur
 rw [List.getElem?_cons_succ,List.getElem?_map,List.getElem?_range h]
 rfl
theorem kV {cnt:List Ev} (h:cnt≠[]):(Ur cnt)[cnt.length]?=some (encR (QD cnt)):=by
 have hp:=List.length_pos_iff.2 h
 have:=wl (cnt:=cnt) (j:=cnt.length - 1) (by omega)
 rw [show cnt.length - 1+1=cnt.length by omega,List.take_length] at this
 exact this
theorem XU (cnt:List Ev) (e:Ev):Ur cnt++[encR (QD (cnt++[e]))]=Ur (cnt++[e]):=by
 apply List.ext_getElem?
 intro i
 by_cases h0:i=0
 ·subst h0;rfl
 obtain ⟨j,rfl⟩:∃ j,i=j+1:=⟨i - 1,by omega⟩
 by_cases hj:j < cnt.length
 ·rw [List.getElem?_append_left (by rw [Yd];omega),wl hj,wl (by simp;omega),List.take_append_of_le_length (by omega)]
 ·by_cases hj2:j=cnt.length
  ·subst hj2
   rw [List.getElem?_append_right (by rw [Yd];omega),Yd,Nat.sub_self,wl (by simp)]
   have e:(cnt++[e]).take (cnt.length+1)=cnt++[e]:=by
    rw [List.take_of_length_le];simp
   rw [e];rfl
  ·rw [List.getElem?_eq_none (by rw [List.length_append,Yd];simp;omega),List.getElem?_eq_none (by rw [Yd];simp;omega)]
theorem QcQ {cnt:List Ev} (h:cnt≠[]):(Ur cnt).take cnt.length=Ur cnt.dropLast:=by
 have hp:=List.length_pos_iff.2 h
 have hd:cnt=cnt.dropLast++[cnt.getLast h]:=(List.dropLast_concat_getLast h).symm
 have hl:cnt.length=(Ur cnt.dropLast).length:=by rw [Yd];simp;omega
 have e:Ur cnt=Ur cnt.dropLast++[encR (QD cnt)]:=by
  have:=XU cnt.dropLast (cnt.getLast h)
  rw [← hd] at this
  exact this.symm
 conv=>lhs;rw [e,hl]
 rw [List.take_left]
theorem wE {cnt:List Ev}:ZT (nth (Ur cnt) (Int.toNat (cnt.length:Int)))=decide (cnt=[]):=by
 rw [Int.toNat_natCast,Ub]
 by_cases h:cnt=[]
 ·subst h;rfl
 ·rw [kV h,Qde];simp [h]
theorem elA {cnt:List Ev} (h:cnt≠[]):el Vy (Ur cnt) (cnt.length:Int)=some (Vb (QD cnt)):=by
 unfold el
 rw [jTj (Int.natCast_nonneg _),Int.toNat_natCast,Ub,kV h]
 rfl
theorem QcS {n:Nat} (hn:100≤n) {cnt:List Ev} (hk:OkL cnt) (hc:cnt.length≤30) {e:Ev} (hz:chk e=0) (hu:¬ isU e=true) :
  ∃ r',QZ n (QD cnt).tick (QD cnt).level (QD cnt).filled (QD cnt).tripped (QD cnt).light (QD cnt).heat (QD cnt).money ((QD cnt).sectors.map Sd) ((QD cnt).mirrors.map QY) ((QD cnt).offers.map Zj) e.1 e.2.1 (e.2.2.1.map Sd) (e.2.2.2.1.map I) e.2.2.2.2=some (Vc r' (X0 (QD cnt) e))∧(X0 (QD cnt) e=0→r'=QD (cnt++[e])):=by
 obtain ⟨k,hg⟩:=qn hz
 have hku:k≠.undo:=fun h=>hu (by rw [KY hg];exact jDj h)
 obtain ⟨r',h1,h2⟩:=QcR hn (GG hk hc) hc hku hg
 refine ⟨r',by rw [Gq hg];exact h1,fun h=>?_⟩
 rw [Gq hg] at h
 rw [GA,XR hg]
 exact h2 h
theorem Qa7 {e:Ev} (hz:chk e=0):isU e=true↔e.2.1.data.toList=kw .undo:=by
 obtain ⟨k,hg⟩:=qn hz
 rw [KY hg,decide_eq_true_eq]
 have:=hg.kind
 constructor
 ·rintro rfl;exact this
 ·intro h
  have h1:=E7 k
  rw [← this,h,E7] at h1
  exact (Option.some.inj h1).symm
theorem uV {i:Nat} {cnt:List Ev} {e:Ev} (hz:chk e=0) (hn:¬ e.1=(i:Int)+1):YM i cnt e=11:=by unfold YM;rw [jTj hz,jFj hn]
theorem QcF {i:Nat} {cnt:List Ev} {e:Ev} (hz:chk e=0) (hn:e.1=(i:Int)+1) (hu:isU e=true):YM i cnt e=X7 cnt:=by unfold YM;rw [jTj hz,jTj hn,jTj hu]
theorem QcG {i:Nat} {cnt:List Ev} {e:Ev} (hz:chk e=0) (hn:e.1=(i:Int)+1) (hu:¬ isU e=true):YM i cnt e=X0 (QD cnt) e:=by unfold YM;rw [jTj hz,jTj hn,jFj hu]
theorem QcL {n:Nat} (hn:100≤n) (l:List Ev) (hl:l.length≤30) {i:Nat} {e:Ev} (hx:l[i]?=some e) (hse:Yf e) {cnt:List Ev} (hok:OkL cnt) (hc:cnt.length≤i) :
  Zh n (l.map Zr) (.inr (cnt.map Zr,Ur cnt,(i:Int)))=some (if YM i cnt e=0 then .inl (.inr ((VO cnt e).map Zr,Ur (VO cnt e),((i+1:Nat):Int))) else .inr (.inl (((i+1:Nat):Int),YM i cnt e))):=by
 have hi:=(jGj hx).1
 have hml:(cnt.map Zr).length=cnt.length:=List.length_map _
 have hin:Qh ((i:Int)+1):=by unfold Qh;omega
 unfold Zh
 dsimp only
 rw [jTj (ZD hx),qf hx,jBj,Ga hn e hse,jBj]
 by_cases hz:chk e=0
 ·rw [jTj hz,jTj hin]
  by_cases hnum:e.1=(i:Int)+1
  ·rw [jTj hnum]
   by_cases hu:isU e=true
   ·rw [jTj (keq ((Qa7 hz).1 hu) rfl),QcF hz hnum hu]
    unfold VO
    rw [jTj hu]
    cases hgl:cnt.getLast? with
    | none =>
     have h0:=List.getLast?_eq_none_iff.1 hgl
     subst h0
     rw [jTj (by rfl),jFj (show ¬ X7 []=0 by decide)];rfl
    | some x =>
     have hue:X7 cnt=if x.2.1.data.toList=kw .deliver ∨ x.2.1.data.toList=kw .bill then 21 else 0:=by unfold X7;rw [hgl]
     have hne:cnt≠[]:=fun h=>by rw [h] at hgl;cases hgl
     have hp:=List.length_pos_iff.2 hne
     have hcl:=QcQ hne
     rw [List.getLast?_eq_getElem?] at hgl
     have hm1:(((cnt.map Zr).length:Int) - 1)=((cnt.length - 1:Nat):Int):=by rw [hml];omega
     rw [jFj (by rw [hml];omega),hm1,jTj (by unfold Qh;omega),qf hgl,jBj]
     dsimp only
     by_cases h1:x.2.1.data.toList=kw .deliver
     ·rw [jTj (Or.inl h1)] at hue
      rw [jTj (keq h1 rfl),hue,jFj (by decide)];rfl
     ·rw [jFj (fun h=>h1 (by rw [kq] at h;exact h))]
      by_cases h2:x.2.1.data.toList=kw .bill
      ·rw [jTj (Or.inr h2)] at hue
       rw [jTj (keq h2 rfl),hue,jFj (by decide)];rfl
      ·have hor:¬ (x.2.1.data.toList=kw .deliver ∨ x.2.1.data.toList=kw .bill):=by
        rintro (h | h)
        ·exact h1 h
        ·exact h2 h
       rw [jFj hor] at hue
       rw [jFj (fun h=>h2 (by rw [kq] at h;exact h)),hue,jTj rfl,jTj (by rw [hml];refine ⟨by omega,by omega,by omega,.inr rfl⟩),jTj (by rw [hml,Yd];refine ⟨by omega,by omega,by omega,.inr rfl⟩)]
       have e1:((cnt.map Zr).take (Int.toNat ((cnt.length - 1:Nat):Int))).drop (Int.toNat 0)=cnt.dropLast.map Zr:=by
        rw [Int.toNat_natCast,Int.toNat_zero,List.drop_zero,List.dropLast_eq_take,List.map_take]
       have e2:((Ur cnt).take (Int.toNat ((cnt.map Zr).length:Int))).drop (Int.toNat 0)=Ur cnt.dropLast:=by
        rw [Int.toNat_natCast,Int.toNat_zero,List.drop_zero,hml,hcl]
       rw [e1,e2];rfl
   ·rw [jFj (fun h=>hu ((Qa7 hz).2 (by rw [kq] at h;exact h))),QcG hz hnum hu]
    obtain ⟨r',hr1,hr2⟩:=QcS hn hok (by omega) hz hu
    unfold VO
    rw [jFj hu]
    have hroom:Wa 88 (0+(cnt.map Zr).length)∧Wa 88 ((cnt.map Zr).length+1)∧Wa 120 (0+(Ur cnt).length)∧Wa 120 ((Ur cnt).length+1) :=
     ⟨V7 (by decide) (by rw [hml];omega),V7 (by decide) (by rw [hml];omega),V7 (by decide) (by rw [Yd];omega),V7 (by decide) (by rw [Yd];omega)⟩
    by_cases hne:cnt=[]
    ·have halt:ZT (nth (Ur cnt) (Int.toNat ((cnt.map Zr).length:Int)))=true:=by rw [hml,wE];exact jDj hne
     rw [jTj halt,jTj (Int.natCast_nonneg _)]
     have hr1':=hr1
     rw [hne] at hr1'
     refine Eq.trans (congrArg (fun x=>Option.bind x _) hr1') ?_
     rw [jBj]
     by_cases ha:X0 (QD cnt) e=0
     ·have hr3:=hr2 ha
      have ha':=ha
      rw [hne] at ha'
      rw [jTj (show (Vc r' (X0 (QD []) e)).2.2.2.2.2.2.2.2.2.2=0 from ha'),jTj hroom.1,jTj hroom.2.1,jTj hroom.2.2.1,jTj hroom.2.2.2,jTj ha,List.map_append,← XU,hr3]
      rfl
     ·have ha':=ha
      rw [hne] at ha'
      rw [jFj (show ¬ (Vc r' (X0 (QD []) e)).2.2.2.2.2.2.2.2.2.2=0 from ha'),jFj ha,hne]
      rfl
    ·have halt:¬ ZT (nth (Ur cnt) (Int.toNat ((cnt.map Zr).length:Int)))=true:=by rw [hml,wE];simpa using hne
     rw [jFj halt,hml,elA hne,jBj]
     refine Eq.trans (congrArg (fun x=>Option.bind x _) hr1) ?_
     rw [hml] at hroom
     rw [jBj]
     by_cases ha:X0 (QD cnt) e=0
     ·have hr3:=hr2 ha
      rw [jTj (show (Vc r' (X0 (QD cnt) e)).2.2.2.2.2.2.2.2.2.2=0 from ha),jTj hroom.1,jTj hroom.2.1,jTj hroom.2.2.1,jTj hroom.2.2.2,jTj ha,List.map_append,← XU,hr3]
      rfl
     ·rw [jFj (show ¬ (Vc r' (X0 (QD cnt) e)).2.2.2.2.2.2.2.2.2.2=0 from ha),jFj ha]
      rfl
  ·rw [jFj hnum,uV hz hnum,jFj (by decide)];rfl
 ·rw [jFj hz,Gg hz,jFj hz,jTj hin];rfl
end Go.Proofs.YtljabneifpkbjaaGreatDoor
set_option maxRecDepth 20000
namespace Go.Proofs.YtljabneifpkbjaaGreatDoor
open Go.SX
theorem QbV {n:Nat} (hn:100≤n) (e:Ev) (m:List Ev) (hse:Yf e) :
  Zh n ((e::m).map Zr) (.inl ())=some (if YM 0 [] e=0 then .inl (.inr ((VO [] e).map Zr,Ur (VO [] e),1)) else .inr (.inl (1,YM 0 [] e))):=by
 have hx:(e::m)[0]?=some e:=rfl
 have hpos:(0:Int) < (((e::m).map Zr).length:Int):=by simp only [jCj,List.length_cons];omega
 unfold Zh
 dsimp only
 rw [jTj hpos,show el Ze ((e::m).map Zr) 0=_ from qf hx,jBj,Ga hn e hse,jBj]
 by_cases hz:chk e=0
 ·rw [jTj hz]
  by_cases hnum:e.1=((0:Nat):Int)+1
  ·rw [jTj (show e.1=1 from hnum)]
   by_cases hu:isU e=true
   ·rw [jTj (keq ((Qa7 hz).1 hu) rfl),QcF hz hnum hu,jFj (show ¬ X7 []=0 by decide)];rfl
   ·rw [jFj (fun h=>hu ((Qa7 hz).2 (by rw [kq] at h;exact h))),QcG hz hnum hu]
    obtain ⟨r',hr1,hr2⟩:=QcS hn Jx (by simp) hz hu
    unfold VO
    rw [jFj hu]
    refine Eq.trans (congrArg (fun x=>Option.bind x _) hr1) ?_
    rw [jBj]
    by_cases ha:X0 (QD []) e=0
    ·have hr3:=hr2 ha
     rw [jTj (show (Vc r' (X0 (QD []) e)).2.2.2.2.2.2.2.2.2.2=0 from ha),jTj ha,← XU,hr3]
     rfl
    ·rw [jFj (show ¬ (Vc r' (X0 (QD []) e)).2.2.2.2.2.2.2.2.2.2=0 from ha),jFj ha]
     rfl
  ·rw [jFj (show ¬ e.1=1 from hnum),uV hz hnum,jFj (by decide)]
 ·rw [jFj hz,Gg hz,jFj hz]
theorem Qad {n:Nat} (hn:100≤n) (l:List Ev) (hl:l.length≤30) (hs:∀ e,e∈l→Yf e):∀ (m pre cnt:List Ev) (k:Nat),l=pre++m→OkL cnt→cnt.length≤pre.length→m.length < k →
  Q2 (Zh n (l.map Zr)) k (.inr (cnt.map Zr,Ur cnt,(pre.length:Int)))=some (match rep pre.length cnt m with
   | .inr c=>.inr (.inr (c.map Zr,Ur c))
   | .inl p=>.inl p)
 | [],pre,cnt,k,hl0,hok,hc,hk=>by
  rw [List.append_nil] at hl0
  subst hl0
  unfold rep
  refine Zf (by omega) ?_
  unfold Zh
  dsimp only
  rw [jFj (by rw [List.length_map];omega)]
 | e::m,pre,cnt,k,hl0,hok,hc,hk=>by
  have hlen:l.length=pre.length+(m.length+1):=by rw [hl0];simp
  have hx:l[pre.length]?=some e:=by rw [hl0,List.getElem?_append_right (jLj _),Nat.sub_self];rfl
  have hst:=QcL hn l hl hx (hs e (List.mem_of_getElem? hx)) hok hc
  unfold rep
  by_cases he:YM pre.length cnt e=0
  ·rw [jTj he] at hst ⊢
   obtain ⟨ho1,ho2⟩:=Xk hok hc he
   rw [Wy (by omega) hst]
   have:=Qad hn l hl hs m (pre++[e]) (VO cnt e) (k - 1) (by rw [hl0];simp) ho1 (by rw [List.length_append];exact ho2) (by simp at hk;omega)
   have e1:(pre++[e]).length=pre.length+1:=by simp
   rw [e1] at this
   exact this
  ·rw [jFj he] at hst ⊢
   exact Zf (by omega) hst
def cntD:(Int×Int)⊕List Ev→jVj×jVj×Int×Int
 | .inr c=>(c.map Zr,Ur c,0,0)
 | .inl p=>([],[],p.1,p.2)
theorem QaS {n:Nat} (hn:100≤n) (l:List Ev) (hl:l.length≤30) (hs:∀ e,e∈l→Yf e):V1 n (l.map Zr)=some (cntD (rep 0 [] l)):=by
 have hgt:¬ (((l.map Zr).length:Int) > 1000):=by rw [List.length_map];omega
 unfold V1
 rw [jFj hgt]
 cases l with
 | nil =>
  have:Q2 (Zh n (([]:List Ev).map Zr)) n (.inl ())=some (.inr (.inl ())):=by
   refine Zf (by omega) ?_
   unfold Zh
   dsimp only
   rw [jFj (by decide)]
  rw [this];rfl
 | cons e m =>
  have hst:=QbV hn e m (hs e jMj)
  unfold rep
  by_cases he:YM 0 [] e=0
  ·rw [jTj he] at hst ⊢
   obtain ⟨ho1,ho2⟩:=Xk Jx (jLj _) he
   have:=Qad hn (e::m) hl hs m [e] (VO [] e) (n - 1) rfl ho1 (by simpa using ho2) (by simp at hl;omega)
   have e1:([e]:List Ev).length=0+1:=rfl
   rw [e1] at this
   rw [Wy (by omega) hst,show Q2 (Zh n ((e::m).map Zr)) (n - 1) (.inr ((VO [] e).map Zr,Ur (VO [] e),1))=_ from this]
   cases rep (0+1) (VO [] e) m with
   | inr c=>rfl
   | inl p=>rfl
  ·rw [jFj he] at hst ⊢
   rw [Zf (by omega) hst]
   rfl
abbrev RepT:=Int×Int×Bool×Bool×Int×Int×Int×jVj×jVj×jVj×Int×Int
def outF (r:Reg) (a b:Int):RepT:=(r.tick,r.level,r.filled,r.tripped,r.light,r.heat,r.money,r.sectors.map Sd,r.mirrors.map QY,r.offers.map Zj,a,b)
def repD:(Int×Int)⊕List Ev→RepT
 | .inr c=>outF (QD c) 0 0
 | .inl p=>outF Reg.zero p.1 p.2
theorem yn:∀ (l cnt:List Ev) (i:Nat) (p:Int×Int),rep i cnt l=.inl p→p.2≠0
 | [],cnt,i,p,h=>by cases h
 | e::l,cnt,i,p,h=>by
  unfold rep at h
  by_cases he:YM i cnt e=0
  ·rw [jTj he] at h;exact yn l _ _ p h
  ·rw [jFj he] at h;cases h;exact he
theorem Qaq:∀ (l cnt:List Ev) (i:Nat) (c:List Ev),OkL cnt→cnt.length≤i→rep i cnt l=.inr c→OkL c∧c.length≤i+l.length
 | [],cnt,i,c,h1,h2,h=>by cases h;exact ⟨h1,by simpa using h2⟩
 | e::l,cnt,i,c,h1,h2,h=>by
  unfold rep at h
  by_cases he:YM i cnt e=0
  ·rw [jTj he] at h
   obtain ⟨g1,g2⟩:=Xk h1 h2 he
   obtain ⟨q1,q2⟩:=Qaq l _ _ c g1 g2 h
   exact ⟨q1,by simp;omega⟩
  ·rw [jFj he] at h;cases h
theorem yp {n:Nat} (hn:100≤n) (l:List Ev) (hl:l.length≤30) (hs:∀ e,e∈l→Yf e):Vo n (l.map Zr)=some (repD (rep 0 [] l)):=by
 unfold Vo
 rw [QaS hn l hl hs,jBj]
 cases hr:rep 0 [] l with
 | inl p =>
  have hp:=yn _ _ _ _ hr
  unfold cntD
  dsimp only
  rw [jFj hp]
  rfl
 | inr c =>
  have hc:=(Qaq l [] 0 c Jx (jLj 0) hr).2
  have hal2:=Yd c
  have hal:(((Ur c).length:Int) - 1)=(c.length:Int):=by rw [Yd];omega
  unfold cntD
  dsimp only
  rw [jTj rfl,hal,jTj (by unfold Qh;omega),wE]
  by_cases h:c=[]
  ·rw [jTj (jDj h),jTj (Int.natCast_nonneg _),h];rfl
  ·rw [jFj (by simpa using h),elA h,jBj];rfl
def shG (_:Unit) (s:jSj):Unit⊕(Unit⊕Unit):=if s.size > 40 then .inr (.inl ()) else .inl ()
theorem ym:∀ (l:List jSj),Y6 shG (fun _=>.inr ()) l ()=if l.all (fun s=>decide (s.size≤40))=true then .inr () else .inl ()
 | []=>rfl
 | s::l=>by
  unfold Y6 shG
  by_cases h:s.size > 40
  ·rw [jTj h];simp;omega
  ·rw [jFj h]
   have:decide (s.size≤40)=true:=jDj (by omega)
   simp only [List.all_cons,this,Bool.true_and]
   exact ym l
instance (e:Ev):Decidable (Yf e):=by unfold Yf;infer_instance
def evG (_:Unit) (e:Ev):Unit⊕(Unit⊕Unit):=if Yf e then .inl () else .inr (.inl ())
theorem Qbb:∀ (l:List Ev),Y6 evG (fun _=>.inr ()) l ()=if ∀ e,e∈l→Yf e then .inr () else .inl ()
 | []=>by unfold Y6;rw [jTj (fun e h=>(List.not_mem_nil h).elim)]
 | e::l=>by
  unfold Y6 evG
  by_cases h:Yf e
  ·rw [jTj h]
   simp only
   have ih:=Qbb l
   unfold evG at ih
   rw [ih]
   by_cases hl:∀ e,e∈l→Yf e
   ·rw [jTj hl,jTj (fun x hx=>by
     rcases List.mem_cons.1 hx with rfl | hx
     ·exact h
     ·exact hl x hx)]
   ·rw [jFj hl,jFj (fun hh=>hl fun x hx=>hh x (List.mem_cons_of_mem _ hx))]
  ·rw [jFj h,jFj (fun hh=>h (hh e jMj))]
theorem wu {n:Nat} (hn:100≤n) (l:List Ev) (b:Nat) (hb:b≤50):WM n (l.map Zr) (b:Int)=some (decide (l.length≤b∧∀ e,e∈l→Yf e)):=by
 unfold WM
 by_cases hl:l.length≤b
 ·rw [jFj (by rw [List.length_map];omega)]
  have q:=ZK (step:=Zw n (l.map Zr)) evG (fun _=>.inr ()) (fun i _=>(i:Int)) l (fun _ _=>True)
   (fun i _ e hx _=>by
    have hi:=(jGj hx).1
    have q2:=fun (h6:e.2.2.1.length≤6)=>ZK (step:=Zx n (l.map Zr) (i:Int)) shG (fun _=>.inr ()) (fun j _=>(j:Int)) e.2.2.1 (fun _ _=>True)
     (fun j _ s hy _=>by
      have hj:=(jGj hy).1
      unfold shG Zx
      by_cases h:s.size > 40
      ·rw [jTj h]
       simp only
       rw [qf hx,jBj,jTj (ZD hy),jH hy,jBj,jTj (by omega)]
      ·rw [jFj h]
       refine ⟨?_,trivial⟩
       rw [qf hx,jBj,jTj (ZD hy),jH hy,jBj,jFj (by omega),jTj (by unfold Qh;omega)];rfl)
     (fun s _=>by unfold Zx;rw [qf hx,jBj,jFj (by simp)]) (s:=()) (k:=n) trivial (by omega)
    unfold evG
    by_cases h:Yf e
    ·rw [jTj h]
     refine ⟨?_,trivial⟩
     obtain ⟨h1,h2,h3,h4,h5⟩:=h
     have q3:=q2 h2
     rw [ym,jTj (List.all_eq_true.2 fun s hs=>jDj (h5 s hs))] at q3
     unfold Zw
     rw [jTj (ZD hx),qf hx,jBj]
     dsimp only
     rw [jFj (by omega),jFj (by rw [List.length_map];omega),jFj (by rw [List.length_map];omega),jFj (by omega),show Q2 (Zx n (l.map Zr) (i:Int)) n 0=_ from q3,jBj]
     dsimp only
     rw [jTj (by unfold Qh;omega)];rfl
    ·rw [jFj h]
     unfold Zw
     dsimp only
     rw [jTj (ZD hx),qf hx,jBj]
     dsimp only
     by_cases h1:e.2.1.size≤40
     ·rw [jFj (by omega)]
      by_cases h2:e.2.2.1.length≤6
      ·rw [jFj (by rw [List.length_map];omega)]
       by_cases h3:e.2.2.2.1.length≤8
       ·rw [jFj (by rw [List.length_map];omega)]
        by_cases h4:e.2.2.2.2.size≤200
        ·have q3:=q2 h2
         rw [ym,jFj (fun ha=>h ⟨h1,h2,h3,h4,fun s hs=>of_decide_eq_true (List.all_eq_true.1 ha s hs)⟩)] at q3
         rw [jFj (by omega),show Q2 (Zx n (l.map Zr) (i:Int)) n 0=_ from q3,jBj]
        ·rw [jTj (by omega)]
       ·rw [jTj (by rw [List.length_map];omega)]
      ·rw [jTj (by rw [List.length_map];omega)]
     ·rw [jTj (by omega)])
   (fun s _=>by unfold Zw;rw [jFj (by simp)]) (s:=()) (k:=n) trivial (by omega)
  rw [show Q2 (Zw n (l.map Zr)) n 0=_ from q,Qbb,jBj]
  by_cases hs:∀ e,e∈l→Yf e
  ·rw [jTj hs,jDj ⟨hl,hs⟩]
  ·rw [jFj hs,jEj (fun h=>hs h.2)]
 ·rw [jTj (by rw [List.length_map];omega),jEj (fun h=>hl h.1)]
end Go.Proofs.YtljabneifpkbjaaGreatDoor
