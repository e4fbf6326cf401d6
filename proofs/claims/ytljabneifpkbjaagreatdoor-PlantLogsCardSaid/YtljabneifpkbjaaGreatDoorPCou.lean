/- Own texts, merged: PAcc, PAcs, PApp, PAfn, PAft, PInv, PHis, PRep, PCnt, PCou. -/
import Derived.Test.YtljabneifpkbjaaGreatDoorPChk
set_option maxRecDepth 20000
namespace Go.Proofs.YtljabneifpkbjaaGreatDoor
open Go.SX
def iM (ms:List Mir) (a:jSj):Nat:=(pos (nmM ms) a).getD 0
def iO (os:List Off) (a:jSj):Nat:=(pos (nmO os) a).getD 0
def zM:Mir:=(⟨#[]⟩,⟨#[]⟩,0,0,false,false)
def zO:Off:=(⟨#[]⟩,0,0,0,0,0,false)
def mAt (ms:List Mir) (a:jSj):Mir:=ms.getD (iM ms a) zM
def oAt (os:List Off) (a:jSj):Off:=os.getD (iO os a) zO
def known (k:Ki) (r:Reg) (ns:List jSj):Int:=match k with
 | .sector=>QF (Zu r.sectors (ns.getD 0 ⟨#[]⟩)) 9
 | .mirror=>if Zu r.sectors (ns.getD 1 ⟨#[]⟩)=true then QF (Zu (nmM r.mirrors) (ns.getD 0 ⟨#[]⟩)) 9 else 10
 | .dim=>QF (!Zu r.sectors (ns.getD 0 ⟨#[]⟩)) 10
 | .offer=>QF (Zu (nmO r.offers) (ns.getD 0 ⟨#[]⟩)) 9
 | .deliver=>QF (!Zu (nmO r.offers) (ns.getD 0 ⟨#[]⟩)) 10
 | .bill=>QF (!Zu (nmO r.offers) (ns.getD 0 ⟨#[]⟩)) 10
 | .soil=>QF (!Zu (nmM r.mirrors) (ns.getD 0 ⟨#[]⟩)) 10
 | .clean=>QF (!Zu (nmM r.mirrors) (ns.getD 0 ⟨#[]⟩)) 10
 | .defect=>QF (!Zu (nmM r.mirrors) (ns.getD 0 ⟨#[]⟩)) 10
 | .repair=>QF (!Zu (nmM r.mirrors) (ns.getD 0 ⟨#[]⟩)) 10
 | .aim=>QF (!Zu (nmM r.mirrors) (ns.getD 0 ⟨#[]⟩)) 10
 | .park=>QF (!Zu (nmM r.mirrors) (ns.getD 0 ⟨#[]⟩)) 10
 | _=>0
def ws (vs:List Int):Int:=if vs.getD 1 0 < vs.getD 0 0 then 14 else QF (decide (vs.getD 1 0 ≥ vs.getD 2 0)) 14
def spec (k:Ki) (r:Reg) (ns:List jSj) (vs:List Int):Int:=match k with
 | .sector=>QF ((r.sectors.length:Int) == 8) 5
 | .mirror=>Qt [inR (vs.getD 1 0) 1 100,QF ((r.mirrors.length:Int) == 32) 5]
 | .soil=>inR (vs.getD 1 0) 0 1000
 | .defect=>Qt [QF (mAt r.mirrors (ns.getD 0 ⟨#[]⟩)).2.2.2.2.1 9,QF (mAt r.mirrors (ns.getD 0 ⟨#[]⟩)).2.2.2.2.2 31]
 | .repair=>QF (!(mAt r.mirrors (ns.getD 0 ⟨#[]⟩)).2.2.2.2.1) 22
 | .aim=>Qt [QF (!r.filled) 30,QF r.tripped 29,QF (mAt r.mirrors (ns.getD 0 ⟨#[]⟩)).2.2.2.2.1 21,QF (mAt r.mirrors (ns.getD 0 ⟨#[]⟩)).2.2.2.2.2 9]
 | .park=>QF (!(mAt r.mirrors (ns.getD 0 ⟨#[]⟩)).2.2.2.2.2) 22
 | .sun=>inR (vs.getD 1 0) 0 1000
 | .fill=>QF r.filled 9
 | .drain=>Qt [QF (!r.filled) 22,QF (r.mirrors.any isA) 31]
 | .trip=>QF r.tripped 9
 | .reset=>QF (!r.tripped) 22
 | .offer=>Qt [ws vs,inR (vs.getD 3 0) 1 1000,inR (vs.getD 4 0) 0 1000,QF ((r.offers.length:Int) == 32) 5]
 | .deliver=>if Qt [QF (oAt r.offers (ns.getD 0 ⟨#[]⟩)).2.2.2.2.2.2 23,if vs.getD 0 0 < (oAt r.offers (ns.getD 0 ⟨#[]⟩)).2.1 then 14 else QF (decide (vs.getD 0 0 ≥ (oAt r.offers (ns.getD 0 ⟨#[]⟩)).2.2.1)) 14,QF (vs.getD 1 0 == 0) 3,QF (decide (vs.getD 1 0 > Ws (oAt r.offers (ns.getD 0 ⟨#[]⟩)))) 20]=0
   then QF (decide (vs.getD 1 0 * 1000000 > r.heat+ZL r (vs.getD 0 0))) 16
   else Qt [QF (oAt r.offers (ns.getD 0 ⟨#[]⟩)).2.2.2.2.2.2 23,if vs.getD 0 0 < (oAt r.offers (ns.getD 0 ⟨#[]⟩)).2.1 then 14 else QF (decide (vs.getD 0 0 ≥ (oAt r.offers (ns.getD 0 ⟨#[]⟩)).2.2.1)) 14,QF (vs.getD 1 0 == 0) 3,QF (decide (vs.getD 1 0 > Ws (oAt r.offers (ns.getD 0 ⟨#[]⟩)))) 20]
 | .bill=>Qt [QF (oAt r.offers (ns.getD 0 ⟨#[]⟩)).2.2.2.2.2.2 23,QF (decide (vs.getD 0 0 < (oAt r.offers (ns.getD 0 ⟨#[]⟩)).2.2.1)) 32]
 | _=>0
def acc (k:Ki) (r:Reg) (ns:List jSj) (vs:List Int):Int:=if vs.getD 0 0 < r.tick then 22 else Qt [Zk r (vs.getD 0 0),known k r ns,spec k r ns vs]
end Go.Proofs.YtljabneifpkbjaaGreatDoor
set_option maxRecDepth 20000
namespace Go.Proofs.YtljabneifpkbjaaGreatDoor
open Go.SX
end Go.Proofs.YtljabneifpkbjaaGreatDoor
set_option maxRecDepth 20000
namespace Go.Proofs.YtljabneifpkbjaaGreatDoor
open Go.SX
def bkd (r:Reg) (t:Int):Reg:={ r with tick:=t,light:=r.light+ZL r t,heat:=r.heat+ZL r t }
def chgM (r:Reg) (a:jSj) (m:Mir):Reg:={ r with mirrors:=r.mirrors.set (iM r.mirrors a) m }
def chgO (r:Reg) (a:jSj) (o:Off):Reg:={ r with offers:=r.offers.set (iO r.offers a) o }
def X8 (m:Mir) (v:Int):Mir:=(m.1,m.2.1,m.2.2.1,v,m.2.2.2.2.1,m.2.2.2.2.2)
def zU (m:Mir) (b:Bool):Mir:=(m.1,m.2.1,m.2.2.1,m.2.2.2.1,b,m.2.2.2.2.2)
def aimM (m:Mir):Mir:=(m.1,m.2.1,m.2.2.1,m.2.2.2.1,m.2.2.2.2.1,true)
def yO (o:Off) (v:Int):Off:=(o.1,o.2.1,o.2.2.1,o.2.2.2.1,o.2.2.2.2.1,o.2.2.2.2.2.1+v,o.2.2.2.2.2.2)
def GV (o:Off):Off:=(o.1,o.2.1,o.2.2.1,o.2.2.2.1,o.2.2.2.2.1,o.2.2.2.2.2.1,true)
def act (k:Ki) (q:Reg) (ns:List jSj) (vs:List Int):Reg:=match k with
 | .sector=>{ q with sectors:=q.sectors++[ns.getD 0 ⟨#[]⟩] }
 | .mirror=>{ q with mirrors:=q.mirrors++[(ns.getD 0 ⟨#[]⟩,ns.getD 1 ⟨#[]⟩,vs.getD 1 0,0,false,false)] }
 | .soil=>chgM q (ns.getD 0 ⟨#[]⟩) (X8 (mAt q.mirrors (ns.getD 0 ⟨#[]⟩)) (vs.getD 1 0))
 | .clean=>chgM q (ns.getD 0 ⟨#[]⟩) (X8 (mAt q.mirrors (ns.getD 0 ⟨#[]⟩)) 0)
 | .defect=>chgM q (ns.getD 0 ⟨#[]⟩) (zU (mAt q.mirrors (ns.getD 0 ⟨#[]⟩)) true)
 | .repair=>chgM q (ns.getD 0 ⟨#[]⟩) (zU (mAt q.mirrors (ns.getD 0 ⟨#[]⟩)) false)
 | .aim=>chgM q (ns.getD 0 ⟨#[]⟩) (aimM (mAt q.mirrors (ns.getD 0 ⟨#[]⟩)))
 | .park=>chgM q (ns.getD 0 ⟨#[]⟩) (Ka (mAt q.mirrors (ns.getD 0 ⟨#[]⟩)))
 | .dim=>{ q with mirrors:=q.mirrors.map (EN (ns.getD 0 ⟨#[]⟩)) }
 | .sun=>{ q with level:=vs.getD 1 0 }
 | .fill=>{ q with filled:=true }
 | .drain=>{ q with filled:=false }
 | .trip=>{ q with tripped:=true,mirrors:=q.mirrors.map Ka }
 | .reset=>{ q with tripped:=false }
 | .offer=>{ q with offers:=q.offers++[(ns.getD 0 ⟨#[]⟩,vs.getD 1 0,vs.getD 2 0,vs.getD 3 0,vs.getD 4 0,0,false)] }
 | .deliver=>{ chgO q (ns.getD 0 ⟨#[]⟩) (yO (oAt q.offers (ns.getD 0 ⟨#[]⟩)) (vs.getD 1 0)) with heat:=q.heat - 1000000 * vs.getD 1 0 }
 | .bill=>{ chgO q (ns.getD 0 ⟨#[]⟩) (GV (oAt q.offers (ns.getD 0 ⟨#[]⟩))) with money:=q.money+U5 (oAt q.offers (ns.getD 0 ⟨#[]⟩)) }
 | .undo=>q
def app (k:Ki) (r:Reg) (ns:List jSj) (vs:List Int):Reg:=act k (bkd r (vs.getD 0 0)) ns vs
end Go.Proofs.YtljabneifpkbjaaGreatDoor
set_option maxRecDepth 20000
namespace Go.Proofs.YtljabneifpkbjaaGreatDoor
open Go.SX
end Go.Proofs.YtljabneifpkbjaaGreatDoor
set_option maxRecDepth 20000
namespace Go.Proofs.YtljabneifpkbjaaGreatDoor
open Go.SX
end Go.Proofs.YtljabneifpkbjaaGreatDoor
set_option maxRecDepth 20000
namespace Go.Proofs.YtljabneifpkbjaaGreatDoor
open Go.SX
end Go.Proofs.YtljabneifpkbjaaGreatDoor
set_option maxRecDepth 20000
namespace Go.Proofs.YtljabneifpkbjaaGreatDoor
open Go.SX
end Go.Proofs.YtljabneifpkbjaaGreatDoor
set_option maxRecDepth 20000
namespace Go.Proofs.YtljabneifpkbjaaGreatDoor
open Go.SX
theorem qf {l:List Ev} {i:Nat} {e:Ev} (h:l[i]?=some e):el Ze (l.map Zr) (i:Int)=some (e.1,e.2.1,e.2.2.1.map Sd,e.2.2.2.1.map I,e.2.2.2.2):=by
 unfold el
 rw [jTj (Int.natCast_nonneg i),Int.toNat_natCast,Ub,List.getElem?_map,h]
 rfl
end Go.Proofs.YtljabneifpkbjaaGreatDoor
set_option maxRecDepth 20000
namespace Go.Proofs.YtljabneifpkbjaaGreatDoor
open Go.SX
def z0:D:=.agg [I 0,I 0,B false,B false,I 0,I 0,I 0,.lst true 0 [],.lst true 0 [],.lst true 0 []]
end Go.Proofs.YtljabneifpkbjaaGreatDoor
set_option maxRecDepth 20000
namespace Go.Proofs.YtljabneifpkbjaaGreatDoor
open Go.SX
def shG (_:Unit) (s:jSj):Unit⊕(Unit⊕Unit):=if s.size > 40 then .inr (.inl ()) else .inl ()
theorem ym:∀ (l:List jSj),Y6 shG (fun _=>.inr ()) l ()=if l.all (fun s=>decide (s.size≤40))=true then .inr () else .inl ()
 | []=>rfl
 | s::l=>by
  unfold Y6 shG
  by_cases h:s.size > 40
  ·rw [jTj h];simp;omega
  ·rw [jFj h]
   have:decide (s.size≤40)=true:=jDj (by omega)
   simp only [List.all_cons,this,Bool.true_and]
   exact ym l
instance (e:Ev):Decidable (Yf e):=by unfold Yf;infer_instance
def evG (_:Unit) (e:Ev):Unit⊕(Unit⊕Unit):=if Yf e then .inl () else .inr (.inl ())
theorem Qbb:∀ (l:List Ev),Y6 evG (fun _=>.inr ()) l ()=if ∀ e,e∈l→Yf e then .inr () else .inl ()
 | []=>by unfold Y6;rw [jTj (fun e h=>(List.not_mem_nil h).elim)]
 | e::l=>by
  unfold Y6 evG
  by_cases h:Yf e
  ·rw [jTj h]
   simp only
   have ih:=Qbb l
   unfold evG at ih
   rw [ih]
   by_cases hl:∀ e,e∈l→Yf e
   ·rw [jTj hl,jTj (fun x hx=>by
     rcases List.mem_cons.1 hx with rfl | hx
     ·exact h
     ·exact hl x hx)]
   ·rw [jFj hl,jFj (fun hh=>hl fun x hx=>hh x (List.mem_cons_of_mem _ hx))]
  ·rw [jFj h,jFj (fun hh=>h (hh e jMj))]
theorem wu {n:Nat} (hn:100≤n) (l:List Ev) (b:Nat) (hb:b≤50):WM n (l.map Zr) (b:Int)=some (decide (l.length≤b∧∀ e,e∈l→Yf e)):=by
 unfold WM
 by_cases hl:l.length≤b
 ·rw [jFj (by rw [List.length_map];omega)]
  have q:=ZK (step:=Zw n (l.map Zr)) evG (fun _=>.inr ()) (fun i _=>(i:Int)) l (fun _ _=>True)
   (fun i _ e hx _=>by
    have hi:=(jGj hx).1
    have q2:=fun (h6:e.2.2.1.length≤6)=>ZK (step:=Zx n (l.map Zr) (i:Int)) shG (fun _=>.inr ()) (fun j _=>(j:Int)) e.2.2.1 (fun _ _=>True)
     (fun j _ s hy _=>by
      have hj:=(jGj hy).1
      unfold shG Zx
      by_cases h:s.size > 40
      ·rw [jTj h]
       simp only
       rw [qf hx,jBj,jTj (ZD hy),jH hy,jBj,jTj (by omega)]
      ·rw [jFj h]
       refine ⟨?_,trivial⟩
       rw [qf hx,jBj,jTj (ZD hy),jH hy,jBj,jFj (by omega),jTj (by unfold Qh;omega)];rfl)
     (fun s _=>by unfold Zx;rw [qf hx,jBj,jFj (by simp)]) (s:=()) (k:=n) trivial (by omega)
    unfold evG
    by_cases h:Yf e
    ·rw [jTj h]
     refine ⟨?_,trivial⟩
     obtain ⟨h1,h2,h3,h4,h5⟩:=h
     have q3:=q2 h2
     rw [ym,jTj (List.all_eq_true.2 fun s hs=>jDj (h5 s hs))] at q3
     unfold Zw
     rw [jTj (ZD hx),qf hx,jBj]
     dsimp only
     rw [jFj (by omega),jFj (by rw [List.length_map];omega),jFj (by rw [List.length_map];omega),jFj (by omega),show Q2 (Zx n (l.map Zr) (i:Int)) n 0=_ from q3,jBj]
     dsimp only
     rw [jTj (by unfold Qh;omega)];rfl
    ·rw [jFj h]
     unfold Zw
     dsimp only
     rw [jTj (ZD hx),qf hx,jBj]
     dsimp only
     by_cases h1:e.2.1.size≤40
     ·rw [jFj (by omega)]
      by_cases h2:e.2.2.1.length≤6
      ·rw [jFj (by rw [List.length_map];omega)]
       by_cases h3:e.2.2.2.1.length≤8
       ·rw [jFj (by rw [List.length_map];omega)]
        by_cases h4:e.2.2.2.2.size≤200
        ·have q3:=q2 h2
         rw [ym,jFj (fun ha=>h ⟨h1,h2,h3,h4,fun s hs=>of_decide_eq_true (List.all_eq_true.1 ha s hs)⟩)] at q3
         rw [jFj (by omega),show Q2 (Zx n (l.map Zr) (i:Int)) n 0=_ from q3,jBj]
        ·rw [jTj (by omega)]
       ·rw [jTj (by rw [List.length_map];omega)]
      ·rw [jTj (by rw [List.length_map];omega)]
     ·rw [jTj (by omega)])
   (fun s _=>by unfold Zw;rw [jFj (by simp)]) (s:=()) (k:=n) trivial (by omega)
  rw [show Q2 (Zw n (l.map Zr)) n 0=_ from q,Qbb,jBj]
  by_cases hs:∀ e,e∈l→Yf e
  ·rw [jTj hs,jDj ⟨hl,hs⟩]
  ·rw [jFj hs,jEj (fun h=>hs h.2)]
 ·rw [jTj (by rw [List.length_map];omega),jEj (fun h=>hl h.1)]
end Go.Proofs.YtljabneifpkbjaaGreatDoor
