/- The plain law of PlantTurns: an event that is undone leaves what was, bills and deliveries change what they say. An own text. -/
import Derived.Test.YtljabneifpkbjaaGreatDoorTurns1
import Derived.Test.YtljabneifpkbjaaGreatDoorPAcd
set_option linter.unusedVariables false
set_option linter.unusedSimpArgs false
set_option linter.unnecessarySimpa false
set_option maxRecDepth 20000
namespace Go.Proofs.YtljabneifpkbjaaGreatDoor
open Go.SX
def undE (i:Nat):Ev:=((i:Int)+1,⟨#[117,110,100,111]⟩,[],[],⟨#[]⟩)
theorem QgS {i:Nat} (h:i≤999):chk (undE i)=0:=by
 unfold chk
 rw [jTj (YC.2 ⟨by show (1:Int)≤(i:Int)+1;omega,by show (i:Int)+1≤1000;omega⟩)];rfl
theorem QgR (i:Nat):isU (undE i)=true:=by unfold isU kdE;exact jDj rfl
theorem QgE (i:Nat):Yf (undE i):=⟨show 4≤40 by decide,show 0≤6 by decide,show 0≤8 by decide,show 0≤200 by decide,fun s hs=>by cases hs⟩
theorem kwne {k j:Ki} (h:k≠j):kw k≠kw j:=fun e=>h (by have:=congrArg yJ e;rw [E7,E7] at this;exact Option.some.inj this)
theorem QfV (c:List Ev) (e:Ev):X7 (c++[e])=if e.2.1.data.toList=kw .deliver ∨ e.2.1.data.toList=kw .bill then 21 else 0:=by
 unfold X7
 rw [List.getLast?_append,List.getLast?_singleton];rfl
theorem QgJ (n:Nat) (l:List Ev) (hl:l.length≤30) (e:Ev):Qfh n (l.map Zr) e.1 e.2.1 (e.2.2.1.map Sd) (e.2.2.2.1.map I) e.2.2.2.2=some ((l++[e]).map Zr):=by
 unfold Qfh
 rw [jTj (V7 (by decide) (by rw [List.length_map];omega)),jTj (V7 (by decide) (by rw [List.length_map];omega)),List.map_append];rfl
theorem QgP {k:Ki} (h:k≠.bill) (r:Reg) (ns:List jSj) (vs:List Int):(act k r ns vs).money=r.money:=by
 cases k <;> first | rfl | exact absurd rfl h
theorem QgV {α:Type} {s:List α} {i:Nat} {x:α} (h:s[i]?=some x):s.set i x=s:=by
 obtain ⟨h1,h2⟩:=jGj h
 rw [← h2,List.set_getElem_self]
theorem Qg5 {os:List Off} {i:Nat} {o o' : Off} (h:os[i]?=some o) (hn:o'.1=o.1):nmO (os.set i o')=nmO os:=by
 unfold nmO
 rw [List.map_set]
 exact QgV (by rw [List.getElem?_map,h,hn];rfl)
theorem QgI {os:List Off} {a:jSj} (hh:Zu (nmO os) a=true) {o' : Off} (hn:o'.1=(oAt os a).1):Zu (nmO (os.set (iO os a) o')) a=true∧oAt (os.set (iO os a) o') a=o':=by
 obtain ⟨p1,p2,p3⟩:=JV hh
 have e:=Qg5 p3 hn
 refine ⟨by rw [e];exact hh,?_⟩
 unfold oAt
 rw [show iO (os.set (iO os a) o') a=iO os a by unfold iO;unfold iO at e;rw [e]]
 simp [List.getD,List.getElem?_set_self p2]
theorem Qgq (l:List Ev) (e:Ev):Qfi 1000 (l.map Zr) e.1 e.2.1 (e.2.2.1.map Sd) (e.2.2.2.1.map I) e.2.2.2.2=some true:=by
 unfold Qfi
 rw [show Qe7 1000 (l.map Zr) 18=_ from Qf9 (n:=1000) (by decide) l 18 (by decide),jBj]
 by_cases hB:okB l 18=true
 case neg=>rw [jFj hB];rfl
 obtain ⟨⟨hl,hs⟩,c,hr⟩:=QgZ hB
 rw [jTj hB]
 have hsh1:=wu (n:=1000) (by decide) [e] 1 (by decide)
 refine Eq.trans (congrArg (fun x=>Option.bind x _) hsh1) ?_
 rw [jBj]
 by_cases h1:([e]:List Ev).length≤1∧∀ x,x∈[e]→Yf x
 case neg=>rw [jFj (by simpa using h1)];rfl
 have he:Yf e:=h1.2 e (by simp)
 obtain ⟨hok,hcl⟩:=Qaq l [] 0 c Jx (jLj 0) hr
 have hinv:=GG hok (by omega)
 have hsec:=hinv.secs
 have hlm:=hinv.lenM
 have hlo:=hinv.lenO
 have g1:=Qfu (n:=1000) (by decide) l (by omega) hs
 have g2:=yp (n:=1000) (by decide) l (by omega) hs
 have g3:=Qf8 (n:=1000) (by decide) l (by omega) hs e he
 have g4:=QfF (n:=1000) (by decide) l (by omega) hs e he
 rw [hr] at g1 g2 g3 g4
 rw [Qf0] at g1 g2
 rw [jTj (jDj h1),g1,jBj,g2,jBj]
 dsimp only
 rw [jTj rfl,QgC (by decide) (by omega) (by omega),jBj]
 dsimp only
 rw [Qgj (by decide) (by omega) (by omega) (by omega),jBj,jTj rfl,g3,jBj]
 refine Eq.trans (congrArg (fun x=>if accD l.length e (.inr c)=0 then Option.bind x _ else _) g4) ?_
 show (if YM l.length c e=0 then (some (YM l.length c e)).bind _ else _)=_
 rw [jBj]
 by_cases hacc:YM l.length c e=0
 case neg=>rw [jFj hacc];rfl
 rw [jTj hacc,jTj hacc]
 obtain ⟨k,hg,hnum,hz⟩:=kJ hacc
 have hk:e.2.1.data.toList=kw k:=hg.kind
 by_cases hku:k=.undo
 ·subst hku
  rw [jTj (keq (l:=#[117,110,100,111]) hk rfl)];rfl
 rw [jFj (kne (l:=#[117,110,100,111]) hk (kwne hku)),QgJ 1000 l (by omega) e,jBj]
 have hul:¬ isU e=true:=by rw [KY hg];simpa using hku
 have hst:VO c e=c++[e]:=by unfold VO;rw [jFj hul]
 have hac:acc k (QD c) e.2.2.1 e.2.2.2.1=0:=by rw [jFj hul,Gq hg] at hz;exact hz
 have hdone:rep 0 [] (l++[e])=.inr (c++[e]):=by
  rw [Qgk,hr]
  dsimp only
  rw [Nat.zero_add,jTj hacc,hst]
 have hsd:∀ x,x∈l++[e]→Yf x:=fun x hx=>by
  rcases List.mem_append.1 hx with h | h
  ·exact hs x h
  ·rw [List.mem_singleton.1 h];exact he
 have hld:(l++[e]).length=l.length+1:=by rw [List.length_append];rfl
 have g5:=Qfu (n:=1000) (by decide) (l++[e]) (by omega) hsd
 rw [hdone,Qf0] at g5
 rw [g5,jBj,jTj (by rw [List.length_map,hld];unfold Qh;omega)]
 have hu:Qfh 1000 ((l++[e]).map Zr) ((((l++[e]).map Zr).length:Int)+1) (⟨#[117,110,100,111]⟩) ([]) ([]) (⟨#[]⟩)=some ((l++[e]++[undE (l++[e]).length]).map Zr):=by
  rw [List.length_map]
  exact QgJ 1000 (l++[e]) (by omega) (undE (l++[e]).length)
 rw [hu,jBj]
 have hsu:∀ x,x∈l++[e]++[undE (l++[e]).length]→Yf x:=fun x hx=>by
  rcases List.mem_append.1 hx with h | h
  ·exact hsd x h
  ·rw [List.mem_singleton.1 h];exact QgE _
 have g6:=Qfu (n:=1000) (by decide) (l++[e]++[undE (l++[e]).length]) (by rw [List.length_append,hld];show l.length+1+1≤30;omega) hsu
 have huz:YM (l++[e]).length (c++[e]) (undE (l++[e]).length)=X7 (c++[e]):=QcF (QgS (by omega)) rfl (QgR _)
 have hundo:rep 0 [] (l++[e]++[undE (l++[e]).length])=if X7 (c++[e])=0 then .inr c else .inl (((l++[e]).length:Int)+1,X7 (c++[e])):=by
  rw [Qgk,hdone]
  dsimp only
  rw [Nat.zero_add,huz]
  by_cases h:X7 (c++[e])=0
  ·rw [jTj h,jTj h]
   unfold VO
   rw [jTj (QgR _),List.dropLast_concat]
  ·rw [jFj h,jFj h]
 rw [hundo] at g6
 have hreg:QD (c++[e])=app k (QD c) e.2.2.1 e.2.2.2.1:=by rw [GA,XR hg]
 by_cases hkd:k=.deliver
 ·have hkd':=hkd
  have hkk:=hkd
  subst hkk
  obtain ⟨a,t,v1,hn1,hv1,ht0,ht1⟩:=Good.d12 (num:=e.1) (kind:=e.2.1) (names:=e.2.2.1) (vals:=e.2.2.2.1) (text:=e.2.2.2.2) hg rfl rfl
  have hv:=hg.val v1 (by rw [hv1];simp)
  rw [hn1,hv1] at hac
  obtain ⟨htk,hbk,hkn,hsp⟩:=QS hac
  obtain ⟨d1,d2,d3,d4⟩:=EO hsp
  have hk1:Zu (nmO (QD c).offers) a=true:=ZW hkn
  have hkn:QF (!Zu (nmO (QD c).offers) a) 10=0:=hkn
  have htk:¬ t < (QD c).tick:=htk
  have hbk:Zk (QD c) t=0:=hbk
  obtain ⟨hh3,ho3⟩:=QgI hk1 (o':=yO (oAt (QD c).offers a) v1) rfl
  have eo:(QD (c++[e])).offers=(QD c).offers.set (iO (QD c).offers a) (yO (oAt (QD c).offers a) v1):=by rw [hreg,hn1,hv1];rfl
  have el:(QD (c++[e])).light=(QD c).light+ZL (QD c) t:=by rw [hreg,hn1,hv1];rfl
  have b1:qz 1000 (l.map Zr) a=some (U5 (oAt (QD c).offers a),0):=by
   have:=QeH (n:=1000) (by decide) l (by omega) hs a
   rw [hr] at this
   exact this.trans (congrArg some (jTj hkn))
  have b2:JQ 1000 (l.map Zr) a=some (Ws (oAt (QD c).offers a),0):=by
   have:=QeG (n:=1000) (by decide) l (by omega) hs a
   rw [hr] at this
   exact this.trans (congrArg some (jTj hkn))
  have b3:JQ 1000 ((l++[e]).map Zr) a=some (Ws (yO (oAt (QD c).offers a) v1),0):=by
   have:=QeG (n:=1000) (by decide) (l++[e]) (by omega) hsd a
   rw [hdone] at this
   refine this.trans (congrArg some ?_)
   refine Eq.trans (jTj (by rw [eo,hh3];rfl)) ?_
   rw [eo,ho3]
  have b4:Yh 1000 (l.map Zr) t=some ((QD c).light+ZL (QD c) t,(QD c).heat+ZL (QD c) t,0):=by
   have:=yH (n:=1000) (by decide) l (by omega) hs t
   rw [hr] at this
   refine this.trans (congrArg some ?_)
   refine Eq.trans (jTj ?_) (jTj hbk)
   rw [YC.2 ⟨ht0,ht1⟩,jEj htk];rfl
  have hb:=hinv.heat
  have hbo:(QD c).light+ZL (QD c) t≤1000000000000000∧(QD c).heat+ZL (QD c) t≤1000000000000000:=by
   unfold Zk at hbk
   split at hbk
   ·assumption
   ·cases hbk
  have hgn:=(K4 hinv (by omega) (okt htk ⟨ht0,ht1⟩)).2
  have hokn:=Qem hinv hk1
  have hbb:=YF hokn
  have em:(QD (c++[e])).money=(QD c).money:=by rw [hreg,hn1,hv1];rfl
  have eh:(QD (c++[e])).heat=(QD c).heat+ZL (QD c) t - 1000000 * v1:=by rw [hreg,hn1,hv1];rfl
  have es:Ws (yO (oAt (QD c).offers a) v1)=Ws (oAt (QD c).offers a) - v1:=by unfold Ws yO;dsimp only;omega
  have hu1:X7 (c++[e])=21:=by rw [QfV,jTj (.inl hk)]
  rw [hu1,jFj (by decide),QgB] at g6
  rw [g6,jBj]
  dsimp only
  rw [jTj rfl,jFj (by rw [keq (l:=#[100,101,108,105,118,101,114]) hk rfl];decide),hn1,hv1]
  simp only [jCj,List.map_nil]
  rw [gs0,b1,jBj,b2,jBj,b3,jBj,gi0,b4,jBj]
  dsimp only
  have q0:(((l++[e]).length:Nat):Int)+1=((((l++[e]).map Zr).length:Nat):Int)+1:=by rw [List.length_map]
  have q1:=kne (l:=#[98,105,108,108]) hk (by decide)
  have q2:Qh (Ws (oAt (QD c).offers a) - v1):=by unfold Qh;omega
  have q3:Qh (1000000 * v1):=by unfold Qh;omega
  have q4:Qh ((QD c).heat+ZL (QD c) t - 1000000 * v1):=by unfold Qh;omega
  repeat (first | rw [jTj rfl] | rw [jTj trivial] | rw [jTj q0] | rw [jTj el] | rw [jFj q1] | rw [jTj em] | rw [gi1] | rw [jTj q2] | rw [jTj es] | rw [jTj q3] | rw [jTj q4] | rw [jTj eh])
  rfl
 ·by_cases hkb:k=.bill
  ·have hkb':=hkb
   have hkk:=hkb
   subst hkk
   obtain ⟨a,t,hn1,hv1,ht0,ht1⟩:=Good.d11 (num:=e.1) (kind:=e.2.1) (names:=e.2.2.1) (vals:=e.2.2.2.1) (text:=e.2.2.2.2) hg rfl rfl
   rw [hn1,hv1] at hac
   obtain ⟨htk,hbk,hkn,hsp⟩:=QS hac
   have hk1:Zu (nmO (QD c).offers) a=true:=ZW hkn
   have hkn:QF (!Zu (nmO (QD c).offers) a) 10=0:=hkn
   have htk:¬ t < (QD c).tick:=htk
   have hbk:Zk (QD c) t=0:=hbk
   obtain ⟨hh3,ho3⟩:=QgI hk1 (o':=GV (oAt (QD c).offers a)) rfl
   have eo:(QD (c++[e])).offers=(QD c).offers.set (iO (QD c).offers a) (GV (oAt (QD c).offers a)):=by rw [hreg,hn1,hv1];rfl
   have el:(QD (c++[e])).light=(QD c).light+ZL (QD c) t:=by rw [hreg,hn1,hv1];rfl
   have b1:qz 1000 (l.map Zr) a=some (U5 (oAt (QD c).offers a),0):=by
    have:=QeH (n:=1000) (by decide) l (by omega) hs a
    rw [hr] at this
    exact this.trans (congrArg some (jTj hkn))
   have b2:JQ 1000 (l.map Zr) a=some (Ws (oAt (QD c).offers a),0):=by
    have:=QeG (n:=1000) (by decide) l (by omega) hs a
    rw [hr] at this
    exact this.trans (congrArg some (jTj hkn))
   have b3:JQ 1000 ((l++[e]).map Zr) a=some (Ws (GV (oAt (QD c).offers a)),0):=by
    have:=QeG (n:=1000) (by decide) (l++[e]) (by omega) hsd a
    rw [hdone] at this
    refine this.trans (congrArg some ?_)
    refine Eq.trans (jTj (by rw [eo,hh3];rfl)) ?_
    rw [eo,ho3]
   have b4:Yh 1000 (l.map Zr) t=some ((QD c).light+ZL (QD c) t,(QD c).heat+ZL (QD c) t,0):=by
    have:=yH (n:=1000) (by decide) l (by omega) hs t
    rw [hr] at this
    refine this.trans (congrArg some ?_)
    refine Eq.trans (jTj ?_) (jTj hbk)
    rw [YC.2 ⟨ht0,ht1⟩,jEj htk];rfl
   have hb:=hinv.heat
   have hbo:(QD c).light+ZL (QD c) t≤1000000000000000∧(QD c).heat+ZL (QD c) t≤1000000000000000:=by
    unfold Zk at hbk
    split at hbk
    ·assumption
    ·cases hbk
   have hgn:=(K4 hinv (by omega) (okt htk ⟨ht0,ht1⟩)).2
   have hokn:=Qem hinv hk1
   have hbb:=YF hokn
   have em:(QD (c++[e])).money=(QD c).money+U5 (oAt (QD c).offers a):=by rw [hreg,hn1,hv1];rfl
   have eh:(QD (c++[e])).heat=(QD c).heat+ZL (QD c) t:=by rw [hreg,hn1,hv1];rfl
   have es:Ws (GV (oAt (QD c).offers a))=Ws (oAt (QD c).offers a):=rfl
   have hmo:=hinv.money
   have hu1:X7 (c++[e])=21:=by rw [QfV,jTj (.inr hk)]
   rw [hu1,jFj (by decide),QgB] at g6
   rw [g6,jBj]
   dsimp only
   rw [jTj rfl,jTj (by rw [Bool.not_eq_true'];exact Bool.not_eq_true _ ▸ kne (l:=#[100,101,108,105,118,101,114]) hk (by decide)),jFj (by rw [keq (l:=#[98,105,108,108]) hk rfl];decide),hn1,hv1]
   simp only [jCj,List.map_nil]
   rw [gs0,b1,jBj,b2,jBj,b3,jBj,gi0,b4,jBj]
   dsimp only
   have q0:(((l++[e]).length:Nat):Int)+1=((((l++[e]).map Zr).length:Nat):Int)+1:=by rw [List.length_map]
   have q1:=keq (l:=#[98,105,108,108]) hk rfl
   have q2:Qh ((QD c).money+U5 (oAt (QD c).offers a)):=by unfold Qh;omega
   repeat (first | rw [jTj rfl] | rw [jTj trivial] | rw [jTj q0] | rw [jTj el] | rw [jTj q1] | rw [jTj em] | rw [jTj q2] | rw [jTj es] | rw [jTj eh])
   rfl
  ·have hu0:X7 (c++[e])=0:=by
    rw [QfV,hk,jFj]
    rintro (h | h)
    ·exact kwne hkd h
    ·exact kwne hkb h
   rw [jTj hu0,Qf0] at g6
   rw [g6,jBj]
   dsimp only
   rw [jTj rfl]
   rw [jTj (by rw [Bool.not_eq_true'];exact Bool.not_eq_true _ ▸ kne (l:=#[100,101,108,105,118,101,114]) hk (kwne hkd)),jTj (by rw [Bool.not_eq_true'];exact Bool.not_eq_true _ ▸ kne (l:=#[98,105,108,108]) hk (kwne hkb))]
   rw [jTj rfl,QgC (by decide) (by omega) (by omega),jBj]
   dsimp only
   rw [Qgj (by decide) (by omega) (by omega) (by omega),jBj,jTj rfl,jTj (by rw [hreg];unfold app;rw [QgP hkb];rfl)];rfl
end Go.Proofs.YtljabneifpkbjaaGreatDoor
