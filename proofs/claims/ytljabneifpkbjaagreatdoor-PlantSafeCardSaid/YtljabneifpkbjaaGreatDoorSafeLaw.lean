/- The plain law of PlantSafe: what an accepted list leads to is safe, and its books are right. An own text. -/
import Derived.Test.YtljabneifpkbjaaGreatDoorSafe1
import Derived.Test.YtljabneifpkbjaaGreatDoorPAcd
set_option linter.unusedVariables false
set_option linter.unusedSimpArgs false
set_option linter.unnecessarySimpa false
set_option maxRecDepth 20000
namespace Go.Proofs.YtljabneifpkbjaaGreatDoor
open Go.SX
def takF (o:Off):Int:=1000000 * o.2.2.2.2.2.1
def monF (o:Off):Int:=if o.2.2.2.2.2.2=true then 3 * o.2.2.2.2.1 * o.2.2.2.2.2.1 - 2 * o.2.2.2.2.1 * o.2.2.2.1 else 0
def sumO (f:Off→Int):List Off→Int
 | []=>0
 | o::l=>f o+sumO f l
def QfW (l:List Off):Int:=sumO takF l
def Qf5 (l:List Off):Int:=sumO monF l
theorem Qgn (f:Off→Int):∀ (l m:List Off),sumO f (l++m)=sumO f l+sumO f m
 | [],m=>by show sumO f m=0+sumO f m;rw [Int.zero_add]
 | o::l,m=>by show f o+sumO f (l++m)=f o+sumO f l+sumO f m;rw [Qgn f l,Int.add_assoc]
theorem QfD (f:Off→Int) {o o' : Off}:∀ {l:List Off} {i:Nat},l[i]?=some o→sumO f (l.set i o')=sumO f l - f o+f o'
 | [],i,h=>by simp at h
 | x::l,0,h=>by
  cases h
  show f o'+sumO f l=f o+sumO f l - f o+f o'
  omega
 | x::l,i+1,h=>by
  show f x+sumO f (l.set i o')=f x+sumO f l - f o+f o'
  rw [QfD f (by simpa using h)];omega
theorem Qgp:∀ (l:List Off) (s:Int×Int),Y6 (E:=Int×Int) (fun (s:Int×Int) (o:Off)=>.inl (s.1+takF o,s.2+monF o)) (fun s=>s) l s=(s.1+QfW l,s.2+Qf5 l)
 | [],s=>by show s=(s.1+0,s.2+0);rw [Int.add_zero,Int.add_zero]
 | o::l,s=>by
  show Y6 (E:=Int×Int) (fun (s:Int×Int) (o:Off)=>.inl (s.1+takF o,s.2+monF o)) (fun s=>s) l (s.1+takF o,s.2+monF o)=(s.1+(takF o+sumO takF l),s.2+(monF o+sumO monF l))
  rw [Qgp l]
  show (s.1+takF o+sumO takF l,s.2+monF o+sumO monF l)=_
  rw [Int.add_assoc,Int.add_assoc]
structure SafeR (r:Reg):Prop where
 aim:∀ m,m∈r.mirrors→isA m=true→r.filled=true∧r.tripped=false∧m.2.2.2.2.1=false
 lig:r.light=r.heat+QfW r.offers
 mon:r.money=Qf5 r.offers
theorem QgM:SafeR Reg.zero:=⟨fun _ hm=>(List.not_mem_nil hm).elim,rfl,rfl⟩
theorem Qfa {r:Reg} (h:SafeR r) (t:Int):SafeR (bkd r t):=⟨h.aim,by
 have:=h.lig
 show r.light+ZL r t=r.heat+ZL r t+QfW r.offers
 omega,h.mon⟩
theorem Qft {q:Reg} (h:SafeR q) (a:jSj) {m:Mir} (hm:isA m=true→q.filled=true∧q.tripped=false∧m.2.2.2.2.1=false):SafeR (chgM q a m) :=
 ⟨fun x hx ha=>by
  rcases List.mem_or_eq_of_mem_set hx with h1 | h1
  ·exact h.aim x h1 ha
  ·subst h1;exact hm ha,h.lig,h.mon⟩
theorem QgW {q:Reg} (h:SafeR q) (f:Mir→Mir) (hf:∀ m,isA (f m)=true→isA m=true∧(f m).2.2.2.2.1=m.2.2.2.2.1):SafeR { q with mirrors:=q.mirrors.map f } :=
 ⟨fun x hx ha=>by
  obtain ⟨y,hy,rfl⟩:=List.mem_map.1 hx
  obtain ⟨h1,h2⟩:=hf y ha
  rw [h2]
  exact h.aim y hy h1,h.lig,h.mon⟩
theorem Qgl {ms:List Mir} {a:jSj} (h:Zu (nmM ms) a=true):mAt ms a∈ms:=List.mem_of_getElem? (WP h).2.2
theorem Qg0 (o:Off):U5 o=3 * o.2.2.2.2.1 * o.2.2.2.2.2.1 - 2 * o.2.2.2.2.1 * o.2.2.2.1:=by
 unfold U5 Ws
 rw [Int.mul_sub,Int.mul_assoc 3,Int.mul_assoc 2 _ o.2.2.2.2.2.1]
 omega
theorem QgX {r:Reg} (hr:SafeR r) {num:Int} {kind text:jSj} {names:List jSj} {vals:List Int} :
  ∀ {k:Ki},Good (num,kind,names,vals,text) k→acc k r names vals=0→SafeR (app k r names vals)
 | .sector,hg,ha=>⟨hr.aim,(Qfa hr (vals.getD 0 0)).lig,hr.mon⟩
 | .mirror,hg,ha=>by
  refine ⟨fun m hm h=>?_,(Qfa hr (vals.getD 0 0)).lig,hr.mon⟩
  rcases List.mem_append.1 hm with h1 | h1
  ·exact hr.aim m h1 h
  ·rw [List.mem_singleton.1 h1] at h;cases h
 | .soil,hg,ha=>by
  obtain ⟨a,t,v,rfl,rfl,htv⟩:=hg.d12 rfl rfl
  have hk:Zu (nmM r.mirrors) a=true:=ZW (QS ha).2.2.1
  exact Qft (Qfa hr t) a fun h=>hr.aim (mAt r.mirrors a) (Qgl hk) h
 | .clean,hg,ha=>by
  obtain ⟨a,t,rfl,rfl,htv⟩:=hg.d11 rfl rfl
  have hk:Zu (nmM r.mirrors) a=true:=ZW (QS ha).2.2.1
  exact Qft (Qfa hr t) a fun h=>hr.aim (mAt r.mirrors a) (Qgl hk) h
 | .defect,hg,ha=>by
  obtain ⟨a,t,rfl,rfl,htv⟩:=hg.d11 rfl rfl
  have hsp:Qt [QF (mAt r.mirrors a).2.2.2.2.1 9,QF (mAt r.mirrors a).2.2.2.2.2 31]=0:=(QS ha).2.2.2
  have h0:=YT (e:=31) (by decide) (Zv hsp (QF (mAt r.mirrors a).2.2.2.2.2 31) (by simp))
  exact Qft (Qfa hr t) a fun h=>by
   have h:(mAt r.mirrors a).2.2.2.2.2=true:=h
   rw [h0] at h;cases h
 | .repair,hg,ha=>by
  obtain ⟨a,t,rfl,rfl,htv⟩:=hg.d11 rfl rfl
  have hk:Zu (nmM r.mirrors) a=true:=ZW (QS ha).2.2.1
  exact Qft (Qfa hr t) a fun h=>⟨(hr.aim (mAt r.mirrors a) (Qgl hk) h).1,(hr.aim (mAt r.mirrors a) (Qgl hk) h).2.1,rfl⟩
 | .aim,hg,ha=>by
  obtain ⟨a,t,rfl,rfl,htv⟩:=hg.d11 rfl rfl
  have hsp:Qt [QF (!r.filled) 30,QF r.tripped 29,QF (mAt r.mirrors a).2.2.2.2.1 21,QF (mAt r.mirrors a).2.2.2.2.2 9]=0:=(QS ha).2.2.2
  have h1:=YT (e:=30) (by decide) (Zv hsp (QF (!r.filled) 30) (by simp))
  have h2:=YT (e:=29) (by decide) (Zv hsp (QF r.tripped 29) (by simp))
  have h3:=YT (e:=21) (by decide) (Zv hsp (QF (mAt r.mirrors a).2.2.2.2.1 21) (by simp))
  exact Qft (Qfa hr t) a fun _=>⟨(by simpa using h1:r.filled=true),h2,h3⟩
 | .park,hg,ha=>by
  obtain ⟨a,t,rfl,rfl,htv⟩:=hg.d11 rfl rfl
  exact Qft (Qfa hr t) a fun h=>by cases h
 | .dim,hg,ha=>QgW (Qfa hr _) _ fun m h=>by
  unfold EN at h ⊢
  split at h
  ·cases h
  ·rename_i hne
   rw [jFj hne];exact ⟨h,rfl⟩
 | .sun,hg,ha=>⟨hr.aim,(Qfa hr (vals.getD 0 0)).lig,hr.mon⟩
 | .fill,hg,ha=>⟨fun m hm h=>⟨rfl,(hr.aim m hm h).2⟩,(Qfa hr (vals.getD 0 0)).lig,hr.mon⟩
 | .drain,hg,ha=>by
  have hsp:Qt [QF (!r.filled) 22,QF (r.mirrors.any isA) 31]=0:=(QS ha).2.2.2
  have h0:=YT (e:=31) (by decide) (Zv hsp (QF (r.mirrors.any isA) 31) (by simp))
  refine ⟨fun m hm h=>?_,(Qfa hr (vals.getD 0 0)).lig,hr.mon⟩
  have:r.mirrors.any isA=true:=List.any_eq_true.2 ⟨m,hm,h⟩
  rw [h0] at this;cases this
 | .trip,hg,ha=>by
  refine ⟨fun m hm h=>?_,(Qfa hr (vals.getD 0 0)).lig,hr.mon⟩
  obtain ⟨y,hy,rfl⟩:=List.mem_map.1 hm
  cases h
 | .reset,hg,ha=>⟨fun m hm h=>⟨(hr.aim m hm h).1,rfl,(hr.aim m hm h).2.2⟩,(Qfa hr (vals.getD 0 0)).lig,hr.mon⟩
 | .offer,hg,ha=>by
  refine ⟨hr.aim,?_,?_⟩
  ·have:=(Qfa hr (vals.getD 0 0)).lig
   show r.light+ZL r (vals.getD 0 0)=r.heat+ZL r (vals.getD 0 0)+sumO takF (r.offers++[(names.getD 0 ⟨#[]⟩,vals.getD 1 0,vals.getD 2 0,vals.getD 3 0,vals.getD 4 0,0,false)])
   rw [Qgn,show sumO takF [(names.getD 0 ⟨#[]⟩,vals.getD 1 0,vals.getD 2 0,vals.getD 3 0,vals.getD 4 0,0,false)]=0 from rfl,Int.add_zero]
   exact this
  ·have:=hr.mon
   show r.money=sumO monF (r.offers++[(names.getD 0 ⟨#[]⟩,vals.getD 1 0,vals.getD 2 0,vals.getD 3 0,vals.getD 4 0,0,false)])
   rw [Qgn,show sumO monF [(names.getD 0 ⟨#[]⟩,vals.getD 1 0,vals.getD 2 0,vals.getD 3 0,vals.getD 4 0,0,false)]=0 from rfl,Int.add_zero]
   exact this
 | .deliver,hg,ha=>by
  obtain ⟨a,t,v,rfl,rfl,htv⟩:=hg.d12 rfl rfl
  obtain ⟨_,_,hkn,hsp⟩:=QS ha
  obtain ⟨d1,d2,d3,d4⟩:=EO hsp
  have hk:Zu (nmO r.offers) a=true:=ZW hkn
  have p3:=(JV hk).2.2
  refine ⟨hr.aim,?_,?_⟩
  ·have:=hr.lig
   show r.light+ZL r t=r.heat+ZL r t - 1000000 * v+sumO takF (r.offers.set (iO r.offers a) (yO (oAt r.offers a) v))
   rw [QfD takF p3,show takF (yO (oAt r.offers a) v)=takF (oAt r.offers a)+1000000 * v by unfold takF yO;dsimp only;rw [Int.mul_add]]
   unfold QfW at this
   omega
  ·have:=hr.mon
   show r.money=sumO monF (r.offers.set (iO r.offers a) (yO (oAt r.offers a) v))
   rw [QfD monF p3,show monF (yO (oAt r.offers a) v)=0 by unfold monF yO;dsimp only;rw [d1];rfl,show monF (oAt r.offers a)=0 by unfold monF;rw [d1];rfl]
   unfold Qf5 at this
   omega
 | .bill,hg,ha=>by
  obtain ⟨a,t,rfl,rfl,htv⟩:=hg.d11 rfl rfl
  obtain ⟨_,_,hkn,hsp⟩:=QS ha
  have d1:=Qg1 hsp
  have hk:Zu (nmO r.offers) a=true:=ZW hkn
  have p3:=(JV hk).2.2
  refine ⟨hr.aim,?_,?_⟩
  ·have:=hr.lig
   show r.light+ZL r t=r.heat+ZL r t+sumO takF (r.offers.set (iO r.offers a) (GV (oAt r.offers a)))
   rw [QfD takF p3,show takF (GV (oAt r.offers a))=takF (oAt r.offers a) from rfl]
   unfold QfW at this
   omega
  ·have:=hr.mon
   show r.money+U5 (oAt r.offers a)=sumO monF (r.offers.set (iO r.offers a) (GV (oAt r.offers a)))
   rw [QfD monF p3,show monF (GV (oAt r.offers a))=U5 (oAt r.offers a) by rw [Qg0];rfl,show monF (oAt r.offers a)=0 by unfold monF;rw [d1];rfl]
   unfold Qf5 at this
   omega
 | .undo,hg,ha=>Qfa hr _
theorem QgD {l:List Ev} (h:OkL l):∀ j,j≤l.length→SafeR (QD (l.take j))
 | 0,_=>by rw [List.take_zero];exact QgM
 | j+1,hj=>by
  have ih:=QgD h j (by omega)
  have hx:=List.getElem?_eq_getElem (l:=l) (i:=j) (by omega)
  obtain ⟨k,h1,h2,h3⟩:=h j _ hx
  rw [List.take_succ_eq_append_getElem (by omega),GA,XR h2]
  exact QgX ih h2 h3
theorem Qgt (k:Ki) (r:Reg) (ns:List jSj) (vs:List Int):(act k r ns vs).tick=r.tick:=by
 cases k <;> (unfold act;try rfl)
theorem QgQ (k:Ki) (r:Reg) (ns:List jSj) (vs:List Int):(act k r ns vs).light=r.light:=by
 cases k <;> (unfold act;try rfl)
theorem Qgy {k:Ki} (h:k≠.undo):0 < kv k:=by cases k <;> first | decide | exact absurd rfl h
theorem eli0 {l:List Int} (h:0 < l.length):el Vt (l.map I) 0=some (l.getD 0 0):=by
 cases l with
 | nil=>simp at h
 | cons a l=>rfl
theorem Qg9 {n:Nat} (hn:100≤n) {a0:jVj} {ta4:Int×Int} {r:Reg} {c:Nat} (hr:Inv c r) (hc:c≤40) (hs:SafeR r):Q2 (Qe2 n a0 (r.tick,r.level,r.filled,r.tripped,r.light,r.heat,r.money,r.sectors.map Sd,r.mirrors.map QY,r.offers.map Zj,0,0) ta4) n (0,0)=some (wz r):=by
 have hlm:=hr.lenM
 have q:=ZK (step:=Qe2 n a0 (r.tick,r.level,r.filled,r.tripped,r.light,r.heat,r.money,r.sectors.map Sd,r.mirrors.map QY,r.offers.map Zj,0,0) ta4) (rG r.level) (fun s=>s) (fun i s=>((s,(i:Int)):Int×Int)) r.mirrors (fun i s=>0≤s∧s≤100000000 * (i:Int))
  (fun i s m hx hsb=>by
   have hi:=(jGj hx).1
   have hm:=List.mem_of_getElem? hx
   obtain ⟨b1,b2,b3⟩:=EU hr.level (hr.mirs m hm)
   have hm2:=(hr.mirs m hm).2
   unfold rG
   refine ⟨?_,?_⟩
   ·unfold Qe2
    dsimp only
    rw [jTj (ZD hx),Xr unM hx,jBj]
    unfold yh isA
    by_cases ha:m.2.2.2.2.2=true
    ·obtain ⟨f1,f2,f3⟩:=hs.aim m hm ha
     rw [jTj ha,jTj ha,jTj f1,jFj (by rw [f2];decide),jFj (by rw [f3];decide),jTj (by unfold Qh;omega),jTj (by unfold Qh;omega),jTj (by unfold Qh;omega),jTj (by unfold Qh;omega),jTj (by unfold Qh;omega)];rfl
    ·rw [jFj ha,jFj ha,jTj (by unfold Qh;omega),Int.add_zero];rfl
   ·simp only [Int.natCast_add,Int.natCast_one];omega)
  (fun s _=>by unfold Qe2;dsimp only;rw [jFj (by simp)]) (s:=0) (by simp) (k:=n) (by omega)
 rw [XK,Int.zero_add] at q
 exact q
theorem Qg7 {n:Nat} (hn:100≤n) {a0:jVj} {sa:Int×Int×jRj} {ta4:Int×Int} {r:Reg} {c:Nat} (hr:Inv c r) (hc:c≤40) (hs:SafeR r):Q2 (Qe0 n a0 sa (r.tick,r.level,r.filled,r.tripped,r.light,r.heat,r.money,r.sectors.map Sd,r.mirrors.map QY,r.offers.map Zj,0,0) ta4) n (0,0)=some (wz r):=by
 have hlm:=hr.lenM
 have q:=ZK (step:=Qe0 n a0 sa (r.tick,r.level,r.filled,r.tripped,r.light,r.heat,r.money,r.sectors.map Sd,r.mirrors.map QY,r.offers.map Zj,0,0) ta4) (rG r.level) (fun s=>s) (fun i s=>((s,(i:Int)):Int×Int)) r.mirrors (fun i s=>0≤s∧s≤100000000 * (i:Int))
  (fun i s m hx hsb=>by
   have hi:=(jGj hx).1
   have hm:=List.mem_of_getElem? hx
   obtain ⟨b1,b2,b3⟩:=EU hr.level (hr.mirs m hm)
   have hm2:=(hr.mirs m hm).2
   unfold rG
   refine ⟨?_,?_⟩
   ·unfold Qe0
    dsimp only
    rw [jTj (ZD hx),Xr unM hx,jBj]
    unfold yh isA
    by_cases ha:m.2.2.2.2.2=true
    ·obtain ⟨f1,f2,f3⟩:=hs.aim m hm ha
     rw [jTj ha,jTj ha,jTj f1,jFj (by rw [f2];decide),jFj (by rw [f3];decide),jTj (by unfold Qh;omega),jTj (by unfold Qh;omega),jTj (by unfold Qh;omega),jTj (by unfold Qh;omega),jTj (by unfold Qh;omega)];rfl
    ·rw [jFj ha,jFj ha,jTj (by unfold Qh;omega),Int.add_zero];rfl
   ·simp only [Int.natCast_add,Int.natCast_one];omega)
  (fun s _=>by unfold Qe0;dsimp only;rw [jFj (by simp)]) (s:=0) (by simp) (k:=n) (by omega)
 rw [XK,Int.zero_add] at q
 exact q
theorem Qg8 {n:Nat} (hn:100≤n) {a0:jVj} {ta4:Int×Int} {ta16:Int} {r:Reg} {c:Nat} (hr:Inv c r) (hc:c≤40):Q2 (Qe1 n a0 (r.tick,r.level,r.filled,r.tripped,r.light,r.heat,r.money,r.sectors.map Sd,r.mirrors.map QY,r.offers.map Zj,0,0) ta4 ta16) n (0,0,0)=some (QfW r.offers,Qf5 r.offers):=by
 have hlo:=hr.lenO
 have q:=ZK (step:=Qe1 n a0 (r.tick,r.level,r.filled,r.tripped,r.light,r.heat,r.money,r.sectors.map Sd,r.mirrors.map QY,r.offers.map Zj,0,0) ta4 ta16) (E:=Int×Int) (fun (s:Int×Int) (o:Off)=>.inl (s.1+takF o,s.2+monF o)) (fun s=>s) (fun i s=>((s.1,s.2,(i:Int)):Int×Int×Int)) r.offers (fun i s=>(0≤s.1∧s.1≤1000000000 * (i:Int))∧-(2000000 * (i:Int))≤s.2∧s.2≤3000000 * (i:Int))
  (fun i s o hx hsb=>by
   have hi:=(jGj hx).1
   obtain ⟨k1,k2,k3⟩:=hr.offs o (List.mem_of_getElem? hx)
   obtain ⟨⟨s1,s2⟩,s3,s4⟩:=hsb
   have m1:=wF (g:=3 * o.2.2.2.2.1) (c:=o.2.2.2.2.2.1) (p:=3000) (q:=1000) (by omega) (by omega)
   have m2:=wF (g:=2 * o.2.2.2.2.1) (c:=o.2.2.2.1) (p:=2000) (q:=1000) (by omega) (by omega)
   refine ⟨?_,?_⟩
   ·unfold Qe1
    dsimp only
    rw [jTj (ZD hx),Xr unO hx,jBj,jFj (by omega),jFj (by omega),jTj (by unfold Qh;omega),jTj (by unfold Qh;omega)]
    unfold monF
    by_cases hb:o.2.2.2.2.2.2=true
    ·rw [jTj hb,jTj hb,jTj (by unfold Qh;omega),jTj (by unfold Qh;omega),jTj (by unfold Qh;omega),jTj (by unfold Qh;omega),jTj (by unfold Qh;omega),jTj (by unfold Qh;omega),jTj (by unfold Qh;omega)];rfl
    ·rw [jFj hb,jFj hb,jTj (by unfold Qh;omega),Int.add_zero];rfl
   ·show (0≤s.1+takF o∧s.1+takF o≤1000000000 * ((i+1:Nat):Int))∧-(2000000 * ((i+1:Nat):Int))≤s.2+monF o∧s.2+monF o≤3000000 * ((i+1:Nat):Int)
    unfold takF monF
    split <;> (simp only [Int.natCast_add,Int.natCast_one];omega))
  (fun s _=>by unfold Qe1;dsimp only;rw [jFj (by simp)]) (s:=(0,0)) (by simp) (k:=n) (by omega)
 rw [Qgp,Int.zero_add,Int.zero_add] at q
 exact q
theorem Qg6 {n:Nat} (hn:100≤n) {a0:jVj} {sa:Int×Int×jRj} {ta4:Int×Int} {ta16:Int} {r:Reg} {c:Nat} (hr:Inv c r) (hc:c≤40):Q2 (QeZ n a0 sa (r.tick,r.level,r.filled,r.tripped,r.light,r.heat,r.money,r.sectors.map Sd,r.mirrors.map QY,r.offers.map Zj,0,0) ta4 ta16) n (0,0,0)=some (QfW r.offers,Qf5 r.offers):=by
 have hlo:=hr.lenO
 have q:=ZK (step:=QeZ n a0 sa (r.tick,r.level,r.filled,r.tripped,r.light,r.heat,r.money,r.sectors.map Sd,r.mirrors.map QY,r.offers.map Zj,0,0) ta4 ta16) (E:=Int×Int) (fun (s:Int×Int) (o:Off)=>.inl (s.1+takF o,s.2+monF o)) (fun s=>s) (fun i s=>((s.1,s.2,(i:Int)):Int×Int×Int)) r.offers (fun i s=>(0≤s.1∧s.1≤1000000000 * (i:Int))∧-(2000000 * (i:Int))≤s.2∧s.2≤3000000 * (i:Int))
  (fun i s o hx hsb=>by
   have hi:=(jGj hx).1
   obtain ⟨k1,k2,k3⟩:=hr.offs o (List.mem_of_getElem? hx)
   obtain ⟨⟨s1,s2⟩,s3,s4⟩:=hsb
   have m1:=wF (g:=3 * o.2.2.2.2.1) (c:=o.2.2.2.2.2.1) (p:=3000) (q:=1000) (by omega) (by omega)
   have m2:=wF (g:=2 * o.2.2.2.2.1) (c:=o.2.2.2.1) (p:=2000) (q:=1000) (by omega) (by omega)
   refine ⟨?_,?_⟩
   ·unfold QeZ
    dsimp only
    rw [jTj (ZD hx),Xr unO hx,jBj,jFj (by omega),jFj (by omega),jTj (by unfold Qh;omega),jTj (by unfold Qh;omega)]
    unfold monF
    by_cases hb:o.2.2.2.2.2.2=true
    ·rw [jTj hb,jTj hb,jTj (by unfold Qh;omega),jTj (by unfold Qh;omega),jTj (by unfold Qh;omega),jTj (by unfold Qh;omega),jTj (by unfold Qh;omega),jTj (by unfold Qh;omega),jTj (by unfold Qh;omega)];rfl
    ·rw [jFj hb,jFj hb,jTj (by unfold Qh;omega),Int.add_zero];rfl
   ·show (0≤s.1+takF o∧s.1+takF o≤1000000000 * ((i+1:Nat):Int))∧-(2000000 * ((i+1:Nat):Int))≤s.2+monF o∧s.2+monF o≤3000000 * ((i+1:Nat):Int)
    unfold takF monF
    split <;> (simp only [Int.natCast_add,Int.natCast_one];omega))
  (fun s _=>by unfold QeZ;dsimp only;rw [jFj (by simp)]) (s:=(0,0)) (by simp) (k:=n) (by omega)
 rw [Qgp,Int.zero_add,Int.zero_add] at q
 exact q
theorem Qgx:∀ (a b cnt:List Ev) (i:Nat) (c:List Ev),rep i cnt (a++b)=.inr c→(∀ e,e∈a→¬ isU e=true)→rep i cnt a=.inr (cnt++a)
 | [],b,cnt,i,c,_,_=>by show Sum.inr cnt=_;rw [List.append_nil]
 | e::a,b,cnt,i,c,h,hu=>by
  rw [List.cons_append] at h
  unfold rep at h ⊢
  by_cases he:YM i cnt e=0
  ·rw [jTj he] at h ⊢
   have hs:VO cnt e=cnt++[e]:=by unfold VO;rw [jFj (hu e jMj)]
   rw [hs] at h ⊢
   rw [Qgx a b _ _ c h fun x hx=>hu x (List.mem_cons_of_mem _ hx),List.append_assoc];rfl
  ·rw [jFj he] at h;cases h
theorem QgL {n:Nat} (l:List Ev) (hl:l.length≤40) (hn:100≤n):Q2 (QeX n (l.map Zr)) n 0=some (if l.any isU=true then .inl true else .inr ()):=by
 have q:=ZK (step:=QeX n (l.map Zr)) (E:=Bool⊕Unit) (fun (_:Unit) (e:Ev)=>if isU e=true then .inr (.inl true) else .inl ()) (fun _=>.inr ()) (fun i _=>(i:Int)) l (fun _ _=>True)
  (fun i _ e hx _=>by
   have hi:=(jGj hx).1
   by_cases hu:isU e=true
   ·rw [jTj hu]
    show QeX n (l.map Zr) (i:Int)=_
    unfold QeX
    rw [jTj (ZD hx),qf hx,jBj]
    dsimp only
    rw [jTj (by rw [kq];exact qM (of_decide_eq_true hu))];rfl
   ·rw [jFj hu]
    refine ⟨?_,trivial⟩
    unfold QeX
    rw [jTj (ZD hx),qf hx,jBj]
    dsimp only
    rw [jFj (by rw [kq];intro h;exact hu (jDj (show yJ e.2.1.data.toList=some .undo by rw [h];rfl))),jTj (by unfold Qh;omega)];rfl)
  (fun _ _=>by unfold QeX;rw [jFj (by simp)]) (s:=()) (k:=n) trivial (by omega)
 have e:∀ l:List Ev,Y6 (E:=Bool⊕Unit) (fun (_:Unit) (e:Ev)=>if isU e=true then .inr (.inl true) else .inl ()) (fun _=>.inr ()) l ()=if l.any isU=true then .inl true else .inr ():=by
  intro l
  induction l with
  | nil=>rfl
  | cons x l ih =>
   unfold Y6
   by_cases hu:isU x=true
   ·rw [jTj hu,List.any_cons,hu];rfl
   ·rw [jFj hu,List.any_cons]
    dsimp only
    rw [ih]
    simp only [Bool.not_eq_true] at hu
    rw [hu,Bool.false_or]
 rw [e] at q
 exact q
theorem QgN {n:Nat} (hn:100≤n) (l:List Ev) (hl:l.length≤20) (hs:∀ e,e∈l→Yf e) (hr:rep 0 [] l=.inr l) (hu:∀ e,e∈l→¬ isU e=true):Q2 (QeW n (l.map Zr)) n (.inl ())=some ():=by
 obtain ⟨hok,_⟩:=Qaq l [] 0 l Jx (jLj 0) hr
 have q:=ZK (step:=QeW n (l.map Zr)) (E:=Unit) (fun (_:Unit) (_:Ev)=>.inl ()) (fun _=>()) (fun i _=>if i=0 then .inl () else .inr (wz (QD (l.take i)),(i:Int),Vb (QD (l.take i)))) l (fun _ _=>True)
  (fun i _ e hx _=>by
   obtain ⟨hi,hx2⟩:=jGj hx
   obtain ⟨k,hk,hg,ha⟩:=hok i e hx
   have hinv0:=yw hok (by omega) i (by omega)
   have hinv:=yw hok (by omega) (i+1) (by omega)
   have hsf:=QgD hok (i+1) (by omega)
   have hst:QD (l.take (i+1))=app k (QD (l.take i)) e.2.2.1 e.2.2.2.1:=by
    rw [List.take_succ_eq_append_getElem hi,hx2,GA,XR hg]
   have htl:(l.take (i+1)).length≤30:=by rw [List.length_take];omega
   have hrp:rep 0 [] (l.take (i+1))=.inr (l.take (i+1)):=by
    have:=Qgx (l.take (i+1)) (l.drop (i+1)) [] 0 l (by rw [List.take_append_drop];exact hr) fun x hx=>hu x (List.mem_of_mem_take hx)
    rwa [List.nil_append] at this
   have hss:∀ x,x∈l.take (i+1)→Yf x:=fun x hx=>hs x (List.mem_of_mem_take hx)
   have g1:=Qfu hn (l.take (i+1)) htl hss
   have g2:=QaF hn (l.take (i+1)) htl hss
   rw [hrp] at g1 g2
   rw [Qf0] at g1
   have g2:Uq n ((l.take (i+1)).map Zr)=some (wz (QD (l.take (i+1))),0):=g2
   have hcut:((l.map Zr).take (i+1)).drop (Int.toNat 0)=(l.take (i+1)).map Zr:=by rw [show Int.toNat 0=0 from rfl,List.drop_zero,List.map_take]
   have hv:el Vt (e.2.2.2.1.map I) 0=some (e.2.2.2.1.getD 0 0):=eli0 (by rw [hg.vals];exact Qgy hk)
   have ht:(QD (l.take (i+1))).tick=e.2.2.2.1.getD 0 0:=by rw [hst];unfold app;rw [Qgt];rfl
   have hlg:(QD (l.take (i+1))).light=(QD (l.take i)).light+wz (QD (l.take i)) * ((QD (l.take (i+1))).tick - (QD (l.take i)).tick):=by
    rw [ht,hst];unfold app;rw [QgQ];rfl
   have hle:¬ e.2.2.2.1.getD 0 0 < (QD (l.take i)).tick:=(QS ha).1
   have hgb:=K4 hinv0 (by omega) (t:=(QD (l.take (i+1))).tick) ⟨by rw [ht];omega,hinv.tick.2⟩
   have hgb2:0≤wz (QD (l.take i)) * ((QD (l.take (i+1))).tick - (QD (l.take i)).tick)∧wz (QD (l.take i)) * ((QD (l.take (i+1))).tick - (QD (l.take i)).tick)≤4000000000000000000:=hgb.2
   have ht1:=hinv.tick
   have ht0:=hinv0.tick
   have hl1:=hinv.light
   have hh1:=hinv.heat
   have hlM:=hinv.lenM
   have hlO:=hinv.lenO
   have hsl:=hsf.lig
   refine ⟨?_,trivial⟩
   rw [jFj (Nat.succ_ne_zero i)]
   by_cases h0:i=0
   ·subst h0
    rw [jTj rfl]
    unfold QeW
    dsimp only
    rw [jTj (show (0:Int) < ((l.map Zr).length:Int) from ZD hx),jTj ⟨Int.le_refl 0,by decide,by rw [List.length_map];omega,.inr rfl⟩]
    rw [show ((l.map Zr).take (Int.toNat 1)).drop (Int.toNat 0)=(l.take (0+1)).map Zr from hcut,g1,jBj,g2,jBj]
    have hz:(QD (l.take 0))=Reg.zero:=rfl
    rw [hz] at hlg
    have hlg:(QD (l.take (0+1))).light=0+0 * ((QD (l.take (0+1))).tick - 0):=hlg
    dsimp only
    rw [jTj rfl,jTj rfl,jFj (by rw [List.length_map];omega),jFj (by rw [List.length_map];omega),show el Ze (l.map Zr) 0=_ from qf (i:=0) hx,jBj]
    dsimp only
    rw [hv,jBj,jTj ht,jTj (by unfold Qh;omega),jTj (by unfold Qh;omega),jTj (by unfold Qh;omega),jTj hlg,Qg9 hn hinv (by omega) hsf,jBj,Qg8 hn hinv (by omega),jBj,jTj rfl,jTj (by unfold Qh;omega),jTj hsl,jFj (by omega),jTj hsf.mon];rfl
   ·rw [jFj h0]
    show QeW n (l.map Zr) (.inr (wz (QD (l.take i)),(i:Int),(QD (l.take i)).tick,(QD (l.take i)).level,(QD (l.take i)).filled,(QD (l.take i)).tripped,(QD (l.take i)).light,(QD (l.take i)).heat,(QD (l.take i)).money,(QD (l.take i)).sectors.map Sd,(QD (l.take i)).mirrors.map QY,(QD (l.take i)).offers.map Zj))=_
    unfold QeW
    dsimp only
    rw [jTj (ZD hx),jTj (by unfold Qh;omega),jTj ⟨Int.le_refl 0,by omega,by rw [List.length_map];omega,.inr rfl⟩]
    rw [show Int.toNat ((i:Int)+1)=i+1 by omega,hcut,g1,jBj,g2,jBj]
    dsimp only
    rw [jTj rfl,jTj rfl,jFj (by rw [List.length_map];omega),jFj (by rw [List.length_map];omega),qf hx,jBj]
    dsimp only
    rw [hv,jBj,jTj ht,jTj (by unfold Qh;omega),jTj (by unfold Qh;omega),jTj (by unfold Qh;omega),jTj hlg,Qg7 hn hinv (by omega) hsf,jBj,Qg6 hn hinv (by omega),jBj,jTj rfl,jTj (by unfold Qh;omega),jTj hsl,jFj (by omega),jTj hsf.mon];rfl)
  (fun _ _=>by
   by_cases hm:l=[]
   ·subst hm;rfl
   ·have hl0:¬ l.length=0:=fun h=>hm (List.eq_nil_of_length_eq_zero h)
    rw [jFj hl0]
    unfold QeW
    dsimp only
    rw [jFj (by simp)]) (s:=()) (k:=n) trivial (by omega)
 have e:∀ l:List Ev,Y6 (E:=Unit) (fun (_:Unit) (_:Ev)=>.inl ()) (fun _=>()) l ()=():=fun _=>rfl
 rw [e] at q
 exact q
theorem Qgv (l:List Ev):Qfj 1000 (l.map Zr)=some true:=by
 unfold Qfj
 rw [show Qe7 1000 (l.map Zr) 20=_ from Qf9 (n:=1000) (by decide) l 20 (by decide),jBj]
 by_cases hB:okB l 20=true
 case neg=>rw [jFj hB];rfl
 obtain ⟨⟨hl,hs⟩,c,hr⟩:=QgZ hB
 rw [jTj hB,QgL l (by omega) (by decide),jBj]
 by_cases hu:l.any isU=true
 ·rw [jTj hu]
 ·rw [jFj hu]
  dsimp only
  have hu2:∀ e,e∈l→¬ isU e=true:=fun e he h=>hu (List.any_eq_true.2 ⟨e,he,h⟩)
  have hr2:rep 0 [] l=.inr l:=by
   have:=Qgx l [] [] 0 c (by rw [List.append_nil];exact hr) hu2
   rwa [List.nil_append] at this
  rw [QgN (by decide) l hl hs hr2 hu2,jBj];rfl
end Go.Proofs.YtljabneifpkbjaaGreatDoor
