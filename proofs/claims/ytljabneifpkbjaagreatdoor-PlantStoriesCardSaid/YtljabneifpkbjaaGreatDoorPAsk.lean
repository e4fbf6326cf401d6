/- Own texts, merged: PSam, PRgs, PAsk. -/
import Derived.Test.YtljabneifpkbjaaGreatDoorPCou
set_option linter.unusedVariables false
set_option linter.unusedSimpArgs false
set_option linter.unnecessarySimpa false
set_option maxRecDepth 20000
namespace Go.Proofs.YtljabneifpkbjaaGreatDoor
open Go.SX
theorem KL {n:Nat} (l:List ByteArray) (hl:l.length≤5000) (hn:l.length < n):Z5 n (l.map Sd) (l.map Sd)=some true:=by
 unfold Z5
 rw [if_pos rfl]
 have q:=ZK (step:=Wd n (l.map Sd) (l.map Sd)) (E:=Unit⊕Unit) (fun (_:Unit) (_:ByteArray)=>.inl ()) (fun _=>.inr ()) (fun i _=>(i:Int)) l (fun _ _=>True)
  (fun i _ s hx _=>by
   have hi:=(List.getElem?_eq_some_iff.1 hx).1
   refine ⟨?_,trivial⟩
   unfold Wd
   rw [if_pos (ZD hx),jH hx,Option.bind_some,Option.bind_some,if_neg (by rw [XZ];simp),if_pos (by unfold Qh;omega)];rfl)
  (fun s _=>by unfold Wd;rw [if_neg (by simp)]) (s:=()) (k:=n) trivial hn
 have e:∀ (l:List ByteArray),Y6 (E:=Unit⊕Unit) (fun (_:Unit) (_:ByteArray)=>.inl ()) (fun _=>.inr ()) l ()=.inr ():=by
  intro l
  induction l with
  | nil=>rfl
  | cons x l ih=>exact ih
 rw [e] at q
 rw [show Q2 (Wd n (l.map Sd) (l.map Sd)) n 0=_ from q]
 rfl
theorem Qeu {n:Nat} (l:List Int) (hl:l.length≤5000) (hn:l.length < n):Qd7 n (l.map I) (l.map I)=some true:=by
 unfold Qd7
 rw [if_pos rfl]
 have q:=ZK (step:=Qd2 n (l.map I) (l.map I)) (E:=Unit⊕Unit) (fun (_:Unit) (_:Int)=>.inl ()) (fun _=>.inr ()) (fun i _=>(i:Int)) l (fun _ _=>True)
  (fun i _ s hx _=>by
   have hi:=(List.getElem?_eq_some_iff.1 hx).1
   refine ⟨?_,trivial⟩
   unfold Qd2
   rw [if_pos (ZD hx),EM hx,Option.bind_some,Option.bind_some,if_pos rfl,if_pos (by unfold Qh;omega)];rfl)
  (fun s _=>by unfold Qd2;rw [if_neg (by simp)]) (s:=()) (k:=n) trivial hn
 have e:∀ (l:List Int),Y6 (E:=Unit⊕Unit) (fun (_:Unit) (_:Int)=>.inl ()) (fun _=>.inr ()) l ()=.inr ():=by
  intro l
  induction l with
  | nil=>rfl
  | cons x l ih=>exact ih
 rw [e] at q
 rw [show Q2 (Qd2 n (l.map I) (l.map I)) n 0=_ from q]
 rfl
theorem Qec {n:Nat} (l:List Ev) (hs:∀ e,e∈l→e.2.2.1.length≤60∧e.2.2.2.1.length≤60) (hl:l.length≤5000) (hn:l.length < n) (hn2:100≤n):Qd1 n (l.map Zr) (l.map Zr)=some true:=by
 unfold Qd1
 rw [if_pos rfl]
 have q:=ZK (step:=Qd0 n (l.map Zr) (l.map Zr)) (E:=Unit⊕Unit) (fun (_:Unit) (_:Ev)=>.inl ()) (fun _=>.inr ()) (fun i _=>(i:Int)) l (fun _ _=>True)
  (fun i _ e hx _=>by
   have hi:=(List.getElem?_eq_some_iff.1 hx).1
   obtain ⟨b1,b2⟩:=hs e (List.mem_of_getElem? hx)
   refine ⟨?_,trivial⟩
   unfold Qd0
   rw [if_pos (ZD hx),qf hx,Option.bind_some,Option.bind_some]
   dsimp only
   rw [if_pos rfl,if_neg (by rw [XZ];simp),KL _ (by omega) (by omega),Option.bind_some,if_pos rfl,Qeu _ (by omega) (by omega),Option.bind_some,if_pos rfl,if_neg (by rw [XZ];simp),if_pos (by unfold Qh;omega)];rfl)
  (fun s _=>by unfold Qd0;rw [if_neg (by simp)]) (s:=()) (k:=n) trivial hn
 have e:∀ (l:List Ev),Y6 (E:=Unit⊕Unit) (fun (_:Unit) (_:Ev)=>.inl ()) (fun _=>.inr ()) l ()=.inr ():=by
  intro l
  induction l with
  | nil=>rfl
  | cons x l ih=>exact ih
 rw [e] at q
 rw [show Q2 (Qd0 n (l.map Zr) (l.map Zr)) n 0=_ from q]
 rfl
end Go.Proofs.YtljabneifpkbjaaGreatDoor
set_option maxRecDepth 20000
namespace Go.Proofs.YtljabneifpkbjaaGreatDoor
open Go.SX
end Go.Proofs.YtljabneifpkbjaaGreatDoor
set_option maxRecDepth 20000
namespace Go.Proofs.YtljabneifpkbjaaGreatDoor
open Go.SX
def cg (a:ByteArray) (s:Int×Int) (m:Mir):Int×Int:=if m.2.1=a then (s.1+1,if isA m=true then s.2+1 else s.2) else s
def cntM (a:ByteArray) (ms:List Mir):Int×Int:=Y6 (E:=Int×Int) (fun s m=>.inl (cg a s m)) (fun s=>s) ms (0,0)
theorem QeN {a:ByteArray} {s:Int×Int} {m:Mir} {i:Nat} (h:(0≤s.1∧s.1≤(i:Int))∧0≤s.2∧s.2≤(i:Int)):(0≤(cg a s m).1∧(cg a s m).1≤((i+1:Nat):Int))∧0≤(cg a s m).2∧(cg a s m).2≤((i+1:Nat):Int):=by
 unfold cg
 split
 ·split
  ·simp only [Int.natCast_add,Int.natCast_one];omega
  ·simp only [Int.natCast_add,Int.natCast_one];omega
 ·simp only [Int.natCast_add,Int.natCast_one];omega
theorem QeM {n:Nat} (a:ByteArray) {a1 a2:List D} {a3 a4:Int} {a5 a6:Bool} {a7 a8 a9:Int} {a10 a12:List D} (ms:List Mir) (hl:ms.length≤4000) (hn:ms.length < n):VV n a a1 a2 a3 a4 a5 a6 a7 a8 a9 a10 (ms.map QY) a12=some (cntM a ms):=by
 unfold VV
 have q:=ZK (step:=Vu n a a1 a2 a3 a4 a5 a6 a7 a8 a9 a10 (ms.map QY) a12) (E:=Int×Int) (fun (s:Int×Int) (m:Mir)=>.inl (cg a s m)) (fun s=>s) (fun i s=>(((i:Int),s.1,s.2):Int×Int×Int)) ms (fun i s=>(0≤s.1∧s.1≤(i:Int))∧0≤s.2∧s.2≤(i:Int))
  (fun i s m hx hs=>by
   have hi:=(List.getElem?_eq_some_iff.1 hx).1
   refine ⟨?_,QeN hs⟩
   obtain ⟨⟨b1,b2⟩,b3,b4⟩:=hs
   unfold Vu
   dsimp only
   rw [if_pos (ZD hx),if_pos ⟨Int.natCast_nonneg i,ZD hx⟩,Q4 unM hx,Option.bind_some]
   by_cases hm:m.2.1=a
   ·rw [if_neg (by rw [XZ,decide_eq_true hm];decide),if_pos (by unfold Qh;omega)]
    by_cases ha:m.2.2.2.2.2=true
    ·rw [if_pos ha,if_pos (by unfold Qh;omega),if_pos (by unfold Qh;omega),show cg a s m=(s.1+1,s.2+1) from by unfold cg isA;rw [if_pos hm,if_pos ha]];rfl
    ·rw [if_neg ha,if_pos (by unfold Qh;omega),show cg a s m=(s.1+1,s.2) from by unfold cg isA;rw [if_pos hm,if_neg ha]];rfl
   ·rw [if_pos (by rw [XZ,decide_eq_false hm];rfl),if_pos (by unfold Qh;omega),show cg a s m=s from by unfold cg;rw [if_neg hm]];rfl)
  (fun s _=>by unfold Vu;dsimp only;rw [if_neg (by simp)]) (s:=(0,0)) (by simp) (k:=n) hn
 exact (congrArg (fun x:Option (Int×Int)=>x.bind fun t1=>some (t1.1,t1.2)) q)
theorem Qez (l:List ByteArray) (s:ByteArray):decide (YJ l s < 0)=!Zu l s:=by
 by_cases h:Zu l s=true
 ·rw [decide_eq_false (EY h),h];rfl
 ·rw [decide_eq_true (wh h)];simp at h;rw [h];rfl
theorem Qey {n:Nat} (hn:100≤n) (l:List Ev) (hl:l.length≤30) (hs:∀ e,e∈l→Yf e) (a:ByteArray):XD n (l.map Zr) a=some (match rep 0 [] l with
  | .inr c=>if QF (!Zu (QD c).sectors a) 10=0 then ((cntM a (QD c).mirrors).1,(cntM a (QD c).mirrors).2,0) else (0,0,QF (!Zu (QD c).sectors a) 10)
  | .inl p=>(0,0,p.2)):=by
 have h:=Xg hn l hl hs
 unfold XD
 cases hr:rep 0 [] l with
 | inl p =>
  obtain ⟨i,err⟩:=p
  rw [hr] at h
  obtain ⟨h1,w,h2⟩:=h
  rw [h2,Option.bind_some]
  dsimp only
  rw [if_neg h1]
 | inr c =>
  rw [hr] at h
  obtain ⟨h1,h2,h3⟩:=h
  have hinv:=GG h2 (by omega)
  have hls:=hinv.secs
  have hlm:=hinv.lenM
  rw [h1,Option.bind_some]
  dsimp only [Vb]
  rw [if_pos rfl,W4 _ _ (by omega) (by omega),Option.bind_some,Zd,Option.bind_some]
  by_cases hf:QF (!Zu (QD c).sectors a) 10=0
  ·rw [if_pos hf,if_pos hf,QeM a _ (by omega) (by omega),Option.bind_some]
  ·rw [if_neg hf,if_neg hf]
theorem Qem {r:Reg} {c:Nat} (hr:Inv c r) {a:ByteArray} (h:Zu (nmO r.offers) a=true):okO (oAt r.offers a):=hr.offs _ (List.mem_of_getElem? (JV h).2.2)
theorem QeG {n:Nat} (hn:100≤n) (l:List Ev) (hl:l.length≤30) (hs:∀ e,e∈l→Yf e) (a:ByteArray):JQ n (l.map Zr) a=some (match rep 0 [] l with
  | .inr c=>if QF (!Zu (nmO (QD c).offers) a) 10=0 then (Ws (oAt (QD c).offers a),0) else (0,QF (!Zu (nmO (QD c).offers) a) 10)
  | .inl p=>(0,p.2)):=by
 have h:=Xg hn l hl hs
 unfold JQ
 cases hr:rep 0 [] l with
 | inl p =>
  obtain ⟨i,err⟩:=p
  rw [hr] at h
  obtain ⟨h1,w,h2⟩:=h
  rw [h2,Option.bind_some]
  dsimp only
  rw [if_neg h1]
 | inr c =>
  rw [hr] at h
  obtain ⟨h1,h2,h3⟩:=h
  have hinv:=GG h2 (by omega)
  have hlo:=hinv.lenO
  rw [h1,Option.bind_some]
  dsimp only [Vb]
  rw [if_pos rfl,EC _ (by omega) (by omega),Option.bind_some,W4 _ _ (by rw [Vq];omega) (by rw [Vq];omega),Option.bind_some,Zd,Option.bind_some]
  by_cases hf:QF (!Zu (nmO (QD c).offers) a) 10=0
  ·have hh:=ZW hf
   obtain ⟨p1,p2,p3⟩:=JV hh
   rw [if_pos hf,if_pos hf,Wb _ _ (by rw [Vq];omega) (by rw [Vq];omega),Option.bind_some]
   refine Eq.trans (if_pos (uS p1 p2)) ?_
   rw [p1,Q4 unO p3,Option.bind_some,Qag n (Qem hinv hh),Option.bind_some]
  ·rw [if_neg hf,if_neg hf]
theorem QeH {n:Nat} (hn:100≤n) (l:List Ev) (hl:l.length≤30) (hs:∀ e,e∈l→Yf e) (a:ByteArray):qz n (l.map Zr) a=some (match rep 0 [] l with
  | .inr c=>if QF (!Zu (nmO (QD c).offers) a) 10=0 then (U5 (oAt (QD c).offers a),0) else (0,QF (!Zu (nmO (QD c).offers) a) 10)
  | .inl p=>(0,p.2)):=by
 have h:=Xg hn l hl hs
 unfold qz
 cases hr:rep 0 [] l with
 | inl p =>
  obtain ⟨i,err⟩:=p
  rw [hr] at h
  obtain ⟨h1,w,h2⟩:=h
  rw [h2,Option.bind_some]
  dsimp only
  rw [if_neg h1]
 | inr c =>
  rw [hr] at h
  obtain ⟨h1,h2,h3⟩:=h
  have hinv:=GG h2 (by omega)
  have hlo:=hinv.lenO
  rw [h1,Option.bind_some]
  dsimp only [Vb]
  rw [if_pos rfl,EC _ (by omega) (by omega),Option.bind_some,W4 _ _ (by rw [Vq];omega) (by rw [Vq];omega),Option.bind_some,Zd,Option.bind_some]
  by_cases hf:QF (!Zu (nmO (QD c).offers) a) 10=0
  ·have hh:=ZW hf
   obtain ⟨p1,p2,p3⟩:=JV hh
   rw [if_pos hf,if_pos hf,Wb _ _ (by rw [Vq];omega) (by rw [Vq];omega),Option.bind_some]
   refine Eq.trans (if_pos (uS p1 p2)) ?_
   rw [p1,Q4 unO p3,Option.bind_some,Qbp n (Qem hinv hh),Option.bind_some]
  ·rw [if_neg hf,if_neg hf]
def abtK (m s:ByteArray) (ns:List ByteArray):Ki→Bool
 | .sun=>true
 | .fill=>true
 | .drain=>true
 | .trip=>true
 | .reset=>true
 | .sector=>decide (ns.getD 0 ⟨#[]⟩=s)
 | .dim=>decide (ns.getD 0 ⟨#[]⟩=s)
 | .offer=>false
 | .deliver=>false
 | .bill=>false
 | _=>decide (ns.getD 0 ⟨#[]⟩=m)
def abt (m s:ByteArray) (e:Ev):Bool:=match yJ e.2.1.data.toList with
 | some k=>abtK m s e.2.2.1 k
 | none=>false
theorem el0 {l:List ByteArray} (h:0 < l.length):el Ww (l.map Sd) 0=some (l.getD 0 ⟨#[]⟩):=by
 cases l with
 | nil=>simp at h
 | cons a l=>rfl
theorem QeS {e:Ev} {k:Ki} (hg:Good e k) (m s:ByteArray):abt m s e=abtK m s e.2.2.1 k:=by
 unfold abt
 rw [hg.kind,E7]
theorem QeI (n:Nat) {e:Ev} {k:Ki} (hk:k≠.undo) (hg:Good e k) (m s:ByteArray):U9 n e.1 e.2.1 (e.2.2.1.map Sd) (e.2.2.2.1.map I) e.2.2.2.2 m s=some (abt m s e):=by
 rw [QeS hg]
 have h0:=hg.kind
 have hn:=hg.names
 unfold U9
 cases k
 case undo=>exact absurd rfl hk
 all_goals dsimp only [kw] at h0
 all_goals (repeat (first | rw [if_pos (keq h0 rfl)] | rw [if_neg (kne h0 (by decide))]))
 all_goals first | rfl | (rw [el0 (by rw [hn];decide),Option.bind_some,XZ];rfl)
def numF:Nat→List Ev→List Ev
 | _,[]=>[]
 | i,e::l=>((i:Int)+1,e.2)::numF (i+1) l
theorem QeE:∀ (l:List Ev) (i:Nat),(numF i l).length=l.length
 | [],_=>rfl
 | e::l,i=>by unfold numF;rw [List.length_cons,List.length_cons,QeE l]
theorem QeD:∀ (l:List Ev) (i:Nat) (x:Ev),x∈numF i l→∃ e,e∈l∧x.2=e.2
 | [],_,x,h=>by cases h
 | e::l,i,x,h=>by
  unfold numF at h
  rcases List.mem_cons.1 h with rfl | h
  ·exact ⟨e,List.mem_cons_self,rfl⟩
  ·obtain ⟨y,h1,h2⟩:=QeD l _ x h
   exact ⟨y,List.mem_cons_of_mem _ h1,h2⟩
theorem QeA:∀ (l s:List Ev),Y6 (E:=List D) (fun (s:List Ev) (e:Ev)=>.inl (s++[((s.length:Int)+1,e.2)])) (fun s=>s.map Zr) l s=(s++numF s.length l).map Zr
 | [],s=>by unfold Y6 numF;rw [List.append_nil]
 | e::l,s=>by
  show Y6 (E:=List D) (fun (s:List Ev) (e:Ev)=>.inl (s++[((s.length:Int)+1,e.2)])) (fun s=>s.map Zr) l (s++[((s.length:Int)+1,e.2)])=_
  rw [QeA l,List.length_append,List.length_singleton,List.append_assoc];rfl
theorem QeB (p:Ev→Bool):∀ (l s:List Ev),Y6 (E:=List D) (fun (s:List Ev) (e:Ev)=>.inl (if p e=true then s++[((s.length:Int)+1,e.2)] else s)) (fun s=>s.map Zr) l s=(s++numF s.length (l.filter p)).map Zr
 | [],s=>by unfold Y6;rw [List.filter_nil];unfold numF;rw [List.append_nil]
 | e::l,s=>by
  show Y6 (E:=List D) (fun (s:List Ev) (e:Ev)=>.inl (if p e=true then s++[((s.length:Int)+1,e.2)] else s)) (fun s=>s.map Zr) l (if p e=true then s++[((s.length:Int)+1,e.2)] else s)=_
  rw [QeB p l]
  by_cases h:p e=true
  ·rw [if_pos h,List.filter_cons_of_pos h,List.length_append,List.length_singleton,List.append_assoc];rfl
  ·rw [if_neg h,List.filter_cons_of_neg h]
theorem QeR (p:Ev→Bool):∀ (l:List Ev),(l.flatMap fun x=>if p x=true then [Zr x] else [])=(l.filter p).map Zr
 | []=>rfl
 | x::l=>by
  rw [List.flatMap_cons,QeR p l]
  by_cases h:p x=true
  ·rw [if_pos h,List.filter_cons_of_pos h];rfl
  ·rw [if_neg h,List.filter_cons_of_neg h];rfl
theorem QeQ {l:List Ev} {i:Nat} {e:Ev} (h:l[i]?=some e):(nth (l.map Zr) (Int.toNat (i:Int))).bind Ze=some (e.1,e.2.1,e.2.2.1.map Sd,e.2.2.2.1.map I,e.2.2.2.2):=by
 rw [Int.toNat_natCast,Ub,List.getElem?_map,h]
 rfl
theorem QeP {n:Nat} {c:List Ev} (hok:OkL c) (hc:c.length≤40) (hn:100≤n) (a:ByteArray) (t1:Int×Int×List D×List D×X1) (ht:t1.2.2.2.1=c.map Zr) (m:ByteArray×ByteArray×Int×Int×Bool×Bool) :
  Q2 (UJ n a t1 m) n (0,[])=some ((c.filter (abt a m.2.1)).map Zr):=by
 have q:=UV (step:=UJ n a t1 m) (E:=List D) (fun out=>out) c (fun x=>if abt a m.2.1 x=true then [Zr x] else []) (fun x=>by split <;> simp)
  (fun i out x hx ho=>by
   have hi:=(List.getElem?_eq_some_iff.1 hx).1
   obtain ⟨k,hk,hg,_⟩:=hok i x hx
   unfold UJ
   dsimp only
   rw [ht,if_pos (ZD hx),if_pos ⟨Int.natCast_nonneg i,ZD hx⟩,QeQ hx,Option.bind_some]
   dsimp only
   rw [QeI n hk hg,Option.bind_some]
   by_cases h:abt a m.2.1 x=true
   ·rw [if_pos h,if_pos h,if_pos (V7 (by decide) (by omega)),if_pos (by unfold Qh;omega)];rfl
   ·rw [if_neg h,if_neg h,if_pos (by unfold Qh;omega),List.append_nil];rfl)
  (fun out _=>by unfold UJ;dsimp only;rw [ht,if_neg (by simp)]) (k:=n) (by omega)
 rw [q,QeR]
theorem QeT {n:Nat} (l:List Ev) (hs:∀ e,e∈l→e.2.2.1.length≤60∧e.2.2.2.1.length≤60) (hl:l.length≤40) (hn:100≤n):Q2 (UI n (l.map Zr)) n (0,[])=some ((numF 0 l).map Zr):=by
 have q:=ZK (step:=UI n (l.map Zr)) (E:=List D) (fun (s:List Ev) (e:Ev)=>.inl (s++[((s.length:Int)+1,e.2)])) (fun s=>s.map Zr) (fun i s=>((i:Int),s.map Zr)) l (fun i s=>s.length=i)
  (fun i s e hx hi=>by
   have hlt:=(List.getElem?_eq_some_iff.1 hx).1
   obtain ⟨b1,b2⟩:=hs e (List.mem_of_getElem? hx)
   refine ⟨?_,by show (s++[((s.length:Int)+1,e.2)]).length=i+1;rw [List.length_append,hi];rfl⟩
   unfold UI
   dsimp only
   rw [if_pos (ZD hx),if_pos ⟨Int.natCast_nonneg i,ZD hx⟩,QeQ hx,Option.bind_some]
   dsimp only
   rw [if_pos (by rw [List.length_map];omega),if_pos (by rw [List.length_map];omega),if_pos (by rw [List.length_map];unfold Qh;omega),if_pos (V7 (by decide) (by rw [List.length_map];omega)),if_pos (by unfold Qh;omega),uF,uF,List.length_map,List.map_append];rfl)
  (fun s _=>by unfold UI;dsimp only;rw [if_neg (by simp)]) (s:=[]) rfl (k:=n) (by omega)
 rw [QeA] at q
 exact q
theorem QeV (k:Ki):kn k≤60:=by cases k <;> decide
theorem QeU (k:Ki):kv k≤60:=by cases k <;> decide
theorem QeJ {c:List Ev} (hok:OkL c):∀ e,e∈c→e.2.2.1.length≤60∧e.2.2.2.1.length≤60:=fun e he=>by
 obtain ⟨i,hi⟩:=List.getElem?_of_mem he
 obtain ⟨k,_,hg,_⟩:=hok i e hi
 rw [hg.names,hg.vals]
 exact ⟨QeV k,QeU k⟩
theorem QeL {ms:List Mir} {a:ByteArray} (h:Zu (nmM ms) a=true):(mAt ms a).1=a:=by
 obtain ⟨p1,p2,p3⟩:=WP h
 obtain ⟨i,hi⟩:=Option.isSome_iff_exists.1 (show (pos (nmM ms) a).isSome=true from h)
 have e:iM ms a=i:=by unfold iM;rw [hi];rfl
 obtain ⟨h1,h2⟩:=wB hi
 rw [← e] at h2
 unfold nmM at h2
 rw [List.getElem?_map,p3] at h2
 exact Option.some.inj h2
def stoN (c:List Ev) (a:ByteArray):List Ev:=numF 0 (c.filter (abt a (mAt (QD c).mirrors a).2.1))
theorem QeF {n:Nat} (hn:100≤n) (l:List Ev) (hl:l.length≤30) (hs:∀ e,e∈l→Yf e) (a:ByteArray):Ei n (l.map Zr) a=some (match rep 0 [] l with
  | .inr c=>if QF (!Zu (nmM (QD c).mirrors) a) 10=0 then ((stoN c a).map Zr,0) else ([],QF (!Zu (nmM (QD c).mirrors) a) 10)
  | .inl p=>([],p.2)):=by
 have h:=Xg hn l hl hs
 unfold Ei
 cases hr:rep 0 [] l with
 | inl p =>
  obtain ⟨i,err⟩:=p
  rw [hr] at h
  obtain ⟨h1,w,h2⟩:=h
  rw [h2,Option.bind_some]
  dsimp only
  rw [if_neg h1]
 | inr c =>
  rw [hr] at h
  obtain ⟨h1,h2,h3⟩:=h
  have hinv:=GG h2 (by omega)
  have hlm:=hinv.lenM
  rw [h1,Option.bind_some,if_pos rfl]
  show _=some (if QF (!Zu (nmM (QD c).mirrors) a) 10=0 then ((stoN c a).map Zr,(0:Int)) else (([]:List D),QF (!Zu (nmM (QD c).mirrors) a) 10))
  refine Eq.trans (congrArg (fun x=>Option.bind x _) (UC (QD c).mirrors (by omega) (by omega))) ?_
  rw [Option.bind_some,W4 _ _ (by rw [Zo];omega) (by rw [Zo];omega),Option.bind_some,Zd,Option.bind_some]
  by_cases hf:QF (!Zu (nmM (QD c).mirrors) a) 10=0
  ·have hh:=ZW hf
   obtain ⟨p1,p2,p3⟩:=WP hh
   rw [if_pos hf,if_pos hf,Wb _ _ (by rw [Zo];omega) (by rw [Zo];omega),Option.bind_some]
   refine Eq.trans (if_pos (Jl p1 p2)) ?_
   rw [p1]
   refine Eq.trans (congrArg (fun x=>Option.bind x _) (Q4 unM p3)) ?_
   rw [Option.bind_some,QeP h2 (by omega) hn a _ rfl,Option.bind_some,QeT _ (fun e he=>QeJ h2 e (List.mem_filter.1 he).1) (by have:=List.length_filter_le (abt a (mAt (QD c).mirrors a).2.1) c;omega) hn,Option.bind_some];rfl
  ·rw [if_neg hf,if_neg hf]
end Go.Proofs.YtljabneifpkbjaaGreatDoor
