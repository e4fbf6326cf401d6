/- A drawn region, in whatever order: what its records say. -/
import Derived.Test.YtljabneifpkbjaaGreatDoorSxFifteen
set_option linter.unusedSimpArgs false
namespace Go.SX
theorem GI {p:Rec→Bool} {hp:List (Nat×Blk)} {b:Nat} {R:Rec} {k:Blk} (hR:look R.up b=some k) (hpR:p R=true):∀ (recs:List Rec),recs.Pairwise (fun x y=>y.i < x.i)→R∈recs →
  (∀ r,r∈recs→p r=true→look r.up b≠none→r.i≤R.i)→look (Wx (recs.filter p)++hp) b=some k
 | [],_,h,_=>by simp at h
 | r::l,hs,h,hno=>by
  rw [List.filter_cons]
  rw [List.pairwise_cons] at hs
  by_cases hr:r=R
  ·subst hr
   rw [jTj hpR]
   simp only [Wx,List.append_assoc];rw [Wl,hR]
  ·have hm:R∈l:=by simpa [Ne.symm hr] using h
   have hlt:=hs.1 R hm
   have ih:=GI (hp:=hp) hR hpR l hs.2 hm (fun r' h'=>hno r' (List.mem_cons_of_mem _ h'))
   split
   ·rename_i hp'
    simp only [Wx,List.append_assoc];rw [Wl]
    cases hu:look r.up b with
    | none=>exact ih
    | some k' =>
     have:=hno r jMj hp' (by rw [hu];simp)
     omega
   ·exact ih
theorem zD {p:Rec→Bool} {tm:List (Nat×AV)} {t:Nat} {R:Rec} (hR:R.dst=some t) (hpR:p R=true):∀ (recs:List Rec),recs.Pairwise (fun x y=>y.i < x.i)→R∈recs →
  (∀ r,r∈recs→p r=true→r.dst=some t→r.i≤R.i)→look (VX (recs.filter p)++tm) t=some R.val
 | [],_,h,_=>by simp at h
 | r::l,hs,h,hno=>by
  rw [List.filter_cons]
  rw [List.pairwise_cons] at hs
  by_cases hr:r=R
  ·subst hr
   rw [jTj hpR]
   simp only [VX,hR,List.cons_append,Qd]
  ·have hm:R∈l:=by simpa [Ne.symm hr] using h
   have hlt:=hs.1 R hm
   have ih:=zD (tm:=tm) hR hpR l hs.2 hm (fun r' h'=>hno r' (List.mem_cons_of_mem _ h'))
   split
   ·rename_i hp'
    simp only [VX]
    split
    ·rename_i u hu
     rw [List.cons_append,Qc]
     ·exact ih
     ·intro e;subst e
      have:=hno r jMj hp' hu
      omega
    ·exact ih
   ·exact ih
theorem VA {hp:List (Nat×Blk)} {b:Nat}:WZ hp b=true↔look hp b≠none:=by
 unfold WZ
 cases look hp b <;> simp
theorem KT {α:Type} {l:List (Nat×α)} {b:Nat} (h:look l b≠none):∃ x,(b,x)∈l:=by
 induction l with
 | nil=>exact absurd rfl h
 | cons p l ih =>
  obtain ⟨k,x⟩:=p
  by_cases hk:k=b
  ·subst hk;exact ⟨x,jMj⟩
  ·rw [Qc _ _ hk] at h
   obtain ⟨y,hy⟩:=ih h
   exact ⟨y,List.mem_cons_of_mem _ hy⟩
structure DOk (ops:Array Oper) (masks:List Nat) (base:Nat) (s:St) (recs:List Rec):Prop where
 spec:∀ (j:Nat) (o:Oper),nth ops.toList j=some o→W1 masks j=QaD masks o j∧(∀ e,e∈o.after.toList→Region.binds .any e=true→e.on < j)
 trans:∀ j,j < ops.toList.length→∀ i,i < j→(W1 masks j).testBit i=true→∀ q,(W1 masks i).testBit q=true→(W1 masks j).testBit q=true
 tmps:∀ i j,i < ops.toList.length→j < ops.toList.length→KB ops masks i j=true
 blks:∀ r q,r∈recs→q∈recs→JL ops masks base r q=true
 names:∀ r,r∈recs→∀ b,look r.up b≠none→(b=base+r.i∧look s.hp b=none) ∨ (b≠base+r.i∧(look s.hp b≠none ∨ (∃ i,i < r.i∧b=base+i∧ZS masks i r.i=true) ∨ base+ops.toList.length≤b))
 free:∀ i,i < ops.toList.length→look s.hp (base+i)=none
 touch:∀ r,r∈recs→Ky base r=true→Yj ops r.i=true
 dst:∀ r,r∈recs→∀ d,r.dst=some d→d < s.nt
 pivs:∀ r,r∈recs→r.piv=true→∀ q,q∈recs→q.i=r.i ∨ ZS masks q.i r.i=true ∨ ZS masks r.i q.i=true ∨ q.up=[]
theorem uY {ops:Array Oper} {masks:List Nat} {base:Nat} {s:St} {recs:List Rec} (h:yN ops masks base s recs=true):DOk ops masks base s recs:=by
 simp only [yN,jAj] at h
 obtain ⟨⟨⟨⟨⟨⟨⟨⟨h1,h2⟩,h3⟩,h4⟩,h5⟩,h6⟩,h8⟩,h9⟩,h10⟩:=h
 have hm:∀ j,j < ops.toList.length→∃ o,nth ops.toList j=some o∧W1 masks j=QaD masks o j∧(∀ e,e∈o.after.toList→Region.binds .any e=true→e.on < j) ∧
   ∀ i,i < j→(W1 masks j).testBit i=true→(W1 masks i &&& W1 masks j)=W1 masks i:=by
  intro j hj
  simp only [Qbj,List.all_eq_true,List.mem_range] at h2
  have:=h2 j hj
  split at this
  ·rename_i o ho
   simp only [jAj,List.all_eq_true,List.mem_range] at this
   refine ⟨o,ho,ZZ this.1.1,fun e he hb=>?_,fun i hi hb=>?_⟩
   ·have:=this.1.2 e he
    rw [hb] at this;simpa using this
   ·have:=this.2 i hi
    rw [hb] at this;simpa using this
  ·cases this
 refine ⟨fun j o ho=>?_,fun j hj i hi hb q hq=>?_,fun i j hi hj=>?_,fun r q hr hq=>?_,fun r hr b hb=>?_,fun i hi=>?_,fun r hr hw=>?_,fun r hr d hd=>?_,fun r hr hp q hq=>?_⟩
 ·have hj:j < ops.toList.length:=by rw [ZR] at ho;exact (jGj ho).1
  obtain ⟨o',ho',h1,h2,_⟩:=hm j hj
  rw [ho] at ho';cases ho'
  exact ⟨h1,h2⟩
 ·obtain ⟨o',ho',_,_,h3⟩:=hm j hj
  have:=h3 i hi hb
  rw [← this,Nat.testBit_and,jAj] at hq
  exact hq.2
 ·simp only [List.all_eq_true,List.mem_range] at h3
  exact h3 i hi j hj
 ·simp only [List.all_eq_true,Bool.or_eq_true,Bool.not_eq_true'] at h4
  rcases h4 r hr with h | h
  ·rcases h4 q hq with h' | h'
   ·simp [JL,h,h']
   ·have:=h' r hr
    unfold JL at this ⊢
    simp only [Bool.or_eq_true,jAj] at this ⊢
    rcases this with ((a | a) | a) | a
    ·exact .inl (.inl (.inr a))
    ·exact .inl (.inl (.inl a))
    ·exact .inl (.inr (by have:=Nat.eq_of_beq_eq_true a;rw [this];exact Nat.beq_refl _))
    ·exact .inr ⟨a.2,a.1⟩
  ·exact h q hq
 ·simp only [List.all_eq_true] at h5
  obtain ⟨k,hk⟩:=KT hb
  have:=h5 r hr _ hk
  simp only at this
  split at this
  ·rename_i he
   refine .inl ⟨ZZ he,?_⟩
   simp only [Bool.not_eq_true'] at this
   cases hl:look s.hp b with
   | none=>rfl
   | some x=>simp [WZ,hl] at this
  ·rename_i he
   refine .inr ⟨fun e=>(by rw [← e,Nat.beq_refl] at he;cases he),?_⟩
   simp only [Bool.or_eq_true,List.any_eq_true,List.mem_range,jAj] at this
   rcases this with (h | ⟨i,hi,hbi,hmi⟩) | h
   ·exact .inl (VA.1 h)
   ·exact .inr (.inl ⟨i,hi,ZZ hbi,hmi⟩)
   ·exact .inr (.inr (Nat.le_of_ble_eq_true h.2))
 ·rw [Bool.or_eq_true] at h6
  rcases h6 with h6 | h6
  ·cases hl:look s.hp (base+i) with
   | none=>rfl
   | some x =>
    obtain ⟨y,hy⟩:=KT (l:=s.hp) (b:=base+i) (by rw [hl];simp)
    simp only [VU,List.all_eq_true] at h6
    have:=h6 _ hy
    simp only [Nat.blt_eq] at this
    omega
  ·simp only [List.all_eq_true,List.mem_range] at h6
   have:=h6 i hi
   simp only [Bool.not_eq_true'] at this
   cases hl:look s.hp (base+i) with
   | none=>rfl
   | some x=>simp [WZ,hl] at this
 ·simp only [List.all_eq_true] at h8
  have:=h8 r hr
  rw [hw] at this;simpa using this
 ·simp only [List.all_eq_true] at h9
  have:=h9 r hr
  rw [hd] at this
  simpa using this
 ·simp only [List.all_eq_true] at h10
  have:=h10 r hr
  simp only [hp,Bool.not_true,Bool.false_or,List.all_eq_true,Bool.or_eq_true] at this
  rcases this q hq with ((h | h) | h) | h
  ·exact .inl (ZZ h)
  ·exact .inr (.inl h)
  ·exact .inr (.inr (.inl h))
  ·exact .inr (.inr (.inr (List.isEmpty_iff.1 h)))
theorem Q5 {masks:List Nat} {i j:Nat}:ZS masks i j=(W1 masks j).testBit i:=by
 unfold ZS W1
 cases nth masks j <;> simp
theorem EI (masks:List Nat) (j:Nat) (i:Nat):∀ (l:List Edge) (m:Nat),(l.foldl (fun s e=>match Region.binds .any e && Nat.blt e.on j with
  | true=>s ||| (2 ^ e.on ||| (match nth masks e.on with | some m=>m | none=>0))
  | false=>s) m).testBit i=true→m.testBit i=true ∨ ∃ e,e∈l∧Region.binds .any e=true∧e.on < j∧(e.on=i ∨ (W1 masks e.on).testBit i=true)
 | [],m,h=>.inl h
 | e::l,m,h=>by
  simp only [List.foldl_cons] at h
  rcases EI masks j i l _ h with h | ⟨e',h1,h2⟩
  ·split at h
   ·rename_i hc
    simp only [jAj] at hc
    rw [Nat.testBit_or,Nat.testBit_or] at h
    simp only [Bool.or_eq_true] at h
    rcases h with h | h | h
    ·exact .inl h
    ·rw [Nat.testBit_two_pow] at h
     exact .inr ⟨e,jMj,hc.1,by simpa using hc.2,.inl (of_decide_eq_true h)⟩
    ·exact .inr ⟨e,jMj,hc.1,by simpa using hc.2,.inr h⟩
   ·exact .inl h
  ·exact .inr ⟨e',List.mem_cons_of_mem _ h1,h2⟩
theorem Ue {ops:Array Oper} {masks:List Nat} {base:Nat} {s:St} {recs:List Rec} (hd:DOk ops masks base s recs):∀ (j:Nat),j < ops.toList.length→∀ i,(W1 masks j).testBit i=true→i < j:=by
 intro j
 induction j using Nat.strongRecOn with
 | _ j ih =>
  intro hj i hi
  obtain ⟨o,ho⟩:∃ o,nth ops.toList j=some o:=⟨ops.toList[j],by rw [ZR];simp [hj]⟩
  rw [(hd.spec j o ho).1] at hi
  rcases EI masks j i _ 0 hi with h | ⟨e,_,_,h3,h4⟩
  ·simp at h
  ·rcases h4 with h4 | h4
   ·omega
   ·have:=ih e.on h3 (by omega) i h4;omega
theorem QaC {ops:Array Oper} {masks:List Nat} {base:Nat} {s:St} {recs:List Rec} (hd:DOk ops masks base s recs) {S:Nat→Bool} (hclo:∀ j,S j=true→∀ i,ZS masks i j=true→S i=true) {j:Nat} {o:Oper}
  (ho:nth ops.toList j=some o) (hr:∀ e,e∈o.after.toList→Region.binds .any e=true→S e.on=true):∀ i,ZS masks i j=true→S i=true:=by
 intro i hi
 rw [Q5,(hd.spec j o ho).1] at hi
 rcases EI masks j i _ 0 hi with h | ⟨e,h1,h2,h3,h4⟩
 ·simp at h
 ·rcases h4 with h4 | h4
  ·rw [← h4];exact hr e h1 h2
  ·exact hclo e.on (hr e h1 h2) i (by rw [Q5];exact h4)
section
variable {cx:Cx} {F:Nat→Prop} {ρ0:Nat→Value} {w0:World} {ops:Array Oper} {masks:List Nat} {base:Nat} {s:St} {recs:List Rec}
def hpS (s:St) (recs:List Rec) (S:Nat→Bool):List (Nat×Blk):=Wx (recs.filter fun r=>S r.i)++s.hp
def tmS (s:St) (recs:List Rec) (S:Nat→Bool):List (Nat×AV):=VX (recs.filter fun r=>S r.i)++s.tm
structure DInv (cx:Cx) (ops:Array Oper) (ds0:List Deferred) (F:Nat→Prop) (ρ0:Nat→Value) (w0:World) (masks:List Nat) (s:St) (recs:List Rec) (S:Nat→Bool) (a:Act) (w:World):Prop where
 clo:∀ j,S j=true→∀ i,ZS masks i j=true→S i=true
 old:∀ t x,look s.tm t=some x→(∀ r,r∈recs→S r.i=true→r.dst≠some t)→VR w0 (MM F s.hp ρ0) s.hp ρ0 x (a.tmps.getD t undef)
 mov:∀ r,r∈recs→S r.i=true→∀ p t0 t x,nth ops.toList r.i=some p→p.op=.move (.tmp t0)→p.guard=none→p.dst=some t→(∀ q,q∈recs→q.i < r.i→q.dst≠some t0)→(∀ q,q∈recs→S q.i=true→q.dst=some t→q.i=r.i)→look s.tm t0=some x→VR w0 (MM F s.hp ρ0) s.hp ρ0 x (a.tmps.getD t undef)
 sim:∃ ρ,HSim cx F (hpS s recs S) ρ w∧TSim F (tmS s recs S) (hpS s recs S) ρ a w∧a.tmps.size=s.nt∧a.defers=ds0∧Steps1 s.hp ρ0 w0 (hpS s recs S) ρ w
structure Recs (cx:Cx) (call:Kj) (yc:Yz) (ops:Array Oper) (masks:List Nat) (base:Nat) (s:St) (recs:List Rec) (n:Nat):Prop where
 sorted:recs.Pairwise fun x y=>y.i < x.i
 lt:∀ r,r∈recs→r.i < n
 all:∀ j,j < n→∃ r,r∈recs∧r.i=j
 told:∀ r,r∈recs→∃ orc ob o',Xc cx call yc ops masks base s r.i (recs.filter fun q=>Nat.blt q.i r.i) orc=some (r,ob,o')∧∀ p,p∈ob→p
theorem Recs.uniq {call:Kj} {yc:Yz} {n:Nat} (h:Recs cx call yc ops masks base s recs n) {r q:Rec} (hr:r∈recs) (hq:q∈recs) (he:r.i=q.i):r=q:=by
 have hs:=h.sorted
 clear h
 induction recs with
 | nil=>simp at hr
 | cons x l ih =>
  rw [List.pairwise_cons] at hs
  rcases List.mem_cons.1 hr with rfl | hr' <;> rcases List.mem_cons.1 hq with rfl | hq'
  ·rfl
  ·have:=hs.1 q hq';omega
  ·have:=hs.1 r hr';omega
  ·exact ih hr' hq' hs.2
theorem qU {r:Rec} {t:Nat}:kM r t=true↔r.dst=some t:=by
 unfold kM
 cases h:r.dst with
 | none=>simp
 | some d=>simp
theorem wG {t:Nat}:∀ {l:List Rec} {r:Rec},yC t l=some r→r∈l∧r.dst=some t
 | [],r,h=>by cases h
 | q::l,r,h=>by
  unfold yC at h
  cases hq:kM q t with
  | true =>
   rw [hq] at h
   cases h
   exact ⟨jMj,qU.1 hq⟩
  | false =>
   rw [hq] at h
   obtain ⟨h1,h2⟩:=wG h
   exact ⟨List.mem_cons_of_mem _ h1,h2⟩
theorem U0 {H:List (Nat×Blk)} {nm i:Nat} {dst:Option Tmp} {p:Nat×Blk} {rc:RC} {R:Rec} {ob:List Prop} {o' : List Orc} (h:wS H nm i dst p rc=some (R,ob,o')) :
  ∃ b k,p=(b,k)∧R={ i,dst,val:=.own nm 0,up:=[(nm,stamp k)] }∧rc.val=.own b k.ver∧ob=rc.ob∧look H b=none∧qQ k=true:=by
 unfold wS at h
 split at h
 case h_2=>cases h
 rename_i b ver' hv
 split at h
 case h_2=>cases h
 rename_i hc
 simp only [jAj,Bool.not_eq_true'] at hc
 have e1:=ZZ hc.1.1.2
 have e2:=ZZ hc.1.2
 simp only [jIj,jPj] at h
 obtain ⟨h1,h2,h3⟩:=h
 refine ⟨p.1,p.2,rfl,h1.symm,?_,h2.symm,?_,hc.1.1.1⟩
 ·rw [hv,e1,e2]
 ·rw [e1]
  cases hl:look H b with
  | none=>rfl
  | some k =>
   have:=VA.2 (show look H b≠none by rw [hl];simp)
   rw [hc.2] at this;cases this
theorem VQ {call:Kj} {yc:Yz} {i:Nat} {rs:List Rec} {orc:List Orc} {r:Rec} {ob:List Prop} {o' : List Orc} (h:Xc cx call yc ops masks base s i rs orc=some (r,ob,o')) :
  r.i=i∧∃ o,nth ops.toList i=some o∧r.dst=o.dst:=by
 unfold Xc at h
 split at h
 case h_2=>cases h
 rename_i o mask ho hm
 simp only at h
 split at h
 ·cases h
 ·simp only [jIj,jPj] at h;obtain ⟨rfl,_⟩:=h;exact ⟨rfl,o,ho,rfl⟩
 ·split at h
  ·split at h
   ·split at h
    ·cases h
    split at h
    ·split at h
     case h_2=>cases h
     simp only [jIj,jPj] at h;obtain ⟨rfl,_⟩:=h;exact ⟨rfl,o,ho,rfl⟩
    ·simp only [jIj,jPj] at h;obtain ⟨rfl,_⟩:=h;exact ⟨rfl,o,ho,rfl⟩
    ·cases h
   split at h
   ·split at h
    case h_2=>cases h
    split at h
    case h_2=>cases h
    split at h
    case h_2=>cases h
    simp only [jIj,jPj] at h;obtain ⟨rfl,_⟩:=h;exact ⟨rfl,o,ho,rfl⟩
   split at h
   ·cases h
   split at h
   case h_2=>cases h
   split at h
   ·split at h
    case h_2=>cases h
    simp only [jIj,jPj] at h;obtain ⟨rfl,_⟩:=h;exact ⟨rfl,o,ho,rfl⟩
   ·simp only [jIj,jPj] at h;obtain ⟨rfl,_⟩:=h;exact ⟨rfl,o,ho,rfl⟩
   ·obtain ⟨_,_,_,hR,_⟩:=U0 h
    rw [hR];exact ⟨rfl,o,ho,rfl⟩
   ·cases h
  ·split at h
   ·simp only [jIj,jPj] at h;obtain ⟨rfl,_⟩:=h;exact ⟨rfl,o,ho,rfl⟩
   split at h
   ·simp only [jIj,jPj] at h;obtain ⟨rfl,_⟩:=h;exact ⟨rfl,o,ho,rfl⟩
   split at h
   ·cases h
   split at h
   ·split at h
    case h_2=>cases h
    simp only [jIj,jPj] at h;obtain ⟨rfl,_⟩:=h;exact ⟨rfl,o,ho,rfl⟩
   ·simp only [jIj,jPj] at h;obtain ⟨rfl,_⟩:=h;exact ⟨rfl,o,ho,rfl⟩
theorem qg {call:Kj} {yc:Yz}:∀ (m k:Nat) (rs recs:List Rec) (ob0 ob:List Prop) (orc0 orc:List Orc),Kq cx call yc ops masks base s (List.range' k m) rs ob0 orc0=some (recs,ob,orc)→(∀ p,p∈ob→p) →
  Recs cx call yc ops masks base s rs k→Recs cx call yc ops masks base s recs (k+m)∧∀ p,p∈ob0→p:=by
 intro m
 induction m with
 | zero =>
  intro k rs recs ob0 ob orc0 orc h ho hr
  simp only [List.range'_zero,Kq,jIj,jPj] at h
  obtain ⟨rfl,rfl,rfl⟩:=h
  exact ⟨hr,ho⟩
 | succ m ih =>
  intro k rs recs ob0 ob orc0 orc h ho hr
  simp only [List.range'_succ,Kq] at h
  split at h
  case h_2=>cases h
  rename_i r ob1 o1 hst
  obtain ⟨hi,_⟩:=VQ hst
  have hfil:∀ q,q∈rs→Nat.blt q.i k=true:=fun q hq=>by simpa using hr.lt q hq
  -- what was owed before is owed at the end
  have hob:∀ (m k:Nat) (rs recs:List Rec) (ob0 ob:List Prop) (orc0 orc:List Orc),Kq cx call yc ops masks base s (List.range' k m) rs ob0 orc0=some (recs,ob,orc)→∀ p,p∈ob0→p∈ob:=by
   intro m
   induction m with
   | zero=>intro k rs recs ob0 ob orc0 orc h p hp;simp only [List.range'_zero,Kq,jIj,jPj] at h;obtain ⟨_,rfl,_⟩:=h;exact hp
   | succ m ihm =>
    intro k rs recs ob0 ob orc0 orc h p hp
    simp only [List.range'_succ,Kq] at h
    split at h
    case h_2=>cases h
    exact ihm _ _ _ _ _ _ _ h p (by simp [hp])
  have hall:=fun p hp=>ho p (hob _ _ _ _ _ _ _ _ h p hp)
  have hnew:Recs cx call yc ops masks base s (r::rs) (k+1):=by
   refine ⟨List.pairwise_cons.2 ⟨fun q hq=>by rw [hi];exact hr.lt q hq,hr.sorted⟩,fun q hq=>?_,fun j hj=>?_,fun q hq=>?_⟩
   ·rcases List.mem_cons.1 hq with rfl | hq
    ·omega
    ·have:=hr.lt q hq;omega
   ·by_cases hjk:j=k
    ·exact ⟨r,jMj,by omega⟩
    ·obtain ⟨q,hq,he⟩:=hr.all j (by omega)
     exact ⟨q,List.mem_cons_of_mem _ hq,he⟩
   ·rcases List.mem_cons.1 hq with rfl | hq
    ·refine ⟨orc0,ob1,o1,?_,fun p hp=>hall p (by simp [hp])⟩
     have:((q::rs).filter fun x=>Nat.blt x.i q.i)=rs:=by
      rw [List.filter_cons,jFj (by simp [Nat.blt_eq]),List.filter_eq_self.2]
      intro x hx;rw [hi];exact hfil x hx
     rw [this,hi];exact hst
    ·obtain ⟨oc,b,o',h1,h2⟩:=hr.told q hq
     refine ⟨oc,b,o',?_,h2⟩
     have hlt:=hr.lt q hq
     have:((r::rs).filter fun x=>Nat.blt x.i q.i)=rs.filter fun x=>Nat.blt x.i q.i:=by
      rw [List.filter_cons,jFj]
      rw [Nat.blt_eq,hi];omega
     rw [this];exact h1
  obtain ⟨g1,g2⟩:=ih (k+1) (r::rs) recs (ob1++ob0) ob o1 orc h ho hnew
  exact ⟨by rw [show k+(m+1)=k+1+m from by omega];exact g1,fun p hp=>g2 p (by simp [hp])⟩
end
end Go.SX
