/- The evaluator on code; what its answers say. -/
import Derived.Test.YtljabneifpkbjaaGreatDoorSxEleven
import Derived.Scope
import Derived.Orders
import Derived.OrdersIn
import Derived.RangeFuncLeaves
import Derived.RangeFuncRecord
import Derived.RangeFuncCalls
namespace Go.SX
def U7:Ex→Exit
 | .normal=>.normal
 | .exit id=>.exit id
 | .ret=>.ret
structure StepsV (vis:Nat) (hp:List (Nat×Blk)) (ρ:Nat→Value) (w:World) (hp' : List (Nat×Blk)) (ρ' : Nat→Value) (w' : World):Prop where
 ext:Ext w (Mut hp ρ) w'
 mt:∀ r,r < w.heap.size→Mut hp' ρ' r→Mut hp ρ r
 grow:∀ b k,b < vis→look hp b=some k→∃ k',look hp' b=some k'∧k.ver≤k'.ver∧(k.ver=k'.ver→ρ' b=ρ b)
theorem Steps1.toV {vis:Nat} {hp hp' : List (Nat×Blk)} {ρ ρ' : Nat→Value} {w w' : World} (h:Steps1 hp ρ w hp' ρ' w'):StepsV vis hp ρ w hp' ρ' w' :=
 ⟨h.ext,h.mt,fun b k _ hb=>h.grow.dom b k hb⟩
theorem StepsV.refl (vis:Nat) (hp:List (Nat×Blk)) (ρ:Nat→Value) (w:World):StepsV vis hp ρ w hp ρ w:=(Steps1.refl hp ρ w).toV
theorem StepsV.trans {vis:Nat} {h1 h2 h3:List (Nat×Blk)} {r1 r2 r3:Nat→Value} {w1 w2 w3:World} (a:StepsV vis h1 r1 w1 h2 r2 w2) (b:StepsV vis h2 r2 w2 h3 r3 w3):StepsV vis h1 r1 w1 h3 r3 w3 :=
 ⟨a.ext.trans b.ext fun r hr hm=>a.mt r hr hm,fun r hr hm=>a.mt r hr (b.mt r (Nat.lt_of_lt_of_le hr a.ext.size) hm),fun n k hn hk=>by
  obtain ⟨k2,hk2,l2,e2⟩:=a.grow n k hn hk
  obtain ⟨k3,hk3,l3,e3⟩:=b.grow n k2 hn hk2
  exact ⟨k3,hk3,Nat.le_trans l2 l3,fun he=>by rw [e3 (by omega),e2 (by omega)]⟩⟩
abbrev fen (r:Option Nat):Fence:={ Fence.wide with round:=r }
theorem QcD (r:Option Nat) (n:Nat):(fen r).room n:=by intro d hd;cases hd
def wpR (r:Option Nat) (P:Program) (c:Code) (Q:Exit→Act→World→Prop) (a:Act) (w:World):Prop:=∀ m,c.wpIn (fen r) m P Q a w
section
variable {r:Option Nat} {P:Program} {Q:Exit→Act→World→Prop} {a:Act} {w:World}
theorem Vk {c:Code} {Q' : Exit→Act→World→Prop} (h:wpR r P c Q a w) (hq:∀ e a w,Q e a w→Q' e a w):wpR r P c Q' a w:=fun m=>wpIn_mono (h m) hq
theorem Qb5 (h:Q .normal a w):wpR r P .skip Q a w:=fun _=>wpIn_skip h
theorem Qbv {l:Nat} (h:Q .normal a w):wpR r P (.label l) Q a w:=fun _=>wpIn_label h
theorem Qb6 {id:Nat} (h:Q (.exit id) a w):wpR r P (.exit id) Q a w:=fun _=>wpIn_exit h
theorem QcV (h:Q .ret a w):wpR r P .ret Q a w:=fun _=>wpIn_ret h
theorem Qa6 {x y:Code} (h:wpR r P x (Exit.then (wpR r P y Q) Q) a w):wpR r P (.seq x y) Q a w:=fun m=>wpIn_seq (wpIn_mono (h m) fun e a w hh=>by
 cases e with
 | normal=>exact hh m
 | exit id=>exact hh
 | goto l=>exact hh
 | ret=>exact hh
 | panic ch=>exact hh
 | outgrown=>exact hh)
theorem uh {c:Operand} {x y:Code} {t:Bool} (hc:a.eval c=.bool t) (h:wpR r P (if t then x else y) Q a w):wpR r P (.cond c x y) Q a w:=fun m=>wpIn_cond hc (h m)
theorem jw {c:Operand} {x y:Code} (hc:a.eval c=.bool true) (h:wpR r P x Q a w):wpR r P (.cond c x y) Q a w:=fun m=>wpIn_cond_true hc (h m)
theorem wp {c:Operand} {x y:Code} (hc:a.eval c=.bool false) (h:wpR r P y Q a w):wpR r P (.cond c x y) Q a w:=fun m=>wpIn_cond_false hc (h m)
theorem qB {id:Nat} {c:Code} (h:wpR r P c (Exit.inBlock id Q) a w):wpR r P (.block id c) Q a w:=fun m=>wpIn_block (h m)
theorem YW {b:Frame} {k:List Item} {cs:List Frame} {c:Code}:step P (lone (b.atR a (.code (.scope c)::k)) cs w)=.next (lone (b.atR a (.code c::.inScope c::k)) cs w) :=
 step_lone_go (by simp [stepG,stepG.exec,Frame.atR])
theorem jA {b:Frame} {k:List Item} {cs:List Frame} {c:Code}:step P (lone (b.atR a (.inScope c::k)) cs w)=.next (lone (b.atR a k) cs w) :=
 step_lone_go (by simp [stepG,stepG.exec,Frame.atR])
theorem Ek {c:Code} (h:wpR r P c (Exit.noGoto Q) a w):wpR r P (.scope c) Q a w:=by
 intro m b k cs hro hb hr
 have h0:(lone (b.atR a (.code (.scope c)::k)) cs w).fenced P (fen r):=fenced_calm hb hr rfl
 obtain ⟨e,a₁,w₁,hq,harr⟩:=h m b (.inScope c::k) cs hro hb hr
 cases e with
 | normal=>exact ⟨.normal,a₁,w₁,hq,.head h0 YW (StepsIn.trans harr (.one (fenced_calm hb hr rfl) jA))⟩
 | exit id =>
  have hx:exitTo id (.inScope c::k)=exitTo id k:=by simp [exitTo]
  exact ⟨.exit id,a₁,w₁,hq,fun k' hk=>.head h0 YW (harr.1 k' (by rw [hx];exact hk)),
   fun hr' hk=>let ⟨k₁,h1,h2⟩:=harr.2 hr' (by rw [hx];exact hk);⟨k₁,h1,.head h0 YW h2⟩⟩
 | goto l=>exact hq.elim
 | ret=>exact ⟨_,a₁,w₁,hq,.of_steps (.one h0 YW) harr⟩
 | panic ch=>exact ⟨_,a₁,w₁,hq,.of_steps (.one h0 YW) harr⟩
 | outgrown=>exact ⟨_,a₁,w₁,hq,.of_steps (.one h0 YW) harr⟩
end
def DfTo (w:World) (ds0:List Deferred) (w' : World) (ds:List Deferred):Prop :=
 ∃ new:List Nat,ds=new.map (fun D=>{ target:=.collected D,args:=#[] })++ds0∧new.Nodup∧∀ D,D∈new→w.heap.size≤D∧w'.heap[D]?=some (.deferred (some []))
theorem DfTo.refl (w:World) (ds0:List Deferred) (w' : World):DfTo w ds0 w' ds0:=⟨[],rfl,List.nodup_nil,fun _ h=>by cases h⟩
def After (cx:Cx) (F:Nat→Prop) (vis nt:Nat) (hp:List (Nat×Blk)) (ρ:Nat→Value) (w:World) (ds0:List Deferred) (tm' : List (Nat×AV)) (hp' : List (Nat×Blk)) (a' : Act) (w' : World):Prop :=
 ∃ ρ',HSim cx F hp' ρ' w'∧TSim F tm' hp' ρ' a' w'∧a'.tmps.size=nt∧DfTo w ds0 w' a'.defers∧StepsV vis hp ρ w hp' ρ' w'
def wpL (r:Option Nat) (P:Program) (c:Code) (Q:Exit→Act→World→Prop) (a:Act) (w:World):Prop :=
 ∀ (b:Frame) (k:List Item) (cs:List Frame),b.roundOf=r→∃ e a' w',Q e a' w'∧ArrivesIn (Machine.fenced P (fen r)) P (lone (b.atR a (.code c::.inLoop c::k)) cs w) b k cs e a' w'
theorem Qbu {r:Option Nat} {P:Program} {c:Code} {Q:Exit→Act→World→Prop} {a:Act} {w:World} (h:wpL r P c Q a w):wpR r P (.loop c) Q a w:=by
 intro m b k cs hro hb hr
 obtain ⟨e,a',w',hq,harr⟩:=h b k cs hro
 exact ⟨e,a',w',hq,.of_steps (.one (fenced_calm hb hr rfl) stepR_loop) harr⟩
theorem XG {r:Option Nat} {P:Program} {c:Code} {Q:Exit→Act→World→Prop} {a:Act} {w:World} (h:wpR r P c (Exit.then (wpL r P c Q) Q) a w):wpL r P c Q a w:=by
 intro b k cs hro
 have hb:(fen r).fn b.fn:=trivial
 have hr:(fen r).room (cs.length+1+0):=QcD _ _
 obtain ⟨e,a₁,w₁,hq,harr⟩:=h 0 b (.inLoop c::k) cs hro hb hr
 cases e with
 | normal =>
  obtain ⟨e₂,a₂,w₂,hq₂,harr₂⟩:=hq b k cs hro
  exact ⟨e₂,a₂,w₂,hq₂,.of_steps (StepsIn.trans harr (.one (fenced_calm hb hr rfl) stepR_inLoop)) harr₂⟩
 | exit id=>exact ⟨_,a₁,w₁,hq,.pass (x:=.inLoop c) rfl (fun _ _=>.inl (by simp)) harr⟩
 | goto l=>exact ⟨_,a₁,w₁,hq,.pass (x:=.inLoop c) rfl (fun _ _=>.inl (by simp)) harr⟩
 | ret=>exact ⟨_,a₁,w₁,hq,.pass (x:=.inLoop c) rfl (fun _ _=>.inl (by simp)) harr⟩
 | panic ch=>exact ⟨_,a₁,w₁,hq,.pass (x:=.inLoop c) rfl (fun _ _=>.inl (by simp)) harr⟩
 | outgrown=>exact ⟨_,a₁,w₁,hq,.pass (x:=.inLoop c) rfl (fun _ _=>.inl (by simp)) harr⟩
def QdG (cx:Cx) (c:Code) (s:St) (e:Ex) (tm' : List (Nat×AV)) (hp' : List (Nat×Blk)):Prop :=
 ∀ (r:Option Nat) (F:Nat→Prop) (ρ:Nat→Value) (a:Act) (w:World),(s.rnd=false→r=none)→Sim cx F s ρ a w →
  wpL r cx.P c (fun e' a' w'=>e'=U7 e∧After cx F s.vis s.nt s.hp ρ w a.defers tm' hp' a' w') a w
def kZ (cx:Cx) (c:Code) (nt vis:Nat) (rnd:Bool) (tm:List (Nat×AV)) (hp:List (Nat×Blk)) (e:Ex) (tm' : List (Nat×AV)) (hp' : List (Nat×Blk)):Prop :=
 QdG cx c { nt,sym:=true,tm,hp,nx:=0,orc:=[],ob:=[],vis,sfx:=true,rnd } e tm' hp'
def QcM (ops:Array Oper) (tm:List (Nat×AV)):List Nat :=
 match (ops.toList.any fun o=>match o.op with | .slice _ _ _ _ _=>true | _=>false) && (ops.toList.any fun o=>(U2 o).isSome) &&
   !(ops.toList.any fun o=>match o.op with | .store _ _ _=>true | .call { callee:=.builtin .append,args:=_,argTypes:=_ }=>true | _=>false) with
 | true=>ops.toList.filterMap fun o=>match o.op with
  | .move (.tmp t)=>match look tm t with
   | some (.own b _)=>some b
   | _=>none
  | _=>none
 | false=>[]
def GC (ops:Array Oper) (s:St):St:=match s.sym with
 | true=>match s.orc with
  | .lp pr _ kb _ _ _ _::r=>{ s with hp:=uD (Qe s.hp kb++s.hp) pr,orc:=r }
  | _=>s
 | false=>{ s with hp:=Qe s.hp (QcM ops s.tm)++s.hp }
def yK {α:Type} (n:Nat) (k:Nat→α):α:=match n with
 | 0=>k 0
 | m+1=>k (m+1)
def yM {α:Type} (n:Bool) (k:Bool→α):α:=match n with
 | true=>k true
 | false=>k false
def yL {α β:Type} (l:List β) (k:List β→α):α:=match l with
 | []=>k []
 | x::r=>k (x::r)
def QcC {α:Type} (l:List Prop) (k:List Prop→α):α:=match l with
 | []=>k []
 | x::r=>k (x::r)
theorem QbO {α:Type} (n:Nat) (k:Nat→α):yK n k=k n:=by cases n <;> rfl
theorem QbQ {α:Type} (n:Bool) (k:Bool→α):yM n k=k n:=by cases n <;> rfl
theorem QbP {α β:Type} (n:List β) (k:List β→α):yL n k=k n:=by cases n <;> rfl
theorem QbN {α:Type} (n:List Prop) (k:List Prop→α):QcC n k=k n:=by cases n <;> rfl
def St.force {α:Type} (s:St) (k:St→α):α :=
 yK s.nt fun nt=>yM s.sym fun sym=>yL s.tm fun tm=>yL s.hp fun hp=>yK s.nx fun nx=>yL s.orc fun orc=>QcC s.ob fun ob=>yK s.vis fun vis=>yM s.sfx fun sfx=>yM s.rnd fun rnd =>
  k { nt,sym,tm,hp,nx,orc,ob,vis,sfx,rnd }
theorem St.force_eq {α:Type} (s:St) (k:St→α):s.force k=k s:=by
 simp only [St.force,QbO,QbQ,QbP,QbN]
def Z8:Nat→Cx→Code→St→Option (Ex×St)
 | 0,_,_,_=>none
 | n+1,cx,c,s=>match c with
  | .skip=>some (.normal,s)
  | .label _=>some (.normal,s)
  | .region _ ops draw=>s.force fun s=>match draw with
   | false=>match Y3 cx (kX (Z8 n cx) cx) (qA (Z8 n cx)) ops s.nx (List.range ops.toList.length) { s with nx:=s.nx+ops.toList.length } with
    | some s'=>some (.normal,s')
    | none=>none
   | true=>match Kq cx (kX (Z8 n cx) cx) (qA (Z8 n cx)) ops (Region.before ops).toList s.nx (GC ops s) (List.range ops.toList.length) [] s.ob (GC ops s).orc with
    | some (recs,ob,orc)=>match yN ops (Region.before ops).toList s.nx (GC ops s) recs with
     | true=>some (.normal,{ s with tm:=VX recs++s.tm,hp:=Wx recs++(GC ops s).hp,nx:=Qct (s.nx+ops.toList.length) recs,orc,ob })
     | false=>none
    | none=>none
  | .seq a b=>match Z8 n cx a s with
   | some (.normal,s1)=>Z8 n cx b s1
   | r=>r
  | .cond x t e=>match evA cx s.tm x with
   | .d (.v (.bool b))=>match qG s.sym s.orc with
    | some (.br true,r)=>Z8 n cx t { s with orc:=r,ob:=(b=true)::s.ob }
    | some (.br false,r)=>Z8 n cx e { s with orc:=r,ob:=(b=false)::s.ob }
    | some (.no,r)=>match b with
     | true=>Z8 n cx t { s with orc:=r }
     | false=>Z8 n cx e { s with orc:=r }
    | _=>none
   | _=>none
  | .block id body=>match Z8 n cx body s with
   | some (.exit i,s1)=>match Nat.beq i id with
    | true=>some (.normal,s1)
    | false=>some (.exit i,s1)
   | r=>r
  | .scope body=>Z8 n cx body s
  | .loop body=>match qG s.sym s.orc with
   | some (.lp pr kt kb e tm hp nx,r)=>match kz s pr kt kb with
    | some s0=>some (e,{ s with tm,hp,nx,orc:=r,ob:=kZ cx body s0.nt s0.vis s0.rnd s0.tm s0.hp e tm hp::s.ob,sfx:=false })
    | none=>none
   | some (.no,r)=>match Z8 n cx body { s with orc:=r,tm:=kO s.tm 0 } with
    | some (.normal,s1)=>Z8 n cx (.loop body) s1
    | q=>q
   | _=>none
  | .rangeFunc f ps as bd=>match s.rnd,JH (evA cx s.tm f),VU s.hp s.nx && s.hp.all (fun p=>E1 p.2) with
   | false,some (g,a,b),true=>match U8 (Z8 n cx) cx g (a++[.own s.nx 0]++b) { nt:=0,sym:=s.sym,tm:=[],hp:=(s.nx,.loop true (Kr s.tm s.nt) ps.toList as bd s.nt)::s.hp,nx:=s.nx+1,orc:=s.orc,ob:=s.ob,vis:=s.nx+1,sfx:=true } with
    | some (_,s2)=>match look s2.hp s.nx,UT s.nx s2.hp with
     | some (.loop true _ _ _ _ _),true=>some (.normal,{ s with hp:=(s.nx,.dead)::s2.hp.filter (fun p=>!(Nat.beq p.1 s.nx)),nx:=s2.nx,orc:=s2.orc,ob:=s2.ob,sfx:=!s.sym && (s.sfx && s2.sfx) })
     | some (.left e),true=>some (e,{ s with hp:=(s.nx,.dead)::s2.hp.filter (fun p=>!(Nat.beq p.1 s.nx)),nx:=s2.nx,orc:=s2.orc,ob:=s2.ob,sfx:=!s.sym && (s.sfx && s2.sfx) })
     | _,_=>none
    | none=>none
   | _,_,_=>none
  | .exit id=>some (.exit id,s)
  | .ret=>some (.ret,s)
  | _=>none
theorem VR.restrict {w w' : World} {M M1 M2:Nat→Prop} {H hp' : List (Nat×Blk)} {ρ ρ' : Nat→Value} (hag:∀ b k,look H b=some k→look hp' b=some k∧ρ' b=ρ b) (hM:∀ r,r < w'.heap.size→M2 r→M1 r) {x:AV} {y0:Value} (h0:VR w M H ρ x y0) :
  ∀ y,VR w' M1 hp' ρ' x y→VR w' M2 H ρ x y:=by
 induction h0 with
 | d x y0 _ =>
  intro y h
  cases h with
  | d _ _ h=>exact .d _ _ (h.ext (jLj _) (fun _ _ _=>rfl) hM)
 | agg cs ys hl hh ih =>
  intro y h
  cases h with
  | agg _ ys' hl' hh' =>
   refine .agg cs ys' hl' fun i c z hc hz=>?_
   have hlt:i < ys.length:=by rw [← hl];exact (jGj hc).1
   exact ih i c ys[i] hc (by simp [hlt]) z (hh' i c z hc hz)
 | tup cs ys hl hh ih =>
  intro y h
  cases h with
  | tup _ ys' hl' hh' =>
   refine .tup cs ys' hl' fun i c z hc hz=>?_
   have hlt:i < ys.length:=by rw [← hl];exact (jGj hc).1
   exact ih i c ys[i] hc (by simp [hlt]) z (hh' i c z hc hz)
 | dptr x off blk o hd =>
  intro y h
  cases h with
  | dptr _ _ blk' o' hd'=>exact .dptr _ _ _ _ (hd'.ext (jLj _) (fun _ _ _=>rfl) hM)
 | ptr b ver sz i off k y0 hb hv ho hh =>
  intro y h
  cases h with
  | ptr _ _ _ _ _ k' _ hb' hv' ho' hh' =>
   obtain ⟨h1,h2⟩:=hag b k hb
   rw [h1] at hb';cases hb'
   exact .ptr b ver sz i off k y hb hv ho' fun he=>by
    obtain ⟨r,hr,hy⟩:=hh' he
    exact ⟨r,by rw [← h2];exact hr,hy⟩
 | own b ver k y0 hb hv ho hh =>
  intro y h
  cases h with
  | own _ _ k' _ hb' hv' ho' hh' =>
   obtain ⟨h1,h2⟩:=hag b k hb
   rw [h1] at hb';cases hb'
   exact .own b ver k y hb hv ho' fun he=>by rw [← h2];exact hh' he
 | sub b ver sz lo n k y0 hb hv ho hh =>
  intro y h
  cases h with
  | sub _ _ _ _ _ k' _ hb' hv' ho' hh' =>
   obtain ⟨h1,h2⟩:=hag b k hb
   rw [h1] at hb';cases hb'
   exact .sub b ver sz lo n k y hb hv ho' fun he=>by
    obtain ⟨r,c,hr,hy⟩:=hh' he
    exact ⟨r,c,by rw [← h2];exact hr,hy⟩
 | fn f a b xs ys hl hm hh hk ih ik =>
  intro y h
  cases h with
  | fn _ _ _ xs' ys' hl' hm' hh' hk' =>
   refine .fn f a b xs' ys' hl' hm' (fun i c z hc hz=>?_) (fun i c z hc hz=>?_)
   ·have hlt:i < xs.length:=by rw [← hl];exact (jGj hc).1
    exact ih i c xs[i] hc (by simp [hlt]) z (hh' i c z hc hz)
   ·have hlt:i < ys.length:=by rw [← hm];exact (jGj hc).1
    exact ik i c ys[i] hc (by simp [hlt]) z (hk' i c z hc hz)
 | junk y0=>intro y _;exact .junk y
theorem HSim.restrict {cx:Cx} {F:Nat→Prop} {H hp' : List (Nat×Blk)} {ρ ρ' : Nat→Value} {w w' : World} (h:HSim cx F H ρ w) (h' : HSim cx F hp' ρ' w') (hag:∀ b k,look H b=some k→look hp' b=some k∧ρ' b=ρ b)
  (hx:Ext w (Mut H ρ) w'):HSim cx F H ρ w'∧Steps1 H ρ w H ρ w':=by
 have hmut:∀ r,Mut H ρ r→Mut hp' ρ' r:=by
  rintro r ⟨b,k,hb,hm,hr⟩
  obtain ⟨h1,h2⟩:=hag b k hb
  exact ⟨b,k,h1,hm,by rw [h2];exact hr⟩
 have hMM:∀ r,r < w'.heap.size→MM F H ρ r→MM F hp' ρ' r:=fun r _ hm=>hm.imp id (hmut r)
 refine ⟨⟨fun b k hb=>?_,h.inj,h.forb,fun r hr=>Nat.lt_of_lt_of_le (h.bnd r hr) hx.size,fun g x hg=>?_⟩,⟨hx,fun _ _ h=>h,Grows.refl _ _⟩⟩
 ·obtain ⟨h1,h2⟩:=hag b k hb
  have hB:=h.blk b k hb
  have hB':=h'.blk b k h1
  cases k with
  | box x =>
   obtain ⟨r,e,v,cs,q1,q2,q3,q4⟩:=hB'
   obtain ⟨_,_,v0,_,_,_,_,p4⟩:=hB
   exact ⟨r,e,v,cs,by rw [← h2];exact q1,q2,q3,VR.restrict hag hMM p4 v q4⟩
  | loop rdy tm ps as bd nt =>
   obtain ⟨l,rc,q1,q3,q4,q5,q6,q7,q8,q9,q10⟩:=hB'
   obtain ⟨_,_,_,_,_,_,_,_,_,_,p10⟩:=hB
   exact ⟨l,rc,by rw [← h2];exact q1,q3,q4,q5,q6,q7,q8,q9,fun t x hx=>VR.restrict hag hMM (p10 t x hx) _ (q10 t x hx)⟩
  | mp es =>
   obtain ⟨r,es',c,q1,q2,q3⟩:=hB'
   exact ⟨r,es',c,by rw [← h2];exact q1,q2,q3.ext (jLj _) (fun _ _ _=>rfl) hMM⟩
  | it s p =>
   obtain ⟨r,q1,q2⟩:=hB'
   exact ⟨r,by rw [← h2];exact q1,q2⟩
  | left e =>
   obtain ⟨l,rc,q1,q3,q4⟩:=hB'
   exact ⟨l,rc,by rw [← h2];exact q1,q3,q4⟩
  | fbox x =>
   obtain ⟨r,q1,q2⟩:=hB'
   exact ⟨r,by rw [← h2];exact q1,q2.ext (jLj _) (fun _ _ _=>rfl) hMM⟩
  | dead=>trivial
  | row ver sz es =>
   rcases hB' with ⟨q0,a0,q1⟩ | ⟨r,c,e,cap,q1,q2,q3,q4,q5,q6⟩
   ·exact .inl ⟨q0,a0,by rw [← h2];exact q1⟩
   refine .inr ⟨r,c,e,cap,by rw [← h2];exact q1,q2,q3,q4,q5,fun i d j a hd ha=>?_⟩
   obtain ⟨y,y1,y2,y3⟩:=q6 i d j a hd ha
   exact ⟨y,y1,y2,y3.ext (jLj _) (fun _ _ _=>rfl) hMM⟩
  | frozen ver sz es =>
   simp only [BlkR] at hB' ⊢
   rw [← h2];exact hB'.ext (jLj _) (fun _ _ _=>rfl) hMM
  | virt ver sz es =>
   simp only [BlkR] at hB' ⊢
   rw [← h2];exact hB'.ext (jLj _) (fun _ _ _=>rfl) hMM
 ·exact (h'.glob g x hg).ext (jLj _) (fun _ _ _=>rfl) hMM
theorem HSim.restrictE {cx:Cx} {F:Nat→Prop} {H hp' : List (Nat×Blk)} {ρ ρ' : Nat→Value} {w w' : World} {E:Nat→Prop} (h:HSim cx F H ρ w) (h' : HSim cx F hp' ρ' w') (hag:∀ b k,look H b=some k→look hp' b=some k∧ρ' b=ρ b)
  (hx:Ext w (Mut H ρ) w') (hE:∀ r,E r→Mut hp' ρ' r∧w.heap.size≤r):HSim cx (fun r=>F r ∨ E r) H ρ w':=by
 have hmut:∀ r,Mut H ρ r→Mut hp' ρ' r:=by
  rintro r ⟨b,k,hb,hm,hr⟩
  obtain ⟨h1,h2⟩:=hag b k hb
  exact ⟨b,k,h1,hm,by rw [h2];exact hr⟩
 have hMM:∀ r,r < w'.heap.size→MM (fun r=>F r ∨ E r) H ρ r→MM F hp' ρ' r:=by
  rintro r _ ((h1 | h1) | h1)
  ·exact .inl h1
  ·exact .inr (hE r h1).1
  ·exact .inr (hmut r h1)
 refine ⟨fun b k hb=>?_,h.inj,fun r hr hf=>?_,fun r hr=>?_,fun g x hg=>?_⟩
 ·obtain ⟨h1,h2⟩:=hag b k hb
  have hB:=h.blk b k hb
  have hB':=h'.blk b k h1
  cases k with
  | box x =>
   obtain ⟨r,e,v,cs,q1,q2,q3,q4⟩:=hB'
   obtain ⟨_,_,v0,_,_,_,_,p4⟩:=hB
   exact ⟨r,e,v,cs,by rw [← h2];exact q1,q2,q3,VR.restrict hag hMM p4 v q4⟩
  | loop rdy tm ps as bd nt =>
   obtain ⟨l,rc,q1,q3,q4,q5,q6,q7,q8,q9,q10⟩:=hB'
   obtain ⟨_,_,_,_,_,_,_,_,_,_,p10⟩:=hB
   exact ⟨l,rc,by rw [← h2];exact q1,q3,q4,q5,q6,q7,q8,q9,fun t x hx=>VR.restrict hag hMM (p10 t x hx) _ (q10 t x hx)⟩
  | mp es =>
   obtain ⟨r,es',c,q1,q2,q3⟩:=hB'
   exact ⟨r,es',c,by rw [← h2];exact q1,q2,q3.ext (jLj _) (fun _ _ _=>rfl) hMM⟩
  | it s p =>
   obtain ⟨r,q1,q2⟩:=hB'
   exact ⟨r,by rw [← h2];exact q1,q2⟩
  | left e =>
   obtain ⟨l,rc,q1,q3,q4⟩:=hB'
   exact ⟨l,rc,by rw [← h2];exact q1,q3,q4⟩
  | fbox x =>
   obtain ⟨r,q1,q2⟩:=hB'
   exact ⟨r,by rw [← h2];exact q1,q2.ext (jLj _) (fun _ _ _=>rfl) hMM⟩
  | dead=>trivial
  | row ver sz es =>
   rcases hB' with ⟨q0,a0,q1⟩ | ⟨r,c,e,cap,q1,q2,q3,q4,q5,q6⟩
   ·exact .inl ⟨q0,a0,by rw [← h2];exact q1⟩
   refine .inr ⟨r,c,e,cap,by rw [← h2];exact q1,q2,q3,q4,q5,fun i d j a hd ha=>?_⟩
   obtain ⟨y,y1,y2,y3⟩:=q6 i d j a hd ha
   exact ⟨y,y1,y2,y3.ext (jLj _) (fun _ _ _=>rfl) hMM⟩
  | frozen ver sz es =>
   simp only [BlkR] at hB' ⊢
   rw [← h2];exact hB'.ext (jLj _) (fun _ _ _=>rfl) hMM
  | virt ver sz es =>
   simp only [BlkR] at hB' ⊢
   rw [← h2];exact hB'.ext (jLj _) (fun _ _ _=>rfl) hMM
 ·rcases hf with hf | hf
  ·exact h.forb r hr hf
  ·have:=h.mut_lt hr
   have:=(hE r hf).2
   omega
 ·rcases hr with hr | hr
  ·exact Nat.lt_of_lt_of_le (h.bnd r hr) hx.size
  ·exact h'.mut_lt (hE r hr).1
 ·exact (h'.glob g x hg).ext (jLj _) (fun _ _ _=>rfl) hMM
def RowV (w:World) (M:Nat→Prop) (v:Value) (sz:Nat) (es:jVj):Prop :=
 (es=[]∧∃ a,v=.slice a 0 0) ∨ ∃ r c e cap,v=.slice (some ⟨r,0,none⟩) es.length cap∧(es.length≤cap∧0 < cap)∧cap * sz≤c.size∧w.heap[r]?=some (.cells c e (0,0)) ∧
   (∀ (i:Nat) (d:D),es[i]?=some d→d.cells.length=sz) ∧
   ∀ (i:Nat) (d:D) (j:Nat) (a:D),es[i]?=some d→d.cells[j]?=some a→∃ y,c[i * sz+j]?=some y∧one y=true∧DR w M a y
theorem RowV.sub {w:World} {M M' : Nat→Prop} {v:Value} {sz:Nat} {es:jVj} (h:RowV w M v sz es) (hm:∀ r,r < w.heap.size→M' r→M r):RowV w M' v sz es:=by
 rcases h with h | ⟨r,c,e,cap,q1,q2,q3,q4,q5,q6⟩
 ·exact .inl h
 ·refine .inr ⟨r,c,e,cap,q1,q2,q3,q4,q5,fun i d j a hd ha=>?_⟩
  obtain ⟨y,y1,y2,y3⟩:=q6 i d j a hd ha
  exact ⟨y,y1,y2,y3.ext (jLj _) (fun _ _ _=>rfl) hm⟩
def FreshV (w:World) (M:Nat→Prop) (v:Value):Blk→Prop
 | .row _ sz es=>RowV w M v sz es
 | .mp es=>∃ r es' c,v=.map (some r)∧w.heap[r]?=some (.map es' c)∧MR w M es es'.toList
 | _=>False
theorem FreshV.sub {w:World} {M M' : Nat→Prop} {v:Value} {k:Blk} (h:FreshV w M v k) (hm:∀ r,r < w.heap.size→M' r→M r):FreshV w M' v k:=by
 cases k with
 | row _ sz es=>exact RowV.sub h hm
 | mp es =>
  obtain ⟨r,es',c,h1,h2,h3⟩:=h
  exact ⟨r,es',c,h1,h2,h3.ext (jLj _) (fun _ _ _=>rfl) hm⟩
 | _=>exact h.elim
theorem FreshV.blk {w:World} {M:Nat→Prop} {hp:List (Nat×Blk)} {ρ:Nat→Value} {b:Nat} {k:Blk} (h:FreshV w M (ρ b) k):BlkR w M hp ρ b k:=by
 cases k with
 | row _ sz es =>
  rcases h with ⟨q0,a,q1⟩ | ⟨r,c,e,cap,q1,q2⟩
  ·exact .inl ⟨q0,a,q1⟩
  ·exact .inr ⟨r,c,e,cap,q1,q2⟩
 | mp es=>exact h
 | _=>exact h.elim
theorem FreshV.stamp {w:World} {M:Nat→Prop} {v:Value} {k:Blk} (h:FreshV w M v k):FreshV w M v (stamp k):=by
 cases k with
 | row _ sz es=>exact h
 | mp es=>exact h
 | _=>exact h.elim
theorem kF {w:World} {M:Nat→Prop} {hp:List (Nat×Blk)} {ρ:Nat→Value} {b:Nat} {k:Blk} (hk:qQ k=true) (h:BlkR w M hp ρ b k):FreshV w M (ρ b) k:=by
 cases k with
 | row _ sz es=>exact h
 | mp es=>exact h
 | _=>cases hk
theorem JE {k:Blk} (hk:qQ k=true):k.live=true:=by cases k <;> first | rfl | cases hk
theorem HSim.name {cx:Cx} {F E:Nat→Prop} {hp:List (Nat×Blk)} {ρ:Nat→Value} {w:World} (h:HSim cx (fun r=>F r ∨ E r) hp ρ w) {nm:Nat} {k0:Blk} {v:Value} (hn:look hp nm=none)
  (hE:∀ r,Q9 v=some r→E r) (hEF:∀ r,E r→¬ F r) (hrow:FreshV w (MM (fun r=>F r ∨ E r) hp ρ) v k0) :
  HSim cx F ((nm,k0)::hp) (Vl ρ nm v) w:=by
 have hmut:∀ q,Mut ((nm,k0)::hp) (Vl ρ nm v) q→Mut hp ρ q ∨ E q:=by
  rintro q ⟨n,k',hb,hm,hq⟩
  by_cases hnb:n=nm
  ·subst hnb;rw [QG] at hq;exact .inr (hE q hq)
  ·rw [Qc _ _ (Ne.symm hnb)] at hb;rw [QU _ _ hnb] at hq;exact .inl ⟨n,k',hb,hm,hq⟩
 have hMM:∀ r,r < w.heap.size→MM F ((nm,k0)::hp) (Vl ρ nm v) r→MM (fun r=>F r ∨ E r) hp ρ r:=by
  rintro r _ (h1 | h1)
  ·exact .inl (.inl h1)
  ·rcases hmut r h1 with h2 | h2
   ·exact .inr h2
   ·exact .inl (.inr h2)
 have hgr:Grows hp ((nm,k0)::hp) ρ (Vl ρ nm v):=⟨fun b k hb=>by
  have hne:b≠nm:=fun e=>by rw [e,hn] at hb;cases hb
  exact ⟨k,by rw [Qc _ _ (Ne.symm hne)];exact hb,jLj _,fun _=>QU _ _ hne⟩⟩
 refine ⟨fun b k hb=>?_,fun b b' k k' r h1 h2 m1 m2 r1 r2=>?_,fun r hr hf=>?_,fun r hr=>h.bnd r (.inl hr),fun g x hg=>(h.glob g x hg).ext (jLj _) (fun _ _ _=>rfl) hMM⟩
 ·by_cases hnb:b=nm
  ·subst hnb
   rw [Qd] at hb;cases hb
   have:=hrow.sub hMM
   exact FreshV.blk (by rw [QG];exact this)
  ·rw [Qc _ _ (Ne.symm hnb)] at hb
   exact (h.blk b k hb).ext (jLj _) (fun _ _ _=>rfl) hMM hgr (QU _ _ hnb) (fun _ _ _=>rfl)
 ·by_cases hn1:b=nm <;> by_cases hn2:b'=nm
  ·rw [hn1,hn2]
  ·subst hn1
   rw [QG] at r1
   rw [Qc _ _ (Ne.symm hn2)] at h2;rw [QU _ _ hn2] at r2
   exact absurd (.inr (hE r r1)) (h.forb r ⟨b',k',h2,m2,r2⟩)
  ·subst hn2
   rw [QG] at r2
   rw [Qc _ _ (Ne.symm hn1)] at h1;rw [QU _ _ hn1] at r1
   exact absurd (.inr (hE r r2)) (h.forb r ⟨b,k,h1,m1,r1⟩)
  ·rw [Qc _ _ (Ne.symm hn1)] at h1;rw [QU _ _ hn1] at r1
   rw [Qc _ _ (Ne.symm hn2)] at h2;rw [QU _ _ hn2] at r2
   exact h.inj b b' k k' r h1 h2 m1 m2 r1 r2
 ·rcases hmut r hr with h1 | h1
  ·exact h.forb r h1 (.inl hf)
  ·exact hEF r h1 hf
end Go.SX
