/- Own texts. -/
import Derived.Test.YtchbppgamelchaaDoorSxNine
import Derived.Scope
import Derived.Orders
import Derived.OrdersIn
import Derived.RangeFuncLeaves
import Derived.RangeFuncRecord
import Derived.RangeFuncCalls
set_option linter.unusedVariables false
set_option linter.unusedSimpArgs false
set_option linter.unnecessarySimpa false
set_option linter.unusedSectionVars false
namespace Go.SX
variable [DrawMode]
section
variable {cx:Cx} {F:Nat→Prop} {hp:List (Nat×Blk)} {ρ:Nat→Value} {w:World} {re:Operand→Value} {ev:Operand→AV} {sym:Bool} {orc:List Orc} {r:R}
theorem wj {P:Program} {s:Sem Value} {v:Value} {w w' : World} (h:s.run P w=.ok v w'):(do pure (Next.value (← s)):Sem Next).run P w=.ok (.value v) w':=by
 simp only [Sem.run_bind,h,Result.andThen_ok,Sem.run_pure]
theorem Good.of {s:Sem Value} (h:∃ v w',s.run cx.P w=.ok v w'∧OpOK cx F hp ρ w r.up r.val v w'):Good cx F hp ρ w r (do pure (.value (← s))):=by
 obtain ⟨v,w',h1,h2⟩:=h
 exact ⟨v,w',.inl (wj h1),h2⟩
theorem Good.of1 {s:Sem Value} (h:∃ v,s.run cx.P w=.ok v w∧OpOK cx F hp ρ w r.up r.val v w):Good cx F hp ρ w r (do pure (.value (← s))):=by
 obtain ⟨v,h1,h2⟩:=h
 exact ⟨v,w,.inl (wj h1),h2⟩
theorem Good.val1 (h:HSim cx F hp ρ w) {x:AV} {v:Value} {s:Sem Value} (hr:val1 x orc=some r) (hs:s.run cx.P w=.ok v w) (hx:VR w (MM F hp ρ) hp ρ x v):Good cx F hp ρ w r (do pure (.value (← s))):=by
 simp only [SX.val1,Option.some.injEq] at hr;subst hr
 exact Good.of1 ⟨v,hs,OpOK.quiet h hx⟩
theorem Good.pure1 (h:HSim cx F hp ρ w) {x:AV} {v:Value} (hr:SX.val1 x orc=some r) (hx:VR w (MM F hp ρ) hp ρ x v):Good cx F hp ρ w r (pure (.value v)):=by
 simp only [SX.val1,Option.some.injEq] at hr;subst hr
 exact ⟨v,w,.inl rfl,OpOK.quiet h hx⟩
theorem qq {n:Int} (h:Qa n):IntKind.i64.wrap n=n:=by
 rw [IntKind.wrap_i64];unfold Qa at h;omega
theorem Kf {P:Program} {w:World} {f:TypeId→Value→Value→Option Bool} {g:TypeId→Value→Value→Sem Bool} (hf:∀ t a b p,f t a b=some p→(g t a b).run P w=.ok p w) (xs ys:Array Value) :
  ∀ (l:List Field) (b:Bool),UK P f xs ys l=some b →
   (forIn l (none,()) fun (fd:Field) (_:Option Bool×Unit)=>(if fd.name≠ "_" then do
     let a ← part fd.type xs fd.offset
     let c ← part fd.type ys fd.offset
     let r ← g fd.type a c
     if (!r)=true then pure (ForInStep.done (some false,())) else pure (ForInStep.yield (none,()))
    else pure (ForInStep.yield (none,())):Sem (ForInStep (Option Bool×Unit)))).run P w=.ok (if b then (none,()) else (some false,())) w
 | [],b,h=>by
  simp only [UK,Option.some.injEq] at h;subst h
  simp [Sem.run_pure]
 | fd::l,b,h=>by
  unfold UK at h
  rw [List.forIn_cons,Sem.run_bind]
  split at h
  ·rename_i hn
   have hn' : fd.name= "_":=by simpa using hn
   simp only [hn',ne_eq,not_true_eq_false,if_false,Sem.run_pure,Result.andThen_ok]
   exact Kf hf xs ys l b h
  ·rename_i hn
   have hn' : fd.name≠ "_":=by simpa using hn
   split at h
   case h_2=>cases h
   rename_i a c ha hc
   split at h
   case h_2=>cases h
   rename_i p q hp hq
   simp only [Option.some.injEq] at h;subst h
   rw [if_pos hn']
   simp only [Sem.run_bind,Z5 ha w,Z5 hc w,hf _ _ _ _ hp,Result.andThen_ok]
   cases p with
   | true =>
    simp only [Bool.not_true,Bool.false_eq_true,if_false,Sem.run_pure,Result.andThen_ok,Bool.true_and]
    exact Kf hf xs ys l q hq
   | false=>simp [Sem.run_pure,Result.andThen_ok]
theorem qf {P:Program} {w:World} {f:TypeId→Value→Value→Option Bool} {g:TypeId→Value→Value→Sem Bool} (hf:∀ t a b p,f t a b=some p→(g t a b).run P w=.ok p w) (xs ys:Array Value) (t:TypeId) (n:Nat) :
  ∀ (l:List Nat) (b:Bool),Xr P f xs ys t n l=some b →
   (forIn l (none,()) fun (i:Nat) (_:Option Bool×Unit)=>(do
     let a ← part t xs (i * n)
     let c ← part t ys (i * n)
     let r ← g t a c
     if (!r)=true then pure (ForInStep.done (some false,())) else pure (ForInStep.yield (none,())):Sem (ForInStep (Option Bool×Unit)))).run P w=.ok (if b then (none,()) else (some false,())) w
 | [],b,h=>by
  simp only [Xr,Option.some.injEq] at h;subst h
  simp [Sem.run_pure]
 | i::l,b,h=>by
  unfold Xr at h
  rw [List.forIn_cons,Sem.run_bind]
  split at h
  case h_2=>cases h
  rename_i a c ha hc
  split at h
  case h_2=>cases h
  rename_i p q hp hq
  simp only [Option.some.injEq] at h;subst h
  simp only [Sem.run_bind,Z5 ha w,Z5 hc w,hf _ _ _ _ hp,Result.andThen_ok]
  cases p with
  | true =>
   simp only [Bool.not_true,Bool.false_eq_true,if_false,Sem.run_pure,Result.andThen_ok,Bool.true_and]
   exact qf hf xs ys t n l q hq
  | false=>simp [Sem.run_pure,Result.andThen_ok]
theorem qx (w:World):∀ (d D:Nat) (t:TypeId) (x y:Value) (b:Bool),d≤D→eqA cx.P d t x y=some b→(Op.equalIn D t x y).run cx.P w=.ok b w
 | 0,_,_,_,_,_,_,h=>by simp [eqA] at h
 | d+1,0,_,_,_,_,hd,_=>by omega
 | d+1,D+1,t,x,y,b,hd,h=>by
  unfold eqA at h
  unfold Op.equalIn
  split at h
  ·rename_i hu
   simp only [Option.some.injEq] at h;subst h
   simp only [Sem.run_bind,Qh hu w,Result.andThen_ok,Sem.run_pure]
  ·rename_i hu
   split at h
   ·rename_i hk
    simp only [Option.some.injEq] at h;subst h
    simp only [Sem.run_bind,Qh hu w,Result.andThen_ok,of_decide_eq_true hk,if_true,Sem.run_pure]
   ·cases h
  ·rename_i hu
   simp only [Option.some.injEq] at h;subst h
   simp only [Sem.run_bind,Qh hu w,Result.andThen_ok,Sem.run_pure]
  ·rename_i hu
   split at h
   ·rename_i hk
    simp only [Option.some.injEq] at h;subst h
    simp only [Sem.run_bind,Qh hu w,Result.andThen_ok,of_decide_eq_true hk,if_true,Sem.run_pure]
   ·cases h
  ·rename_i fields xs ys hu
   split at h
   ·cases h
   rename_i hst
   have:=Kf (g:=Op.equalIn D) (fun t a b p hp=>qx w d D t a b p (by omega) hp) xs ys _ _ h
   simp only [Sem.run_bind,Qh hu w,run_program,Result.andThen_ok,hst,Bool.false_eq_true,if_false]
   rw [← Array.forIn_toList,this]
   cases b <;> simp [Result.andThen_ok,Sem.run_pure]
  ·rename_i len elem xs ys hu
   split at h
   case h_2=>cases h
   rename_i i hi
   have hsz:cx.sz elem=some i.size:=by unfold Cx.sz;rw [hi]
   have:=qf (g:=Op.equalIn D) (fun t a b p hp=>qx w d D t a b p (by omega) hp) xs ys _ _ _ _ h
   simp only [Sem.run_bind,Qh hu w,QE hsz w,Result.andThen_ok]
   rw [Std.Legacy.Range.forIn_eq_forIn_range']
   simp only [Std.Legacy.Range.size,Nat.sub_zero,Nat.add_sub_cancel,Nat.div_one]
   rw [this]
   cases b <;> simp [Result.andThen_ok,Sem.run_pure]
  ·cases h
theorem qe {op:BinOp} {t:TypeId} {x y:Operand} {xs ys:Array Value} (h:cx.P.eqGuardType cx.P.depth t=false) (w:World):(eqGuard op t x y (.agg xs) (.agg ys)).run cx.P w=.ok () w:=by
 unfold eqGuard
 split <;> simp [Sem.run_bind,run_program,Result.andThen_ok,h,Sem.run_pure]
theorem Ut (h:HSim cx F hp ρ w) {op:BinOp} (hop:op=.add ∨ op=.sub ∨ op=.mul ∨ op=.quo) {t:TypeId} {x y:Operand} {k k' : FloatKind} {a b:Nat} {q:D} {ob:List Prop} (hr:wS op k k' a b=some (q,ob)) (ho:∀ p,p∈ob→p) :
  ∃ v,(do eqGuard op t x y (.float k a) (.float k' b);binOp op t (.float k a) (.float k' b):Sem Value).run cx.P w=.ok v w∧VR w (MM F hp ρ) hp ρ (.d q) v:=by
 unfold wS at hr
 split at hr
 case h_2=>cases hr
 rename_i hk
 have hk:=of_decide_eq_true hk
 subst hk
 simp only [Option.some.injEq,Prod.mk.injEq] at hr;obtain ⟨rfl,rfl⟩:=hr
 have h1:=ho _ List.mem_cons_self
 obtain ⟨r,h2⟩:=Option.isSome_iff_exists.1 h1
 refine ⟨_,?_,.d _ _ (.v _)⟩
 rw [h2]
 rcases hop with rfl | rfl | rfl | rfl <;> simp only [fop] at h2 <;> simp [eqGuard,binOp,Op.floatArith,h2]
theorem yk (h:HSim cx F hp ρ w) {s t:TypeId} {a:Value} {q:D} {ob:List Prop} (hr:QbP cx sym s t a=some (q,ob)) (ho:∀ p,p∈ob→p) :
  ∃ v,(convert s t a:Sem Value).run cx.P w=.ok v w∧VR w (MM F hp ρ) hp ρ (.d q) v:=by
 unfold QbP at hr
 split at hr
 ·rename_i k j b hs ht
  simp only [Option.some.injEq,Prod.mk.injEq] at hr;obtain ⟨rfl,rfl⟩:=hr
  have h1:=ho _ List.mem_cons_self
  obtain ⟨r,h2⟩:=Option.isSome_iff_exists.1 h1
  refine ⟨_,?_,.d _ _ (.v _)⟩
  rw [h2]
  simp only [convert,Sem.run_bind,Qh hs w,Qh ht w,Result.andThen_ok]
  unfold f2f at h2
  unfold Conv.floatToFloat
  split at h2
  ·rename_i e;simp only [Option.some.injEq] at h2;subst h2;rw [if_pos e];rfl
  ·rename_i e;rw [if_neg e]
   revert h2
   cases j.decode b with
   | nan s t=>intro h2;cases h2
   | infinity s=>intro h2;simp only [Option.some.injEq] at h2;subst h2;rfl
   | number s m e' =>
    intro h2
    simp only at h2 ⊢
    split at h2
    ·cases h2
    ·rename_i e2;simp only [Option.some.injEq] at h2;subst h2;rw [if_neg e2];rfl
 ·rename_i k j b hs ht
  simp only [Option.some.injEq,Prod.mk.injEq] at hr;obtain ⟨rfl,rfl⟩:=hr
  have h1:=ho _ List.mem_cons_self
  obtain ⟨r,h2⟩:=Option.isSome_iff_exists.1 h1
  refine ⟨_,?_,.d _ _ (.v _)⟩
  rw [h2]
  simp only [convert,Sem.run_bind,Qh hs w,Qh ht w,Result.andThen_ok]
  unfold f2i at h2
  unfold Conv.floatToInt
  split at h2
  ·rename_i n hn
   rw [hn]
   split at h2
   ·rename_i e;simp only [Option.some.injEq] at h2;subst h2;simp only [if_pos e];rfl
   ·cases h2
  ·cases h2
 ·split at hr
  ·rename_i v hv
   simp only [Option.some.injEq,Prod.mk.injEq] at hr;obtain ⟨rfl,rfl⟩:=hr
   exact ⟨v,Z5 hv w,Ux _ _ _ _ _⟩
  ·cases hr
theorem QaA {x:D} {b:UInt8} (h:ua x=some b):∃ n:Int,x=.v (.int .u8 n)∧b=UInt8.ofNat n.toNat:=by
 unfold ua at h
 split at h <;> try cases h
 split at h <;> try cases h
 split at h <;> try cases h
 exact ⟨_,rfl,rfl⟩
theorem wM:∀ {ds:List D} {l:List UInt8},EE ds=some l→∃ ns:List Int,ds=ns.map (fun n=>.v (.int .u8 n))∧l=ns.map fun n=>UInt8.ofNat n.toNat
 | [],l,h=>by cases h;exact ⟨[],rfl,rfl⟩
 | x::ds,l,h=>by
  unfold EE at h
  split at h
  case h_2=>cases h
  rename_i b bs hb hbs
  cases h
  obtain ⟨n,rfl,rfl⟩:=QaA hb
  obtain ⟨ns,rfl,rfl⟩:=wM hbs
  exact ⟨n::ns,rfl,rfl⟩
theorem qQ:∀ (ns:List Int) (s:ByteArray),ns.foldl (fun r n=>r.push (UInt8.ofNat n.toNat)) s=⟨s.data++(ns.map fun n=>UInt8.ofNat n.toNat).toArray⟩
 | [],s=>by simp
 | n::ns,s=>by
  rw [List.foldl_cons,qQ ns]
  simp [ByteArray.push]
theorem qa {P:Program} {w:World} (f:Value→ByteArray→Sem (ForInStep ByteArray)) (hf:∀ (n:Int) (r:ByteArray),(f (.int .u8 n) r).run P w=.ok (.yield (r.push (UInt8.ofNat n.toNat))) w) :
  ∀ (l:List Int) (s:ByteArray),(forIn (l.map (Value.int .u8)) s f).run P w=.ok (l.foldl (fun r n=>r.push (UInt8.ofNat n.toNat)) s) w
 | [],s=>by simp [Sem.run_pure]
 | n::l,s=>by
  simp only [List.map_cons,List.forIn_cons,Sem.run_bind,hf,Result.andThen_ok,List.foldl_cons]
  exact qa f hf l _
theorem uZ {w:World} {s t e:TypeId} (hs:cx.P.underlying s=some (.slice e)) (ht:cx.P.underlying t=some .string) (he:cx.P.underlying e=some (.int .u8)) {xa:Option Addr} {xc:Nat} {ns:List Int}
  (h:(Builtin.firstCells 1 ns.length (.slice xa ns.length xc)).run cx.P w=.ok (ns.map (Value.int .u8)).toArray w) :
  (convert s t (.slice xa ns.length xc)).run cx.P w=.ok (.string ⟨(ns.map fun n=>UInt8.ofNat n.toNat).toArray⟩) w:=by
 have h1:(convert s t (.slice xa ns.length xc)).run cx.P w=(Conv.bytesToString (.slice xa ns.length xc)).run cx.P w:=by
  simp [convert,Qh hs,Qh ht,Qh he]
 rw [h1]
 cases xa with
 | none =>
  have:ns=[]:=by
   simp [Builtin.firstCells] at h
   cases ns with
   | nil=>rfl
   | cons a l=>simp at h
  subst this
  simp [Conv.bytesToString];rfl
 | some a =>
  have h2:(loadCells a ns.length).run cx.P w=.ok (ns.map (Value.int .u8)).toArray w:=by simpa [Builtin.firstCells] using h
  unfold Conv.bytesToString
  simp only [Sem.run_bind,h2,Result.andThen_ok,List.forIn_toArray]
  rw [qa _ (by intro n r;simp [Sem.run_pure]),qQ]
  simp [Sem.run_pure,ByteArray.empty,ByteArray.emptyWithCapacity]
  rfl
theorem jO (h:HSim cx F hp ρ w) {s t:TypeId} {x:AV} {v:Value} (hr:jP cx sym orc hp s t x=some r) (ho:∀ p,p∈r.ob→p) (hx:VR w (MM F hp ρ) hp ρ x v) :
  Good cx F hp ρ w r (do pure (.value (← convert s t v))):=by
 have key:∀ {e:TypeId} {ds:List D} {fs:List Nat} {l:List UInt8},cx.P.underlying s=some (.slice e)→cx.P.underlying t=some .string→cx.P.underlying e=some (.int .u8)→Vu hp x=some (1,ds,fs)→EE ds=some l →
   (convert s t v).run cx.P w=.ok (.string (ByteArray.mk l.toArray)) w:=by
  intro e ds fs l hs ht he ha hb
  obtain ⟨ns,rfl,rfl⟩:=wM hb
  obtain ⟨xa,xc,news,rfl,hnl,hn2,n3,hn4,hn5⟩:=VO h ha (.inl rfl) hx
  rw [List.length_map] at hnl hn2 ⊢
  refine uZ hs ht he ?_
  rw [hn2 w rfl]
  congr 2
  apply List.ext_getElem?
  intro i
  by_cases hi:i < ns.length
  ·obtain ⟨y,y1,_,y3⟩:=hn5 i (.v (.int .u8 ns[i])) 0 (.v (.int .u8 ns[i])) (by simp [hi]) rfl
   rw [Nat.mul_one,Nat.add_zero] at y1
   rw [y1]
   cases y3
   simp [hi]
  ·rw [List.getElem?_eq_none (by omega),List.getElem?_eq_none (by simp;omega)]
 unfold jP at hr
 split at hr
 case h_2=>cases hr
 rename_i e ds fs hs ht ha
 split at hr
 ·rename_i b o' he _
  simp only [Option.some.injEq] at hr;subst hr
  have h1:=ho _ List.mem_cons_self
  obtain ⟨l,h2,rfl⟩:=Option.map_eq_some_iff.1 h1
  exact Good.of1 ⟨_,key hs ht he ha h2,OpOK.quiet h (.d _ _ (.v _))⟩
 ·rename_i o' he _
  split at hr
  case h_2=>cases hr
  rename_i l hl
  simp only [Option.some.injEq] at hr;subst hr
  exact Good.of1 ⟨_,key hs ht he ha hl,OpOK.quiet h (.d _ _ (.v _))⟩
 ·cases hr
theorem QaO {M:Nat→Prop} {x:D} {y:Value} (h:DR w M x y):DR w M (wk1 x) y:=by
 cases h with
 | lst f sz es a cap blk off ys h1 h2 h3 h4 h5 h6 =>
  cases es with
  | nil=>exact .lst false 1 [] a cap blk off ys (fun h=>by cases h) h2 h3 (fun i e h=>by simp at h) (fun i e j c h=>by simp at h) (fun i e j c h=>by simp at h)
  | cons x l=>exact .lst false sz (x::l) a cap blk off ys (fun h=>by cases h) h2 h3 h4 h5 h6
 | v=>exact .v _
 | agg cs ys hl h=>exact .agg cs ys hl h
 | tup cs ys hl h=>exact .tup cs ys hl h
 | fn f a b xs ys hl hm h k=>exact .fn f a b xs ys hl hm h k
 | ref x off blk o ys hm hb hw h=>exact .ref x off blk o ys hm hb hw h
 | nan k b h=>exact .nan k b h
theorem wb (e:D):(wk1 e).cells=e.cells ∨ (e.cells=[e]∧(wk1 e).cells=[wk1 e]):=by
 cases e with
 | lst f s l =>
  cases l with
  | nil=>exact .inr ⟨by simp [D.cells],by simp [wk1,D.cells]⟩
  | cons x l=>exact .inr ⟨by simp [D.cells],by simp [wk1,D.cells]⟩
 | _=>exact .inl rfl
theorem Qcz {M:Nat→Prop} {f:Bool} {sz:Nat} {es:List D} {y:Value} (h:DR w M (.lst f sz es) y):DR w M (.lst f sz (es.map wk1)) y:=by
 cases h with
 | lst _ _ _ a cap blk off ys h1 h2 h3 h4 h5 h6 =>
  have key:∀ (i:Nat) (e:D) (j:Nat) (c:D),(es.map wk1)[i]?=some e→e.cells[j]?=some c→∃ (e' c' : D),es[i]?=some e'∧e'.cells[j]?=some c'∧∀ y,DR w M c' y→DR w M c y:=by
   intro i e j c hi hj
   rw [List.getElem?_map] at hi
   obtain ⟨e',k1,rfl⟩:=Option.map_eq_some_iff.1 hi
   rcases wb e' with q | ⟨q1,q2⟩
   ·rw [q] at hj;exact ⟨e',c,k1,hj,fun y h=>h⟩
   ·rw [q2] at hj
    cases j with
    | zero =>
     simp only [List.getElem?_cons_zero,Option.some.injEq] at hj
     subst hj
     exact ⟨e',e',k1,by rw [q1];rfl,fun y h=>QaO h⟩
    | succ j=>simp at hj
  have r:=DR.lst (w:=w) (M:=M) f sz (es.map wk1) a cap blk off ys (fun h=>by rw [List.length_map];exact h1 h) (by rw [List.length_map];exact h2) (fun h=>h3 fun e=>h (by rw [e];rfl))
   (fun i e hi=>by
    rw [List.getElem?_map] at hi
    obtain ⟨e',k1,rfl⟩:=Option.map_eq_some_iff.1 hi
    rcases wb e' with q | ⟨q1,q2⟩
    ·rw [q];exact h4 i e' k1
    ·have:=h4 i e' k1
     rw [q1] at this;rw [q2];exact this)
   (fun i e j c hi hj=>by
    obtain ⟨e',c',k1,k2,_⟩:=key i e j c hi hj
    exact h5 i e' j c' k1 k2)
   (fun i e j c hi hj=>by
    obtain ⟨e',c',k1,k2,k3⟩:=key i e j c hi hj
    exact k3 _ (h6 i e' j c' k1 k2))
  rwa [List.length_map] at r
theorem QcA {M:Nat→Prop} {x:AV} {y:Value} (h:VR w M hp ρ x y):VR w M hp ρ (wkA x) y:=by
 unfold wkA
 split
 ·cases h with
  | d _ _ h =>
   split
   ·cases h with
    | agg cs ys hl h =>
     refine .d _ _ (.agg _ ys (by simpa using hl) fun i c v hc hv=>?_)
     rw [List.getElem?_map] at hc
     obtain ⟨c0,h0,rfl⟩:=Option.map_eq_some_iff.1 hc
     exact QaO (h i c0 v h0 hv)
   ·exact .d _ _ h
 ·exact h
theorem um (h:HSim cx F hp ρ w) {op:BinOp} {t:TypeId} {x y:Operand} {a b:Value} {q:D} {ob:List Prop} (hr:abin cx sym op t x y a b=some (q,ob)) (ho:∀ p,p∈ob→p) :
  ∃ v,(do eqGuard op t x y a b;binOp op t a b:Sem Value).run cx.P w=.ok v w∧VR w (MM F hp ρ) hp ρ (.d q) v:=by
 unfold abin at hr
 split at hr
 ·simp only [Option.some.injEq,Prod.mk.injEq] at hr;obtain ⟨rfl,rfl⟩:=hr
  refine ⟨_,?_,.d _ _ (.v _)⟩
  have:=qq (ho _ List.mem_cons_self)
  simp [eqGuard,binOp,Op.intArith,this]
 ·simp only [Option.some.injEq,Prod.mk.injEq] at hr;obtain ⟨rfl,rfl⟩:=hr
  refine ⟨_,?_,.d _ _ (.v _)⟩
  have:=qq (ho _ List.mem_cons_self)
  simp [eqGuard,binOp,Op.intArith,this]
 ·simp only [Option.some.injEq,Prod.mk.injEq] at hr;obtain ⟨rfl,rfl⟩:=hr
  refine ⟨_,?_,.d _ _ (.v _)⟩
  have:=qq (ho _ List.mem_cons_self)
  simp [eqGuard,binOp,Op.intArith,this]
 ·simp only [Option.some.injEq,Prod.mk.injEq] at hr;obtain ⟨rfl,rfl⟩:=hr
  refine ⟨_,?_,.d _ _ (.v _)⟩
  have h1:=ho _ List.mem_cons_self
  have h2:=qq (ho _ (List.mem_cons_of_mem _ List.mem_cons_self))
  simp [eqGuard,binOp,Op.intDiv,h1,h2]
 ·simp only [Option.some.injEq,Prod.mk.injEq] at hr;obtain ⟨rfl,rfl⟩:=hr
  refine ⟨_,?_,.d _ _ (.v _)⟩
  have h1:=ho _ List.mem_cons_self
  simp [eqGuard,binOp,Op.intDiv,h1]
 ·exact Ut h (Or.inl rfl) hr ho
 ·exact Ut h (Or.inr (Or.inl rfl)) hr ho
 ·exact Ut h (Or.inr (Or.inr (Or.inl rfl))) hr ho
 ·exact Ut h (Or.inr (Or.inr (Or.inr rfl))) hr ho
 ·rename_i a b
  simp only [Option.some.injEq,Prod.mk.injEq] at hr;obtain ⟨rfl,rfl⟩:=hr
  refine ⟨_,?_,.d _ _ (.v _)⟩
  have h1:a.size+b.size≤9223372036854775807:=ho _ List.mem_cons_self
  have h2:¬ (((a.size+b.size:Nat):Int) > IntKind.i64.max):=by
   have:IntKind.i64.max=9223372036854775807:=by decide
   rw [this];omega
  simp only [eqGuard,binOp,Op.stringOp,Sem.run_bind,Result.andThen_ok,h2,if_false]
  rfl
 ·rename_i a b
  simp only [Option.some.injEq,Prod.mk.injEq] at hr;obtain ⟨rfl,rfl⟩:=hr
  refine ⟨_,?_,.d _ _ (.v _)⟩
  have h1:0≤b:=ho _ List.mem_cons_self
  have h2:¬ b < 0:=by omega
  simp only [eqGuard,binOp,Op.shift,if_neg h2,IntKind.bits]
  rfl
 ·rename_i a b
  simp only [Option.some.injEq,Prod.mk.injEq] at hr;obtain ⟨rfl,rfl⟩:=hr
  refine ⟨_,?_,.d _ _ (.v _)⟩
  have h1:0≤b:=ho _ List.mem_cons_self
  have h2:¬ b < 0:=by omega
  simp only [eqGuard,binOp,Op.shift,if_neg h2,IntKind.bits]
  rfl
 ·split at hr
  case h_2=>cases hr
  rename_i b hg hb
  simp only [Option.some.injEq,Prod.mk.injEq] at hr;obtain ⟨rfl,rfl⟩:=hr
  refine ⟨.bool b,?_,.d _ _ (.v _)⟩
  have h1:=qx w 12 Op.maxDepth _ _ _ _ (by decide) hb
  simp only [Sem.run_bind,qe hg w,Result.andThen_ok,binOp,Op.equal,h1,Sem.run_pure]
 ·split at hr
  case h_2=>cases hr
  rename_i b hg hb
  simp only [Option.some.injEq,Prod.mk.injEq] at hr;obtain ⟨rfl,rfl⟩:=hr
  refine ⟨.bool !b,?_,.d _ _ (.v _)⟩
  have h1:=qx w 12 Op.maxDepth _ _ _ _ (by decide) hb
  simp only [Sem.run_bind,qe hg w,Result.andThen_ok,binOp,Op.equal,h1,Sem.run_pure]
 ·split at hr
  ·rename_i v hv
   simp only [Option.some.injEq,Prod.mk.injEq] at hr;obtain ⟨rfl,rfl⟩:=hr
   exact ⟨v,Z5 hv w,Ux _ _ _ _ _⟩
  ·cases hr
theorem qt (h:HSim cx F hp ρ w) {s:Sem Value} (hr:(match ZJ cx.P s with | some x=>SX.val1 (.d (ofV x)) orc | none=>none)=some r):Good cx F hp ρ w r (do pure (.value (← s))):=by
 split at hr
 ·rename_i x hx
  exact Good.val1 h hr (Z5 hx w) (Ux _ _ _ _ _)
 ·cases hr
theorem Uk (hev:∀ x,VR w (MM F hp ρ) hp ρ (ev x) (re x)) (l:List Operand) :
  (l.map ev).length=(l.map re).length∧∀ (i:Nat) (c:AV) (y:Value),(l.map ev)[i]?=some c→(l.map re)[i]?=some y→VR w (MM F hp ρ) hp ρ c y:=by
 refine ⟨by simp,fun i c y hc hy=>?_⟩
 simp only [List.getElem?_map] at hc hy
 cases hx:l[i]? with
 | none=>rw [hx] at hc;cases hc
 | some x =>
  rw [hx] at hc hy
  simp only [Option.map_some,Option.some.injEq] at hc hy
  subst hc;subst hy;exact hev x
theorem Kn:∀ (l:List AV) (ys vs:List Value),yj l=some vs→l.length=ys.length→(∀ (i:Nat) (c:AV) (y:Value),l[i]?=some c→ys[i]?=some y→VR w (MM F hp ρ) hp ρ c y)→ys=vs
 | [],ys,vs,h,hl,_=>by simp only [yj,Option.some.injEq] at h;subst h;cases ys <;> simp_all
 | x::l,ys,vs,h,hl,hh=>by
  simp only [yj] at h
  split at h <;> simp only [Option.some.injEq,reduceCtorEq] at h
  rename_i v vs' h1 h2;subst h
  cases ys with
  | nil=>simp at hl
  | cons y ys =>
   rw [YT h1 (hh 0 x y rfl rfl),Kn l ys vs' h2 (by simpa using hl) (fun i c z hc hz=>hh (i+1) c z (by simpa using hc) (by simpa using hz))]
theorem Xt (h:HSim cx F hp ρ w) {x:AV} {v:Value} {es:List D} (he:VL hp x=some es) (hx:VR w (MM F hp ρ) hp ρ x v):∃ a c,v=.slice a es.length c:=by
 unfold VL at he
 split at he
 ·simp only [Option.some.injEq] at he;subst he
  cases hx with
  | d _ _ hx=>cases hx;exact ⟨_,_,rfl⟩
 ·rename_i b ver
  cases hx with
  | own _ _ k _ hb hv hone hh =>
  rw [hb] at he
  cases k with
  | box _=>simp at he
  | loop _ _ _ _ _ _=>simp at he
  | mp _=>simp at he
  | it _ _=>simp at he
  | fbox _=>simp at he
  | left _=>simp at he
  | dead=>simp at he
  | row ver' sz es' =>
   simp only at he
   split at he <;> simp only [Option.some.injEq,reduceCtorEq] at he
   rename_i hc;have:=Q4 hc;subst this;subst he
   rcases h.blk b _ hb with ⟨q0,_,q1⟩ | ⟨_,_,_,_,q1,_⟩
   ·rw [hh rfl,q1,q0];exact ⟨_,_,rfl⟩
   ·rw [hh rfl,q1];exact ⟨_,_,rfl⟩
  | frozen ver' sz es' =>
   simp only at he
   split at he <;> simp only [Option.some.injEq,reduceCtorEq] at he
   rename_i hc;have:=Q4 hc;subst this;subst he
   rw [hh rfl]
   have:=h.blk b _ hb
   simp only [BlkR] at this
   generalize ρ b=bv at this ⊢
   cases this;exact ⟨_,_,rfl⟩
  | virt ver' sz es' =>
   simp only at he
   split at he <;> simp only [Option.some.injEq,reduceCtorEq] at he
   rename_i hc;have:=Q4 hc;subst this;subst he
   rw [hh rfl]
   have:=h.blk b _ hb
   simp only [BlkR] at this
   generalize ρ b=bv at this ⊢
   cases this;exact ⟨_,_,rfl⟩
 ·rename_i b ver sz lo n
  split at he <;> simp only [Option.some.injEq,reduceCtorEq] at he
  rename_i hc;subst he
  cases hx with
  | sub _ _ _ _ _ k _ hb hv hone hh =>
   unfold Kj at hc
   rw [hb] at hc
   obtain ⟨r0,c0,_,rfl⟩:=hh (Nat.eq_of_beq_eq_true hc)
   exact ⟨some ⟨r0,lo * sz,none⟩,c0,by rw [List.length_replicate]⟩
 ·cases he
theorem QcO {M:Nat→Prop} {x:AV} {v:Value} (h:VR w M hp ρ x v):VR w M hp ρ (emp x) v:=by
 unfold emp
 split
 ·rename_i a c
  rw [G7 h]
  exact .d _ _ (.lst false 0 [] a c 0 0 (fun _=>undef) (fun h=>by cases h) (Nat.zero_le _) (fun h=>absurd rfl h) (fun i e h=>by simp at h) (fun i e j c h=>by simp at h) (fun i e j c h=>by simp at h))
 ·exact h
theorem zE (h:HSim cx F hp ρ w) (hev:∀ x,VR w (MM F hp ρ) hp ρ (ev x) (re x)) {name:Nat} {b:Builtin} {ats:Array TypeId} {ty:TypeId} {args:Array Operand} {consts:Array Bool}
  (hr:US cx sym orc hp name b ats ty (args.toList.map ev)=some r) (ho:∀ q,q∈r.ob→q):Good cx F hp ρ w r (builtin b ats ty consts (args.map re)):=by
 obtain ⟨l1,l2⟩:=Uk hev args.toList
 have hargs:(args.map re).toList=args.toList.map re:=by simp
 unfold US at hr
 split at hr
 ·split at hr
  case h_2=>cases hr
  rename_i t t2 rest s x hats hl
  rw [hl] at l1 l2
  have h2:∃ sv xv,args.toList.map re=[sv,xv]:=by
   match hm:args.toList.map re,l1 with
   | [a,b],_=>exact ⟨a,b,rfl⟩
  obtain ⟨sv,xv,h2⟩:=h2
  rw [h2] at l2
  have ha:args.map re=#[sv,xv]:=by rw [← Array.toArray_toList (xs:=args.map re),hargs,h2]
  have hat:ats=(t::t2::rest).toArray:=by rw [← hats]
  rw [ha,hat]
  split at hr
  ·rename_i ht2
   split at hr
   ·exact Good.of (uh h ht2 hr ho (l2 0 _ _ rfl rfl) (l2 1 _ _ rfl rfl))
   ·exact Good.of (zZ h ht2 hr ho (l2 0 _ _ rfl rfl) (QcO (l2 1 _ _ rfl rfl)))
  ·exact Good.of (yS h hr ho (l2 0 _ _ rfl rfl) (l2 1 _ _ rfl rfl))
 ·split at hr
  case h_2=>cases hr
  rename_i t rest d s hats hl
  rw [hl] at l1 l2
  have h2:∃ sv xv,args.toList.map re=[sv,xv]:=by
   match hm:args.toList.map re,l1 with
   | [a,b],_=>exact ⟨a,b,rfl⟩
  obtain ⟨sv,xv,h2⟩:=h2
  rw [h2] at l2
  have ha:args.map re=#[sv,xv]:=by rw [← Array.toArray_toList (xs:=args.map re),hargs,h2]
  have hat:ats=(t::rest).toArray:=by rw [← hats]
  rw [ha,hat]
  exact Good.of (yY h hr (l2 0 _ _ rfl rfl) (l2 1 _ _ rfl rfl))
 ·split at hr
  case h_2=>cases hr
  rename_i x hl
  rw [hl] at l1 l2
  have h2:∃ xv,args.toList.map re=[xv]:=by
   match hm:args.toList.map re,l1 with
   | [a],_=>exact ⟨a,rfl⟩
  obtain ⟨xv,h2⟩:=h2
  rw [h2] at l2
  have ha:args.map re=#[xv]:=by rw [← Array.toArray_toList (xs:=args.map re),hargs,h2]
  rw [ha]
  have hx:=l2 0 _ _ rfl rfl
  split at hr
  ·rename_i es hes
   split at hr
   case h_2=>cases hr
   rename_i t rest hats
   split at hr
   case h_2=>cases hr
   rename_i e hu
   have hat:ats=(t::rest).toArray:=by rw [← hats]
   obtain ⟨a,c,rfl⟩:=Xt h hes hx
   refine Good.val1 h hr (v:=.int .i64 es.length) ?_ (.d _ _ (.v _))
   have h1:=Qh hu w
   rw [hat]
   simp [Builtin.len_,h1,goInt]
  ·split at hr
   case h_2=>cases hr
   rename_i v hv
   rw [YT hv hx]
   exact qt h hr
 ·split at hr
  case h_2=>cases hr
  rename_i vs hvs
  have:=Kn _ _ vs hvs l1 l2
  have ha:args.map re=vs.toArray:=by rw [← Array.toArray_toList (xs:=args.map re),hargs,this]
  rw [ha]
  exact qt h hr
 ·split at hr
  case h_2=>cases hr
  rename_i vs hvs
  have:=Kn _ _ vs hvs l1 l2
  have ha:args.map re=vs.toArray:=by rw [← Array.toArray_toList (xs:=args.map re),hargs,this]
  rw [ha]
  exact qt h hr
 ·split at hr
  case h_2=>cases hr
  rename_i fz es t rest hl hats
  split at hr
  case h_2=>cases hr
  rename_i e hu
  rw [hl] at l1 l2
  have h2:∃ xv,args.toList.map re=[xv]:=by
   match hm:args.toList.map re,l1 with
   | [a],_=>exact ⟨a,rfl⟩
  obtain ⟨xv,h2⟩:=h2
  rw [h2] at l2
  have ha:args.map re=#[xv]:=by rw [← Array.toArray_toList (xs:=args.map re),hargs,h2]
  rw [ha]
  have hx:=l2 0 _ _ rfl rfl
  have hat:ats=(t::rest).toArray:=by rw [← hats]
  rw [hat]
  cases hx with
  | d _ _ hx =>
   cases hx with
   | lst _ _ _ a cap blk off ys hf hc hb hs' hw hd' =>
    refine Good.val1 h hr (v:=.int .i64 es.length) ?_ (.d _ _ (.v _))
    have h1:=Qh hu w
    simp [Builtin.cap_,h1,goInt,hf rfl]
 ·split at hr
  case h_2=>cases hr
  rename_i x t rest hl hats
  rw [hl] at l1 l2
  have h2:∃ xv,args.toList.map re=[xv]:=by
   match hm:args.toList.map re,l1 with
   | [a],_=>exact ⟨a,rfl⟩
  obtain ⟨xv,h2⟩:=h2
  rw [h2] at l2
  have ha:args.map re=#[xv]:=by rw [← Array.toArray_toList (xs:=args.map re),hargs,h2]
  have hat:ats=(t::rest).toArray:=by rw [← hats]
  rw [ha,hat]
  exact Good.of (ye h hr ho (l2 0 _ _ rfl rfl))
 ·cases hr
theorem QbA {cx:Cx} (w:World) (d:Nat) (t e:TypeId) (a:Addr) (l c:Nat) (h:cx.P.underlying t=some (.slice e)):(Op.equalIn (d+1) t (.slice (some a) l c) (.slice none 0 0)).run cx.P w=.ok false w:=by
 simp [Op.equalIn,Sem.run_bind,Qh h w,Result.andThen_ok,Sem.run_pure]
theorem wD {cx:Cx} (w:World) (t e:TypeId) (a:Addr) (l c:Nat) (h:cx.P.underlying t=some (.slice e)):(Op.equal t (.slice (some a) l c) (.slice none 0 0)).run cx.P w=.ok false w:=QbA w 9999 t e a l c h
theorem jo {M:Nat→Prop} (hcst:∀ v,re (.const v)=v) {op:BinOp} {t:TypeId} {x:AV} {xo y:Operand} {v:Value} {q:D} {ob:List Prop} (hr:JD cx op t x y=some (q,ob)) (ho:∀ p,p∈ob→p) (hx:VR w M hp ρ x v) :
  ∃ u,(do eqGuard op t xo y v (re y);binOp op t v (re y):Sem Value).run cx.P w=.ok u w∧VR w (MM F hp ρ) hp ρ (.d q) u:=by
 unfold JD at hr
 have key:∀ (elem:TypeId) (full:Bool) (sz:Nat) (es:List SX.D),cx.P.underlying t=some (.slice elem)→x=.d (.lst full sz es)→es≠[]→∃ a n c,v=.slice (some a) n c:=by
  intro elem full sz es _ hxe hne
  subst hxe
  cases hx with
  | d _ _ hx =>
   cases hx with
   | lst _ _ _ a cap blk off ys hf hc ha hs' hw hd' =>
    obtain ⟨g1,_⟩:=ha hne
    subst g1
    exact ⟨_,_,_,rfl⟩
 split at hr
 ·rename_i hu
  simp only [Option.some.injEq,Prod.mk.injEq] at hr;obtain ⟨rfl,rfl⟩:=hr
  obtain ⟨a,n,c,rfl⟩:=key _ _ _ _ hu rfl (ho _ List.mem_cons_self)
  rw [hcst]
  refine ⟨.bool false,?_,.d _ _ (.v _)⟩
  have h1:=wD w t _ a n c hu
  simp [eqGuard,binOp,h1]
 ·rename_i hu
  simp only [Option.some.injEq,Prod.mk.injEq] at hr;obtain ⟨rfl,rfl⟩:=hr
  obtain ⟨a,n,c,rfl⟩:=key _ _ _ _ hu rfl (ho _ List.mem_cons_self)
  rw [hcst]
  refine ⟨.bool true,?_,.d _ _ (.v _)⟩
  have h1:=wD w t _ a n c hu
  simp [eqGuard,binOp,h1]
 ·cases hr
theorem Qbz {cx:Cx} (w:World) (d:Nat) (t e:TypeId) (a:Addr) (h:cx.P.underlying t=some (.pointer e)):(Op.equalIn (d+1) t (.pointer (some a)) (.pointer none)).run cx.P w=.ok false w:=by
 simp [Op.equalIn,Sem.run_bind,Qh h w,Result.andThen_ok,Sem.run_pure]
theorem wC {cx:Cx} (w:World) (t e:TypeId) (a:Addr) (h:cx.P.underlying t=some (.pointer e)):(Op.equal t (.pointer (some a)) (.pointer none)).run cx.P w=.ok false w:=Qbz w 9999 t e a h
theorem zg {M:Nat→Prop} {x:AV} {v:Value} (h:Ej hp x=true) (hx:VR w M hp ρ x v):∃ a,v=.pointer (some a):=by
 cases x with
 | ptr b ver sz i off =>
  cases hx with
  | ptr _ _ _ _ _ k _ hb hv ho hh =>
   simp only [Ej,hb] at h
   obtain ⟨r,_,hy⟩:=hh (Nat.eq_of_beq_eq_true h).symm
   exact ⟨_,hy⟩
 | dptr y o =>
  cases hx with
  | dptr _ _ blk o' hd=>exact ⟨_,rfl⟩
 | _=>cases h
theorem zO {M:Nat→Prop} (hcst:∀ v,re (.const v)=v) {op:BinOp} {t:TypeId} {x:AV} {xo y:Operand} {v:Value} {q:D} {ob:List Prop} (hr:Vn hp cx op t x y=some (q,ob)) (hx:VR w M hp ρ x v) :
  ∃ u,(do eqGuard op t xo y v (re y);binOp op t v (re y):Sem Value).run cx.P w=.ok u w∧VR w (MM F hp ρ) hp ρ (.d q) u:=by
 unfold Vn at hr
 split at hr
 ·rename_i hu hp'
  simp only [Option.some.injEq,Prod.mk.injEq] at hr;obtain ⟨rfl,rfl⟩:=hr
  obtain ⟨a,rfl⟩:=zg hp' hx
  rw [hcst]
  refine ⟨.bool false,?_,.d _ _ (.v _)⟩
  have h1:=wC w t _ a hu
  simp [eqGuard,binOp,h1]
 ·rename_i hu hp'
  simp only [Option.some.injEq,Prod.mk.injEq] at hr;obtain ⟨rfl,rfl⟩:=hr
  obtain ⟨a,rfl⟩:=zg hp' hx
  rw [hcst]
  refine ⟨.bool true,?_,.d _ _ (.v _)⟩
  have h1:=wC w t _ a hu
  simp [eqGuard,binOp,h1]
 ·cases hr
theorem Qat {k:Blk} {x:SX.D} (h:Qbx k=some x):k=.fbox x:=by
 cases k <;> first | (cases h;rfl) | cases h
theorem uU (h:HSim cx F hp ρ w) {x:AV} {y:Value} (hv:VR w (MM F hp ρ) hp ρ x y):VR w (MM F hp ρ) hp ρ (unf hp x) y:=by
 cases x with
 | ptr b ver sz i off =>
  show VR w (MM F hp ρ) hp ρ (wV hp b ver sz i off) y
  unfold wV
  cases hl:Gy hp b with
  | none=>exact hv
  | some x =>
   unfold Gy at hl
   cases hb:look hp b with
   | none=>rw [hb] at hl;cases hl
   | some k =>
    rw [hb] at hl
    have hk:=Qat hl
    subst hk
    simp only
    cases hc:Nat.beq ver 0 && Nat.beq i 0 with
    | false=>exact hv
    | true =>
     simp only [Bool.and_eq_true] at hc
     have h1:=Q4 hc.1
     have h2:=Q4 hc.2
     subst h1;subst h2
     cases hv with
     | ptr _ _ _ _ _ k' _ hb' _ _ hh =>
      rw [hb] at hb';cases hb'
      obtain ⟨r,hr,hy⟩:=hh rfl
      obtain ⟨r',q1,q2⟩:=h.blk b _ hb
      rw [q1] at hr
      have:r'=r:=by simpa [QA] using hr
      subst this
      rw [hy,Nat.zero_mul]
      exact .dptr x off _ 0 q2
 | d _=>exact hv
 | agg _=>exact hv
 | tup _=>exact hv
 | dptr _ _=>exact hv
 | own _ _=>exact hv
 | sub _ _ _ _ _=>exact hv
 | fn _ _ _=>exact hv
 | junk=>exact hv
theorem yL {n u v:Nat} (hv:v < 8388607) (hn:n=u * 2147483648+2139095041+v):(Ieee.single.read n).isNaN=true:=by
 have hr:n % 2147483648=2139095041+v:=by omega
 unfold Ieee.Format.read
 have e1:Ieee.single.signWeight=2147483648:=by decide
 have e2:Ieee.single.binade=8388608:=by decide
 have e3:Ieee.single.infRung=2139095040:=by decide
 simp only [e1,e2,e3,hr]
 rw [if_neg (by omega),if_neg (by omega),if_neg (by omega)];rfl
theorem yM {n u v:Nat} (hv:v < 4503599627370495) (hn:n=u * 9223372036854775808+9218868437227405313+v):(Ieee.double.read n).isNaN=true:=by
 have hr:n % 9223372036854775808=9218868437227405313+v:=by omega
 unfold Ieee.Format.read
 have e1:Ieee.double.signWeight=9223372036854775808:=by decide
 have e2:Ieee.double.binade=4503599627370496:=by decide
 have e3:Ieee.double.infRung=9218868437227405312:=by decide
 simp only [e1,e2,e3,hr]
 rw [if_neg (by omega),if_neg (by omega),if_neg (by omega)];rfl
theorem kE (k:FloatKind) (t:Nat):(k.decode (match k with
  | .f32=>(t % 2) * 2 ^ 31+0x7f800000+1+(t / 2) % (2 ^ 23 - 1)
  | .f64=>(t % 2) * 2 ^ 63+0x7ff0000000000000+1+(t / 2) % (2 ^ 52 - 1))).isNaN=true:=by
 cases k with
 | f32 =>
  refine yL (u:=t % 2) (v:=(t / 2) % (2 ^ 23 - 1)) (Nat.mod_lt _ (by decide)) ?_
  show (t % 2) * 2 ^ 31+0x7f800000+1+(t / 2) % (2 ^ 23 - 1)=_
  generalize (t / 2) % (2 ^ 23 - 1)=v
  omega
 | f64 =>
  refine yM (u:=t % 2) (v:=(t / 2) % (2 ^ 52 - 1)) (Nat.mod_lt _ (by decide)) ?_
  show (t % 2) * 2 ^ 63+0x7ff0000000000000+1+(t / 2) % (2 ^ 52 - 1)=_
  generalize (t / 2) % (2 ^ 52 - 1)=v
  omega
theorem Qbe (k:FloatKind) (x y t:Nat):(k.decode ((Question.nanBits k x y).cut t)).isNaN=true:=by
 have:=kE k t
 cases k <;> exact this
theorem Qaj (k:FloatKind) (x t:Nat):(k.decode ((Question.nanConv k x).cut t)).isNaN=true:=by
 have:=kE k t
 cases k <;> exact this
theorem kU (h:HSim cx F hp ρ w) {k:FloatKind} {b:Nat} (hb:(k.decode b).isNaN=true):OpOK cx F hp ρ w [] (.d (.nan k)) (.float k b) w.drew :=
 ⟨ρ,h.drew.1,h.drew.2,.d _ _ (.nan k b hb)⟩
theorem jq (h:HSim cx F hp ρ w) {op:BinOp} {t:TypeId} {xo yo:Operand} {x y:AV} {u v:Value} (hr:yN op x y orc=some r) (ho:∀ p,p∈r.ob→p) (hx:VR w (MM F hp ρ) hp ρ x u) (hy:VR w (MM F hp ρ) hp ρ y v) :
  Good cx F hp ρ w r (do pure (.value (← (do eqGuard op t xo yo u v;binOp op t u v:Sem Value)))):=by
 unfold yN at hr
 split at hr
 case h_2=>cases hr
 rename_i k a k' b
 split at hr
 case h_2=>cases hr
 rename_i hk
 have hk:=of_decide_eq_true hk
 subst hk
 simp only [Option.some.injEq] at hr;subst hr
 rw [G7 hx,G7 hy]
 have h1:k.format.mul a b=none:=ho _ List.mem_cons_self
 refine Good.of ⟨_,_,?_,kU h (Qbe k a b (w.tape w.drawn (.nanBits k a b)))⟩
 have h2:(Question.nanBits k a b).forced=false:=rfl
 simp [eqGuard,binOp,Op.floatArith,h1,h2]
theorem kG (h:HSim cx F hp ρ w) {op:BinOp} {t:TypeId} {xo yo:Operand} {x y:AV} {u v:Value} (hr:uB op x y orc=some r) (hx:VR w (MM F hp ρ) hp ρ x u) (hy:VR w (MM F hp ρ) hp ρ y v) :
  Good cx F hp ρ w r (do pure (.value (← (do eqGuard op t xo yo u v;binOp op t u v:Sem Value)))):=by
 unfold uB at hr
 split at hr
 case h_2=>cases hr
 rename_i k k'
 split at hr
 case h_2=>cases hr
 rename_i hk
 have hk:=of_decide_eq_true hk
 subst hk
 cases hx with
 | d _ _ hx =>
 cases hy with
 | d _ _ hy =>
 cases hx with
 | nan _ a ha =>
 cases hy with
 | nan _ b hb =>
 refine Good.val1 (v:=.bool true) h hr ?_ (.d _ _ (.v _))
 have h1:k.format.order a b=none:=by
  unfold Ieee.Format.order
  change (k.format.read a).isNaN=true at ha
  generalize k.format.read a=q at *
  cases q <;> first | rfl | cases ha
 simp [eqGuard,binOp,Op.floatCmp,h1]
theorem kY (h:HSim cx F hp ρ w) {s t:TypeId} {j i k:FloatKind} {b:Nat} (hs:cx.P.underlying s=some (.float i)) (ht:cx.P.underlying t=some (.float k)) (hb:(j.decode b).isNaN=true) :
  ∃ v w',(convert s t (.float j b):Sem Value).run cx.P w=.ok v w'∧OpOK cx F hp ρ w [] (.d (.nan k)) v w':=by
 by_cases e:j=k
 ·subst e
  refine ⟨.float j b,w,?_,OpOK.quiet h (.d _ _ (.nan j b hb))⟩
  simp [convert,Qh hs w,Qh ht w,Conv.floatToFloat]
 ·refine ⟨_,_,?_,kU h (Qaj k b (w.tape w.drawn (.nanConv k b)))⟩
  have h3:∃ p q,j.decode b=.nan p q:=by
   revert hb
   cases j.decode b with
   | nan p q=>intro _;exact ⟨p,q,rfl⟩
   | infinity _=>intro h;cases h
   | number _ _ _=>intro h;cases h
  obtain ⟨p,q,h3⟩:=h3
  have h2:(Question.nanConv k b).forced=false:=rfl
  simp [convert,Qh hs w,Qh ht w,Conv.floatToFloat,e,h3,h2]
theorem zP (h:HSim cx F hp ρ w) {s t:TypeId} {x:AV} {v:Value} (hr:nanConv cx s t x orc=some r) (ho:∀ p,p∈r.ob→p) (hx:VR w (MM F hp ρ) hp ρ x v) :
  Good cx F hp ρ w r (do pure (.value (← convert s t v))):=by
 unfold nanConv at hr
 split at hr
 case h_2=>cases hr
 rename_i i k j b hs ht
 simp only [Option.some.injEq] at hr;subst hr
 rw [G7 hx]
 exact Good.of (kY h hs ht (ho _ List.mem_cons_self))
theorem kF (h:HSim cx F hp ρ w) {s t:TypeId} {x:AV} {v:Value} (hr:uA cx s t x orc=some r) (hx:VR w (MM F hp ρ) hp ρ x v) :
  Good cx F hp ρ w r (do pure (.value (← convert s t v))):=by
 unfold uA at hr
 split at hr
 case h_2=>cases hr
 rename_i i k j hs ht
 simp only [val1,Option.some.injEq] at hr;subst hr
 cases hx with
 | d _ _ hx =>
 cases hx with
 | nan _ b hb=>exact Good.of (kY h hs ht hb)
theorem wP (h:HSim cx F hp ρ w) (hcst:∀ v,re (.const v)=v) (hev:∀ x,VR w (MM F hp ρ) hp ρ (ev x) (re x)) {name:Nat} {o:Oper} (hr:aop cx sym orc hp name ev o=some r) (ho:∀ q,q∈r.ob→q) :
  Good cx F hp ρ w r (execOp re o):=by
 cases hop:o.op with
 | move x=>simp only [aop,hop] at hr;simp only [execOp,hop];exact Good.pure1 h hr (hev x)
 | assign x=>simp only [aop,hop] at hr;simp only [execOp,hop];exact Good.pure1 h hr (hev x)
 | pick c a b =>
  simp only [aop,hop] at hr;simp only [execOp,hop]
  have hc:=hev c
  split at hr
  ·rename_i e
   rw [e] at hc
   rw [G7 hc]
   exact Good.pure1 (v:=re a) h hr (hev a)
  ·rename_i e
   rw [e] at hc
   rw [G7 hc]
   exact Good.pure1 (v:=re b) h hr (hev b)
  ·cases hr
 | alloc elem =>
  simp only [aop,hop] at hr;simp only [execOp,hop]
  split at hr
  case h_2=>cases hr
  rename_i z hz hn
  split at hr
  case h_2=>cases hr
  rename_i cs hcs
  simp only [Option.some.injEq] at hr;subst hr
  refine Good.of ⟨_,_,?_,U9 h hn hcs (Ux _ _ _ _ z) elem⟩
  have h1:=Vk hz w
  simp [Instr.alloc,h1,newVar,newRow]
 | box elem x =>
  simp only [aop,hop] at hr;simp only [execOp,hop]
  split at hr
  case h_2=>cases hr
  rename_i cs hcs hn
  simp only [Option.some.injEq] at hr;subst hr
  exact Good.of ⟨_,_,rfl,U9 h hn hcs (hev x) elem⟩
 | build t parts =>
  simp only [aop,hop] at hr;simp only [execOp,hop]
  split at hr
  case h_2=>cases hr
  rename_i y hy
  obtain ⟨v,v1,v2⟩:=yg hev hy
  split at hr
  ·exact Good.val1 h hr v1 (QcA v2)
  ·exact Good.val1 h hr v1 v2
 | buildSlice t len parts =>
  simp only [aop,hop] at hr;simp only [execOp,hop]
  split at hr
  ·exact Good.of (jf h hev hr)
  split at hr
  ·rename_i hpe
   exact Good.of (jj h hev hpe hr)
  split at hr
  case h_2=>cases hr
  rename_i elem hu
  split at hr
  case h_2=>cases hr
  rename_i s z hs hz
  split at hr
  case h_2=>cases hr
  rename_i es fs hl
  split at hr
  case h_2=>cases hr
  rename_i hc
  simp only [Bool.and_eq_true] at hc
  split at hr
  ·simp only [Option.some.injEq] at hr;subst hr
   obtain ⟨v,w',k1,ρ',k2,k3,k4⟩:=UQ h hev hu hs hz hl (Nat.le_of_ble_eq_true hc.1) (Q4 hc.2)
   cases k4 with
   | d _ _ k4=>exact Good.of ⟨v,w',k1,ρ',k2,k3,.d _ _ (Qcz k4)⟩
  ·simp only [Option.some.injEq] at hr;subst hr
   exact Good.of (UQ h hev hu hs hz hl (Nat.le_of_ble_eq_true hc.1) (Q4 hc.2))
 | load t a =>
  simp only [aop,hop] at hr;simp only [execOp,hop]
  have ha:=uU h (hev a)
  split at hr
  ·rename_i s g b ver sz i off hs hg e
   rw [e] at ha
   split at hr
   case h_2=>cases hr
   rename_i x ob o' hbl
   split at hr
   case h_2=>cases hr
   rename_i y hy
   simp only [Option.some.injEq] at hr;subst hr
   obtain ⟨v,v1,v2⟩:=qZ h ha hs hg hbl ho hy
   exact Good.of1 ⟨v,v1,OpOK.quiet h v2⟩
  ·rename_i s g x off hs hg e
   rw [e] at ha
   split at hr
   case h_2=>cases hr
   rename_i y hy
   obtain ⟨v,v1,v2⟩:=kW (hp:=hp) ha hs hg hy
   exact Good.val1 h hr v1 v2
  ·cases hr
 | store t a x =>
  simp only [aop,hop] at hr;simp only [execOp,hop]
  obtain ⟨w',h1,h2⟩:=jY h (hev a) (hev x) hr ho
  exact ⟨undef,w',.inr ⟨by simp only [Sem.run_bind,h1,Result.andThen_ok,Sem.run_pure],rfl⟩,h2⟩
 | nilCheck x =>
  simp only [aop,hop] at hr;simp only [execOp,hop]
  have hx:=hev x
  split at hr
  ·rename_i b v s i f e
   rw [e] at hx
   split at hr
   case h_2=>cases hr
   rename_i hcu
   generalize re x=xv at hx ⊢
   cases hx with
   | ptr _ _ _ _ _ kk _ hb hv hone hh =>
    obtain ⟨r0,hr0,rfl⟩:=hh (Un hcu hb)
    exact Good.pure1 (orc:=orc) (v:=.pointer (some ⟨r0,i * s+f,none⟩)) h hr (.ptr b v s i f kk _ hb hv hone fun _=>⟨r0,hr0,rfl⟩)
  ·rename_i y f e
   rw [e] at hx
   generalize re x=xv at hx ⊢
   cases hx with
   | dptr _ _ blk o hd=>exact Good.pure1 (orc:=orc) h hr (.dptr y f blk o hd)
  ·rename_i g a b e
   rw [e] at hx
   generalize re x=xv at hx ⊢
   cases hx with
   | fn _ _ _ xs ys hl hm hh hk=>exact Good.pure1 (orc:=orc) h hr (.fn _ a b xs ys hl hm hh hk)
  ·rename_i g a b e
   rw [e] at hx
   generalize re x=xv at hx ⊢
   cases hx with
   | d _ _ hx =>
    cases hx with
    | fn _ _ _ xs ys hl hm hh hk=>exact Good.pure1 (orc:=orc) h hr (.d _ _ (.fn _ a b xs ys hl hm hh hk))
  ·cases hr
 | binOp op t x y yt =>
  simp only [aop,hop] at hr;simp only [execOp,hop]
  split at hr
  ·exact jq h hr ho (hev x) (hev y)
  split at hr
  ·rename_i q hq
   simp only [Option.some.injEq] at hr;subst hr
   exact kG h hq (hev x) (hev y)
  split at hr
  case h_2 =>
   split at hr
   ·rename_i q ob hq
    simp only [Option.some.injEq] at hr;subst hr
    obtain ⟨v,v1,v2⟩:=zO hcst hq (hev x)
    exact Good.of1 ⟨v,v1,OpOK.quiet h v2⟩
   split at hr
   case h_2=>cases hr
   rename_i q ob hq
   simp only [Option.some.injEq] at hr;subst hr
   obtain ⟨v,v1,v2⟩:=jo hcst hq ho (hev x)
   exact Good.of1 ⟨v,v1,OpOK.quiet h v2⟩
  rename_i a b ha hb
  split at hr
  case h_2=>cases hr
  rename_i q ob hq
  simp only [Option.some.injEq] at hr;subst hr
  rw [YT ha (hev x),YT hb (hev y)]
  obtain ⟨v,v1,v2⟩:=um h hq ho
  exact Good.of1 ⟨v,v1,OpOK.quiet h v2⟩
 | unOp op t x =>
  simp only [aop,hop] at hr;simp only [execOp,hop]
  split at hr
  case h_2=>cases hr
  rename_i a ha
  rw [YT ha (hev x)]
  exact qt h hr
 | convert s t x =>
  simp only [aop,hop] at hr;simp only [execOp,hop]
  split at hr
  ·exact zP h hr ho (hev x)
  split at hr
  ·rename_i q hq
   simp only [Option.some.injEq] at hr;subst hr
   exact kF h hq (hev x)
  split at hr
  case h_2=>exact jO h hr ho (hev x)
  rename_i a ha
  split at hr
  case h_2=>cases hr
  rename_i q ob hq
  simp only [Option.some.injEq] at hr;subst hr
  rw [YT ha (hev x)]
  obtain ⟨v,v1,v2⟩:=yk h hq ho
  exact Good.of1 ⟨v,v1,OpOK.quiet h v2⟩
 | makeFunc f first cap =>
  simp only [aop,hop] at hr;simp only [execOp,hop]
  obtain ⟨a1,a2⟩:=Uk hev first.toList
  obtain ⟨b1,b2⟩:=Uk hev cap.toList
  refine Good.val1 h hr (v:=.func f (first.map re) (cap.map re)) rfl (Va ?_)
  have:=VR.fn (w:=w) (M:=MM F hp ρ) (hp:=hp) (ρ:=ρ) f _ _ _ _ a1 b1 a2 b2
  have e1:(first.toList.map re).toArray=first.map re:=by rw [← Array.toList_map]
  have e2:(cap.toList.map re).toArray=cap.map re:=by rw [← Array.toList_map]
  rw [e1,e2] at this
  exact this
 | makeSlice t l c =>
  simp only [aop,hop] at hr;simp only [execOp,hop]
  have hl:=hev l
  have hc:=hev c
  split at hr
  case h_2=>cases hr
  rename_i elem kn n km m hu el ec hn
  rw [el] at hl;rw [ec] at hc
  split at hr
  case h_2=>cases hr
  rename_i s z b hs hz hb
  split at hr
  case h_2=>cases hr
  rename_i ob o' how hok
  simp only [Option.some.injEq] at hr;subst hr
  rw [G7 hl,G7 hc]
  exact Good.of (ql h hu hs hz hb hn hok (Zf how ho))
 | slice t x lo hi mx =>
  simp only [aop,hop] at hr;simp only [execOp,hop]
  split at hr
  ·rename_i b ver sz i off hex
   have hx:=hev x
   rw [hex] at hx
   unfold qL at hr
   split at hr
   ·rename_i q hq
    simp only [Option.some.injEq] at hr;subst hr
    obtain ⟨hw,hg⟩:=qM h hq hx
    simp only [Bool.and_eq_true,Option.isNone_iff_eq_none] at hw
    obtain ⟨⟨rfl,rfl⟩,rfl⟩:=hw
    exact Good.of1 hg
   ·obtain ⟨hw,hg⟩:=ja h hev hr hx
    rw [Option.isNone_iff_eq_none] at hw
    subst hw
    exact Good.of1 hg
  ·split at hr
   ·rename_i q hq
    simp only [Option.some.injEq] at hr;subst hr
    exact Good.of1 (zW h hev hq ho)
   ·split at hr
    ·rename_i q hq
     simp only [Option.some.injEq] at hr;subst hr
     exact Good.of1 (uc h hev hq ho)
    ·exact Good.of1 (jF h hev hr ho)
 | sliceToArrayPointer t x =>
  simp only [aop,hop] at hr;simp only [execOp,hop]
  exact Good.of1 (uo h hr ho (hev x))
 | fieldAddr s x f =>
  simp only [aop,hop] at hr;simp only [execOp,hop]
  have hx:=hev x
  split at hr
  case h_2=>cases hr
  rename_i fd hfd
  split at hr
  case h_2=>cases hr
  rename_i n hn
  obtain ⟨fields,hu,hf⟩:=qc hfd
  have h1:=Qh hu w
  have h2:=QE hn w
  split at hr
  ·rename_i b v sz i off hz e
   rw [e] at hx
   split at hr
   case h_2=>cases hr
   rename_i hcu
   have hn0:n≠0:=fun e=>by subst e;cases hz
   generalize re x=xv at hx ⊢
   cases hx with
   | ptr _ _ _ _ _ kk _ hb hv hone hh =>
    obtain ⟨r0,hr0,rfl⟩:=hh (Un hcu hb)
    refine Good.val1 (v:=.pointer (some ⟨r0,i * sz+(off+fd.offset),none⟩)) h hr ?_ (.ptr b v sz i _ kk _ hb hv rfl fun _=>⟨r0,hr0,rfl⟩)
    simp [Instr.fieldAt,h1,hf,Instr.sureAddr,fieldPlace,h2,hn0,add_at,Nat.add_assoc]
  ·rename_i y off hz e
   rw [e] at hx
   have hn0:n≠0:=fun e=>by subst e;cases hz
   generalize re x=xv at hx ⊢
   cases hx with
   | dptr _ _ blk o hd =>
    refine Good.val1 (v:=.pointer (some ⟨blk,o+(off+fd.offset),none⟩)) h hr ?_ (.dptr y _ blk o hd)
    simp [Instr.fieldAt,h1,hf,Instr.sureAddr,fieldPlace,h2,hn0,add_at,Nat.add_assoc]
  ·cases hr
 | field s x f =>
  simp only [aop,hop] at hr;simp only [execOp,hop]
  have hx:=hev x
  split at hr
  case h_2=>cases hr
  rename_i fd hfd
  obtain ⟨fields,hu,hf⟩:=qc hfd
  have h1:=Qh hu w
  split at hr
  ·rename_i n g cs hn hg e
   rw [e] at hx
   split at hr
   case h_2=>cases hr
   rename_i y hy
   obtain ⟨C,hC⟩:=EI rfl hx
   rw [hC] at hx ⊢
   obtain ⟨v,v1,v2⟩:=GH hn hg hx hy
   refine Good.val1 (v:=v) h hr ?_ v2
   simp [Instr.field,h1,hf,asAgg,v1]
  ·rename_i n g cs hn hg e
   rw [e] at hx
   split at hr
   case h_2=>cases hr
   rename_i y hy
   obtain ⟨C,hC⟩:=EI rfl hx
   rw [hC] at hx ⊢
   obtain ⟨v,v1,v2⟩:=GH hn hg hx hy
   refine Good.val1 (v:=v) h hr ?_ v2
   simp [Instr.field,h1,hf,asAgg,v1]
  ·cases hr
 | indexAddr t x ix =>
  simp only [aop,hop] at hr;simp only [execOp,hop]
  have hi:=hev ix
  split at hr
  case h_2=>cases hr
  rename_i k i e
  rw [e] at hi
  rw [G7 hi]
  exact Good.of1 (EH h hr ho (hev x))
 | index t x ix =>
  simp only [aop,hop] at hr;simp only [execOp,hop]
  split at hr
  case h_2=>cases hr
  rename_i i hi
  exact Good.of1 (jL h hr ho (hev x) (YT hi (hev ix)))
 | extract x i =>
  simp only [aop,hop] at hr;simp only [execOp,hop]
  have hx:=hev x
  split at hr
  ·rename_i vs e
   rw [e] at hx
   split at hr
   case h_2=>cases hr
   rename_i y hy
   rw [Q2] at hy
   generalize re x=xv at hx ⊢
   cases hx with
   | tup _ ys hl hh =>
    have hlt:i < ys.length:=by rw [← hl];exact (List.getElem?_eq_some_iff.1 hy).1
    refine Good.val1 (v:=ys[i]) h hr ?_ (hh i y _ hy (by simp [hlt]))
    simp [Instr.extract,hlt]
  ·rename_i vs e
   rw [e] at hx
   split at hr
   case h_2=>cases hr
   rename_i y hy
   rw [Q2] at hy
   generalize re x=xv at hx ⊢
   cases hx with
   | d _ _ hx =>
   cases hx with
   | tup _ ys hl hh =>
    have hlt:i < ys.length:=by rw [← hl];exact (List.getElem?_eq_some_iff.1 hy).1
    refine Good.val1 (v:=ys[i]) h hr ?_ (.d _ _ (hh i y _ hy (by simp [hlt])))
    simp [Instr.extract,hlt]
  ·cases hr
 | call c =>
  obtain ⟨callee,args,ats⟩:=c
  cases callee with
  | builtin b =>
   simp only [aop,hop] at hr;simp only [execOp,hop]
   have:=zE (consts:=args.map fun | .const _=>true | _=>false) h hev hr ho
   simp only [resolve,pure_bind,invoke]
   exact this
  | _=>simp only [aop,hop] at hr;cases hr
 | makeMap t q =>
  simp only [aop,hop] at hr;simp only [execOp,hop]
  split at hr
  case h_2=>cases hr
  rename_i hn
  simp only [Option.some.injEq] at hr;subst hr
  exact Good.of (zR h t hn)
 | mapUpdate t m k x =>
  simp only [aop,hop] at hr;simp only [execOp,hop]
  obtain ⟨w',h1,h2⟩:=KM h hr ho (hev m) (hev k) (hev x)
  exact ⟨undef,w',.inr ⟨by simp only [Sem.run_bind,h1,Result.andThen_ok,Sem.run_pure],rfl⟩,h2⟩
 | insert t m k x =>
  simp only [aop,hop] at hr;simp only [execOp,hop]
  obtain ⟨w',h1,h2⟩:=KM h hr ho (hev m) (hev k) (hev x)
  exact ⟨undef,w',.inr ⟨by simp only [Sem.run_bind,h1,Result.andThen_ok,Sem.run_pure],rfl⟩,h2⟩
 | lookup t m k ok =>
  simp only [aop,hop] at hr;simp only [execOp,hop]
  exact Good.of1 (jt h hr ho (hev m) (hev k))
 | range t x =>
  simp only [aop,hop] at hr;simp only [execOp,hop]
  exact Good.of (ku h hr (hev x))
 | next x isS =>
  simp only [aop,hop] at hr;simp only [execOp,hop]
  cases isS with
  | false=>cases hr
  | true=>exact Good.of (yK h hr ho (hev x))
 | _=>simp only [aop,hop] at hr;cases hr
end
def Xh:Blk→Bool
 | .loop _ _ _ _ _ _=>false
 | .left _=>false
 | _=>true
structure RC where
 val:AV
 up:List (Nat×Blk)
 full:Option (List (Nat×Blk))
 nx:Nat
 ob:List Prop
 orc:List Orc
 sfx:Bool
def RC.heap (rc:RC) (H:List (Nat×Blk)):List (Nat×Blk):=match rc.full with
 | some h=>h
 | none=>rc.up++H
def Uo:AV→Option (FuncId×List AV×List AV)
 | .fn (.func f) a b=>some (f,a,b)
 | .d (.fn (.func f) a b)=>some (f,a.map .d,b.map .d)
 | _=>none
def Yp (o:Oper):Option (Operand×List Operand):=match o.op with
 | .call { callee:=.value f,args,argTypes:=_ }=>some (f,args.toList)
 | _=>none
def QcK:AV→Bool
 | .d _=>true
 | .fn _ _ _=>true
 | x=>match x.toD with
  | some _=>true
  | none=>false
def WI (H:List (Nat×Blk)) (nx:Nat):Bool:=H.all fun p=>Nat.blt p.1 nx
def zb (H:List (Nat×Blk)) (nx:Nat) (x:AV) (s' : St):Option RC:=match WI H nx with
 | true=>some { val:=x,up:=[],full:=some s'.hp,nx:=s'.nx,ob:=s'.ob,orc:=s'.orc,sfx:=s'.sfx }
 | false=>none
def Em:Blk→Bool
 | .row _ _ _=>true
 | .mp _=>true
 | .box _=>false
 | .frozen _ _ _=>false
 | .virt _ _ _=>false
 | .loop _ _ _ _ _ _=>false
 | .it _ _=>false
 | .fbox _=>false
 | .left _=>false
 | .dead=>false
def stamp:Blk→Blk
 | .row _ sz es=>.row 0 sz es
 | k=>k
def Gb (H:List (Nat×Blk)) (nx:Nat) (x:AV) (s' : St):Option RC:=match x,s'.sfx && YS H (s'.hp.length - H.length) s'.hp && WI H nx with
 | .own b ver,true=>match look s'.hp b,ZN H b with
  | some k,false=>match Em k && Nat.beq ver k.ver with
   | true=>some { val:=.own b ver,up:=[(b,k)],full:=none,nx,ob:=s'.ob,orc:=s'.orc,sfx:=true }
   | false=>none
  | _,_=>none
 | _,_=>none
def ko (b ver nm:Nat):List AV→Option (List AV)
 | []=>some []
 | x::l=>match x,ko b ver nm l with
  | .d y,some r=>some (.d y::r)
  | .own b' v,some r=>match Nat.beq b' b && Nat.beq v ver with
   | true=>some (.own nm 0::r)
   | false=>none
  | _,_=>none
def renF (b ver nm:Nat):AV→Option AV
 | .own b' v=>match Nat.beq b' b && Nat.beq v ver with
  | true=>some (.own nm 0)
  | false=>none
 | .agg cs=>match ko b ver nm cs with
  | some l=>some (.agg l)
  | none=>none
 | _=>none
def QcN:List Bool→List OC→Option (Nat×List D)
 | [true],[.row sz L]=>some (sz,L)
 | _,_=>none
def Qbm (cx:Cx) (sym:Bool) (H:List (Nat×Blk)) (f:FuncId) (args:List AV) (nx:Nat) (o:List Orc):Option RC:=match sym,cx.K f with
 | false,some g=>match VT H args with
  | some (ds,fs)=>match g ds with
   | some r=>some { val:=.d r,up:=Qc H fs,full:=none,nx,ob:=[],orc:=o,sfx:=true }
   | none=>none
  | none=>none
 | _,_=>none
def QaZ (H:List (Nat×Blk)) (m sz:Nat):AV→Option (OC×(Nat×Nat))
 | .own n v=>match look H n with
  | some (.row v' sz' es)=>match Nat.beq v v' && Nat.beq sz sz' with
   | true=>some (.row sz es,(n,v+1))
   | false=>none
  | _=>none
 | .d (.lst true _ [])=>match look H m with
  | none=>some (.row sz [],(m,0))
  | some _=>none
 | _=>none
def WX (H:List (Nat×Blk)):Nat→List AV→List OC→Option (List OC×List (Option (Nat×Nat))×List Nat)
 | _,[],[]=>some ([],[],[])
 | m,x::xs,.dat _::ss=>match x.toDH H,WX H (m+1) xs ss with
  | some (y,fs),some (cs,ns,gs)=>some (.dat y::cs,none::ns,fs++gs)
  | _,_=>none
 | m,x::xs,.row sz _::ss=>match QaZ H m sz x,WX H (m+1) xs ss with
  | some (c,p),some (cs,ns,gs)=>some (c::cs,some p::ns,gs)
  | _,_=>none
 | _,_,_=>none
def V9 (n:Nat):List (Option (Nat×Nat))→Bool
 | []=>true
 | none::l=>V9 n l
 | some (m,_)::l=>!(Nat.beq m n) && V9 n l
def Gh (bn:Nat) (fz:List Nat):List (Option (Nat×Nat))→Bool
 | []=>!(fz.contains bn)
 | none::l=>Gh bn fz l
 | some (n,_)::l=>V9 n l && !(Nat.beq n bn) && !(fz.contains n) && Gh bn fz l
def isB0:Option Nat→Nat→Bool
 | some b0,b'=>Nat.beq b0 b'
 | none,_=>false
mutual
def AV.argO (H:List (Nat×Blk)) (b:Option Nat):AV→Option (AV×List Nat)
 | .ptr b' ver sz i off=>match isB0 b b' && Nat.beq ver 0 && Nat.beq sz 0 && Nat.beq i 0 with
  | true=>some (.ptr 0 0 0 0 off,[])
  | false=>match (AV.ptr b' ver sz i off).toDH H with
   | some (y,fs)=>some (.d y,fs)
   | none=>none
 | .dptr x o=>some (.d (.ref x o),[])
 | .fn f a c=>match XI H b a,XI H b c with
  | some (x,fs),some (y,gs)=>some (AV.norm (.fn f x y),fs++gs)
  | _,_=>none
 | .agg cs=>match XI H b cs with
  | some (l,fs)=>some (AV.norm (.agg l),fs)
  | none=>none
 | .tup cs=>match XI H b cs with
  | some (l,fs)=>some (AV.norm (.tup l),fs)
  | none=>none
 | .d x=>some (.d x,[])
 | .own n v=>match (AV.own n v).toDH H with
  | some (y,fs)=>some (.d y,fs)
  | none=>none
 | _=>none
def XI (H:List (Nat×Blk)) (b:Option Nat):List AV→Option (List AV×List Nat)
 | []=>some ([],[])
 | x::l=>match x.argO H b,XI H b l with
  | some (y,fs),some (ys,gs)=>some (y::ys,fs++gs)
  | _,_=>none
end
mutual
def AV.resO (b:Nat):AV→Option AV
 | .d x=>some (.d x)
 | .agg cs=>match wm b cs with
  | some l=>some (.agg l)
  | none=>none
 | .tup cs=>match wm b cs with
  | some l=>some (.tup l)
  | none=>none
 | .ptr b' ver sz i off=>match Nat.beq b' 0 && Nat.beq ver 0 && Nat.beq sz 0 && Nat.beq i 0 with
  | true=>some (.ptr b 0 0 0 off)
  | false=>none
 | _=>none
def wm (b:Nat):List AV→Option (List AV)
 | []=>some []
 | x::l=>match x.resO b,wm b l with
  | some y,some ys=>some (y::ys)
  | _,_=>none
end
def QY:List (Option (Nat×Nat))→List OC→List AV
 | none::ns,.dat x::cs=>.d x::QY ns cs
 | some (n,v)::ns,.row _ _::cs=>.own n v::QY ns cs
 | _,_=>[]
def ZM:List (Option (Nat×Nat))→List OC→List (Nat×Blk)
 | some (n,v)::ns,.row sz es::cs=>(n,.row v sz es)::ZM ns cs
 | _::ns,_::cs=>ZM ns cs
 | _,_=>[]
def WT:Nat→List OC→List (Option (Nat×Nat))
 | _,[]=>[]
 | m,.dat _::l=>none::WT (m+1) l
 | m,.row _ _::l=>some (m,0)::WT (m+1) l
def Zj:List Bool→List (Option (Nat×Nat))→List (Option (Nat×Nat))
 | true::ks,some (n,v+1)::ns=>some (n,v)::Zj ks ns
 | _::ks,p::ns=>p::Zj ks ns
 | _,ns=>ns
def Y6:List Bool→List AV→List OC→Bool
 | true::ks,.own _ _::xs,.row _ _::cs=>Y6 ks xs cs
 | true::ks,.d _::xs,.dat _::cs=>Y6 ks xs cs
 | [],[],[]=>true
 | _,_,_=>false
def yR:AV→Bool
 | .agg l=>match YC l with
  | none=>true
  | some _=>false
 | .d (.agg _)=>true
 | _=>false
def QbR (cx:Cx) (f:FuncId) (sz:Nat) (L as L' : List D):Prop :=
 ∀ (w:World) (F:Nat→Prop) (r cap:Nat) (c:Array Value) (e:TypeId) (vs:List Value),(∀ q,F q→q < w.heap.size)→(∀ g x,cx.G g=some x→GAt w F g x)→F r →
  as.length=vs.length→(∀ (i:Nat) (c:D) (y:Value),as[i]?=some c→vs[i]?=some y→DR w F c y) →
  w.heap[r]?=some (.cells c e (0,0))→RowIn w F sz L c→L.length≤cap→cap * sz≤c.size →
  Calls cx.P f (Value.slice (some ⟨r,0,none⟩) L.length cap::vs).toArray w fun ev w'=>ev=.returned (.tuple #[])∧L'.length=L.length ∧
   ∃ c',c'.size=c.size∧RowIn w F sz L' c'∧w'.heap[r]?=some (.cells c' e (0,0))∧Ext w (fun q=>q=r) w'
def arow (cx:Cx) (H:List (Nat×Blk)) (nx:Nat) (f:FuncId) (args:List AV) (b ver sz:Nat) (es:List D) (r:AV) (cs' : List OC) (o' : List Orc):Option RC :=
 match args,cs',r with
 | .own b' ver'::rest,[.row sz' L'],.d (.tup [])=>match Nat.beq b' b && Nat.beq ver' ver && Nat.beq sz' sz,VT H rest with
  | true,some (ds,fs)=>match fs.contains b with
   | true=>none
   | false=>some { val:=.d (.tup []),up:=(b,.row ver sz L')::Qc H fs,full:=none,nx,ob:=[QbR cx f sz es ds L',es≠[]],orc:=o',sfx:=true }
  | _,_=>none
 | _,_,_=>none
def EK (cx:Cx) (H:List (Nat×Blk)) (nx:Nat) (f:FuncId) (args:List AV) (bo:Option Nat) (r:AV) (cs' : List OC) (ks:List Bool) (o' : List Orc):Option RC :=
  match XI H bo args,WI H nx with
  | some (as,fs),true=>match bo with
    | some b=>match look H b with
      | some (.box x)=>match x.cells,Uz x with
        | some cells,true=>match WX H nx cells cs' with
          | some (cs,ns,gs)=>match Gh b (fs++gs) ns,r.resO b with
            | true,some v=>match Y6 ks cells cs' && yR x with
             | true=>some { val:=v,up:=Qc H (fs++gs),full:=none,nx,ob:=[ComputesO cx f as (some cs) r cs ks],orc:=o',sfx:=true }
             | false=>some { val:=v,up:=(b,.box (AV.norm (.agg (QY (Zj ks ns) cs'))))::(ZM (Zj ks ns) cs'++Qc H (fs++gs)),full:=none,nx:=nx+cs'.length,ob:=[ComputesO cx f as (some cs) r cs' ks],orc:=o',sfx:=true }
            | _,_=>none
          | none=>none
        | _,_=>none
      | some (.row ver sz es)=>arow cx H nx f args b ver sz es r cs' o'
      | _=>none
    | none=>match QcN ks cs' with
     | some (sz,L)=>match VT H args,renF 0 0 nx r with
       | some (ds,gs),some v=>some { val:=v,up:=(nx,.row 0 sz L)::Qc H gs,full:=none,nx:=nx+1,ob:=[WQ cx f ds sz L r],orc:=o',sfx:=true }
       | _,_=>none
     | none=>match Gh nx fs (WT (nx+1) cs'),r.resO nx with
      | true,some v=>some { val:=v,up:=(nx,.box (AV.norm (.agg (QY (WT (nx+1) cs') cs'))))::(ZM (WT (nx+1) cs') cs'++Qc H fs),full:=none,nx:=nx+1+cs'.length,ob:=[ComputesO cx f as none r cs' ks],orc:=o',sfx:=true }
      | _,_=>none
  | _,_=>none
def Qbu:D→Bool
 | .v _=>true
 | _=>false
def Qcx:D→Bool
 | .v _=>true
 | .agg l=>l.all Qbu
 | _=>false
def yC:D→Bool
 | .v _=>true
 | .agg l=>l.all Qbu
 | .tup l=>l.all Qcx
 | _=>false
def wR (ex:Code→St→Option (Ex×St)) (cx:Cx) (keepable:Bool) (H:List (Nat×Blk)) (nx:Nat) (sym:Bool) (orc:List Orc) (f:FuncId) (args:List AV):Option RC :=
 match cx.P.funcs[f]? with
 | none=>none
 | some fn=>match fn.body with
  | none=>match yj args with
   | some vs=>match ZJ cx.P (callFunc f vs.toArray) with
    | some (.value v)=>some { val:=.d (ofV v),up:=[],full:=none,nx,ob:=[],orc,sfx:=true }
    | _=>none
   | none=>none
  | some _=>match Xd (sym || cx.O f) orc with
   | some (.ret r,o')=>match VT H args with
    | some (ds,fs)=>some { val:=.d r,up:=Qc H fs,full:=none,nx,ob:=[Computes cx f ds r],orc:=o',sfx:=true }
    | none=>none
   | some (.obj bo r cs' ks,o')=>EK cx H nx f args bo r cs' ks o'
   | some (.br _,o')=>match keepable,Yt ex cx f args { nt:=0,sym,tm:=[],hp:=H,nx,orc:=o',ob:=[],vis:=nx,sfx:=true } with
    | true,some (x,s')=>zb H nx x s'
    | false,some (x,s')=>Gb H nx x s'
    | _,_=>none
   -- a plain result: what was looked at stays as it is
   | some (.ix _,.ret r::o')=>match yC r,VT H args with
    | true,some (ds,_)=>some { val:=.d r,up:=[],full:=none,nx,ob:=[Computes cx f ds r],orc:=o',sfx:=true }
    | _,_=>none
   | some (.no,o')=>match Qbm cx sym H f args nx o' with
    | some rc=>some rc
    | none=>match WI H nx,Yt ex cx f args { nt:=0,sym,tm:=[],hp:=H,nx,orc:=o',ob:=[],vis:=nx,sfx:=true } with
     | true,some (x,s')=>match sym || QcK x,jc H x s' with
      | true,some y=>some { val:=y,up:=[],full:=none,nx,ob:=s'.ob,orc:=s'.orc,sfx:=true }
      | true,none=>match keepable with
       | true=>zb H nx x s'
       | false=>none
      | false,r=>match keepable,r with
       | true,_=>zb H nx x s'
       | false,some y=>some { val:=y,up:=[],full:=none,nx,ob:=s'.ob,orc:=s'.orc,sfx:=true }
       | false,none=>match sym with
        | true=>none
        | false=>Gb H nx x s'
     | _,_=>none
   | _=>none
def Ke (ops:Array Oper) (i:Nat) (o:Oper) (s:St) (x:AV) (hp:List (Nat×Blk)) (nx:Nat) (orc:List Orc) (ob:List Prop) (sfx:Bool):Option St :=
 match Xo ops i with
 | true=>match litB s.sym orc x with
  | some (y,ob2,o2)=>({ s with hp,nx,orc:=o2,ob:=ob2++(ob++s.ob),sfx:=s.sfx && sfx }:St).put o.dst y
  | none=>none
 | false=>({ s with hp,nx,orc,ob:=ob++s.ob,sfx:=s.sfx && sfx }:St).put o.dst x
def zw:List Nat→List AV→List (Nat×AV)→List (Nat×AV)
 | t::ps,x::xs,tm=>zw ps xs ((t,x)::tm)
 | _,_,tm=>tm
def Yh (b:Nat) (H:List (Nat×Blk)):Bool:=H.all fun p=>Nat.beq p.1 b || Xh p.2
def X4 (ex:Code→St→Option (Ex×St)) (H:List (Nat×Blk)) (nx:Nat) (sym:Bool) (orc:List Orc) (b ver:Nat) (args:List AV):Option RC :=
 match look H b,Nat.beq ver 0 && WI H nx with
 | some (.loop true tm ps as bd nt),true =>
  match Nat.beq ps.length args.length && ps.all (fun t=>Nat.blt t nt) with
  | true=>match ex as { nt,sym,tm:=zw ps args tm,hp:=H,nx,orc,ob:=[],vis:=nx,sfx:=true,rnd:=true } with
   | some (.normal,s1)=>match look s1.hp b,Yh b s1.hp with
    | some (.loop true tm1 ps1 as1 bd1 nt1),true=>match ex bd { s1 with hp:=(b,.loop false tm1 ps1 as1 bd1 nt1)::s1.hp } with
     | some (.normal,s2)=>match look s2.hp b,Yh b s2.hp with
      | some (.loop false tm2 ps2 as2 bd2 nt2),true=>some { val:=.d (.v (.bool true)),up:=[],full:=some ((b,.loop true tm2 ps2 as2 bd2 nt2)::s2.hp),nx:=s2.nx,ob:=s2.ob,orc:=s2.orc,sfx:=!sym && s2.sfx }
      | _,_=>none
     -- the body is left: the loop is VW,and the jump is pending
     | some (e,s2)=>match look s2.hp b,Yh b s2.hp with
      | some (.loop false _ _ _ _ _),true=>some { val:=.d (.v (.bool false)),up:=[],full:=some ((b,.left e)::s2.hp),nx:=s2.nx,ob:=s2.ob,orc:=s2.orc,sfx:=!sym && s2.sfx }
      | _,_=>none
     | none=>none
    | _,_=>none
   | _=>none
  | false=>none
 | _,_=>none
abbrev Vj:=List (Nat×Blk)→Nat→Bool→List Orc→Nat→Nat→List AV→Option RC
abbrev YA:=Bool→List (Nat×Blk)→Nat→Bool→List Orc→FuncId→List AV→Option RC
def qp:AV→Option (Nat×Nat)
 | .own b ver=>some (b,ver)
 | _=>none
def J7 (cx:Cx) (call:YA) (yc:Vj) (ops:Array Oper) (base:Nat) (i:Nat) (s:St):Option St :=
  match nth ops.toList i with
  | none=>none
  | some o=>match Ue ops s.tm o with
    | none=>none
    | some false=>s.put o.dst (.d (.v undef))
    | some true=>match Yp o with
      | some (fv,args)=>match qp (evA cx s.tm fv) with
       | some (b,ver)=>match yc s.hp s.nx s.sym s.orc b ver (args.map (evA cx s.tm)) with
        | none=>none
        | some rc=>Ke ops i o s rc.val (rc.heap s.hp) rc.nx rc.orc rc.ob rc.sfx
       | none=>match Uo (evA cx s.tm fv) with
        | none=>none
        | some (f,a,b)=>match call true s.hp s.nx s.sym s.orc f (a++args.map (evA cx s.tm)++b) with
          | none=>none
          | some rc=>Ke ops i o s rc.val (rc.heap s.hp) rc.nx rc.orc rc.ob rc.sfx
      | none=>match aop cx s.sym s.orc s.hp (base+i) (evA cx s.tm) o with
        | none=>none
        | some r=>Ke ops i o s r.val (r.up++s.hp) s.nx r.orc r.ob true
def VF (cx:Cx) (call:YA) (yc:Vj) (ops:Array Oper) (base:Nat):List Nat→St→Option St
 | [],s=>some s
 | i::l,s=>match J7 cx call yc ops base i s with
  | some s'=>VF cx call yc ops base l s'
  | none=>none
structure Rec where
 i:Nat
 dst:Option Tmp
 val:AV
 up:List (Nat×Blk)
 fp:Option (List Nat):=none
 piv:Bool:=false
 nx:Nat:=0
 adr:Bool:=false
def WM:List Rec→List (Nat×AV)
 | []=>[]
 | r::l=>match r.dst with
  | some t=>(t,r.val)::WM l
  | none=>WM l
def Zy:List Rec→List (Nat×Blk)
 | []=>[]
 | r::l=>r.up++Zy l
def Yu (mask:Nat):List Rec→List Rec
 | []=>[]
 | r::l=>match mask.testBit r.i with
  | true=>r::Yu mask l
  | false=>Yu mask l
def qs (o:Oper):Bool:=match o.op with
 | .move _=>false
 | .assign _=>false
 | .pick _ _ _=>false
 | .alloc _=>false
 | .box _ _=>false
 | .build _ _=>false
 | .binOp _ _ _ _ _=>false
 | .unOp _ _ _=>false
 | .makeFunc _ _ _=>false
 | .field _ _ _=>false
 | .index _ _ _=>false
 | .extract _ _=>false
 | .call { callee:=.builtin .max,args:=_,argTypes:=_ }=>false
 | .call { callee:=.builtin .min,args:=_,argTypes:=_ }=>false
 | _=>true
def wz:AV→Option (List Nat)
 | .ptr b _ _ _ _=>some [b]
 | .own b _=>some [b]
 | .sub b _ _ _ _=>some [b]
 | .dptr _ _=>some []
 | .d _=>some []
 | _=>none
def zl (ev:Operand→AV) (o:Oper):Option (List Nat):=match o.op with
 | .load _ a=>wz (ev a)
 | .convert _ _ x=>wz (ev x)
 | .fieldAddr _ x _=>wz (ev x)
 | .indexAddr _ x _=>wz (ev x)
 | .nilCheck x=>wz (ev x)
 | .call { callee:=.builtin b,args,argTypes:=_ }=>match b,args.toList with
  | .len,[x]=>wz (ev x)
  | _,_=>none
 | _=>none
def JB (_masks:List Nat) (s:St) (recs:List Rec) (o:Oper) (mask:Nat) (fp:Option (List Nat)):List (Nat×Blk):=match qs o with
 | true=>match fp with
  | none=>Zy (Yu mask recs)++s.hp
  | some fs=>(Zy (Yu mask recs)++s.hp).filter fun p=>fs.contains p.1
 | false=>[]
def uH (cx:Cx) (s:St) (recs:List Rec) (o:Oper):Option Nat:=match o.op with
 | .call { callee:=.builtin .len,args,argTypes }=>match args.toList,argTypes.toList with
  | [.tmp t],ty::_=>match cx.P.underlying ty,look s.tm t,recs.all fun r=>match r.dst with | some d=>!(Nat.beq d t) | none=>true with
   | some (.slice _),some (.own b ver),true=>match VL s.hp (.own b ver) with
    | some es=>some es.length
    | none=>none
   | _,_,_=>none
  | _,_=>none
 | _=>none
def Q3 (masks:List Nat) (i j:Nat):Bool:=match nth masks j with
 | some m=>m.testBit i
 | none=>false
def wF (r:Rec) (t:Nat):Bool:=match r.dst with
 | some d=>Nat.beq d t
 | none=>false
def jr (t:Nat):List Rec→Option Rec
 | []=>none
 | r::l=>match wF r t with
  | true=>some r
  | false=>jr t l
def Qbj (cx:Cx) (ops:Array Oper) (masks:List Nat) (s:St) (recs:List Rec) (i:Nat) (o:Oper):Option Nat:=match o.op with
 | .call { callee:=.builtin .len,args,argTypes }=>match args.toList,argTypes.toList with
  | [.tmp t],ty::_=>match cx.P.underlying ty,jr t recs with
   | some (.slice _),some r=>match nth ops.toList r.i with
    | some p=>match p.op,p.guard with
     | .move (.tmp t0),none=>match look s.tm t0,Q3 masks r.i i && (recs.all fun q=>!(wF q t) || Nat.beq q.i r.i) && (recs.all fun q=>!(Nat.blt q.i r.i) || !(wF q t0)) with
      | some (.own b ver),true=>match VL s.hp (.own b ver) with
       | some es=>some es.length
       | none=>none
      | _,_=>none
     | _,_=>none
    | none=>none
   | _,_=>none
  | _,_=>none
 | _=>none
def JO (s:St) (recs:List Rec) (mask:Nat):List (Nat×Blk):=match (Yu mask recs).any fun r=>r.up.any fun p=>ZN s.hp p.1 with
 | true=>[]
 | false=>s.hp
def boxB:Blk→Bool
 | .box _=>true
 | .row _ _ _=>false
 | .frozen _ _ _=>false
 | .virt _ _ _=>false
 | .loop _ _ _ _ _ _=>false
 | .mp _=>false
 | .it _ _=>false
 | .fbox _=>false
 | .left _=>false
 | .dead=>false
def ptrB:AV→Option Nat
 | .ptr b _ _ _ _=>some b
 | .d _=>none
 | .agg _=>none
 | .tup _=>none
 | .dptr _ _=>none
 | .own _ _=>none
 | .sub _ _ _ _ _=>none
 | .fn _ _ _=>none
 | .junk=>none
def JR (ev:Operand→AV) (o:Oper):Option Nat:=match o.op with
 | .fieldAddr _ x _=>ptrB (ev x)
 | .indexAddr _ x _=>ptrB (ev x)
 | _=>none
def adrB (hp:List (Nat×Blk)):Option Nat→Bool
 | some b=>match look hp b with
  | some k=>boxB k
  | none=>false
 | none=>false
def zi (H:List (Nat×Blk)) (nm:Nat) (i:Nat) (dst:Option Tmp) (p:Nat×Blk) (rc:RC):Option (Rec×List Prop×List Orc):=match renF p.1 p.2.ver nm rc.val,Em p.2 && !(ZN H p.1) with
 | some v,true=>some ({ i,dst,val:=v,up:=[(nm,stamp p.2)] },rc.ob,rc.orc)
 | _,_=>none
def Qbg:Nat→List Rec→Nat
 | n,[]=>n
 | n,r::l=>Qbg (match Nat.ble n r.nx with | true=>r.nx | false=>n) l
def effO:List Orc→Option (List Orc)
 | .ix k::r=>match decide (k=-9) with
  | true=>some r
  | false=>none
 | _=>none
def effC (cx:Cx) (sym:Bool) (orc:List Orc) (fv:AV):Option (List Orc):=match effO orc with
 | some o=>some o
 | none=>match sym,Uo fv with
  | false,some (f,_,_)=>match cx.E f with
   | true=>some orc
   | false=>none
  | _,_=>none
def QbF (H:List (Nat×Blk)) (rc:RC):Option (List (Nat×Blk)):=match rc.full,rc.sfx with
 | some h,true=>some (h.take (h.length - H.length))
 | some h,false=>some h
 | none,_=>some rc.up
def Jx (cx:Cx) (call:YA) (yc:Vj) (ops:Array Oper) (masks:List Nat) (base:Nat) (s:St) (i:Nat) (recs:List Rec) (orc:List Orc):Option (Rec×List Prop×List Orc) :=
  match nth ops.toList i,nth masks i with
  | some o,some mask =>
    let tm:=WM recs++s.tm
    match Ue ops tm o with
    | none=>none
    | some false=>some ({ i,dst:=o.dst,val:=.d (.v undef),up:=[],fp:=some [] },[],orc)
    | some true =>
      match Yp o with
      | some (fv,args)=>match qp (evA cx tm fv) with
       | some (b,ver)=>match yc (Zy (Yu mask recs)++s.hp) (base+ops.toList.length) s.sym orc b ver (args.map (evA cx tm)) with
        | none=>none
        | some rc=>match rc.full,Xo ops i with
          | some h,true=>match litB s.sym rc.orc rc.val with
            | some (y,ob2,o2)=>some ({ i,dst:=o.dst,val:=y,up:=h,piv:=true,nx:=rc.nx },ob2++rc.ob,o2)
            | none=>none
          | some h,false=>some ({ i,dst:=o.dst,val:=rc.val,up:=h,piv:=true,nx:=rc.nx },rc.ob,rc.orc)
          | none,_=>none
       | none=>match effC cx s.sym orc (evA cx tm fv) with
        | some orc1=>match Uo (evA cx tm fv),Xo ops i with
          | some (f,a,b),false=>match call true (Zy (Yu mask recs)++s.hp) (Qbg (base+ops.toList.length) (Yu mask recs)) s.sym orc1 f (a++args.map (evA cx tm)++b) with
            | some rc=>match QbF (Zy (Yu mask recs)++s.hp) rc with
              | some u=>some ({ i,dst:=o.dst,val:=rc.val,up:=u,piv:=true,nx:=rc.nx },rc.ob,rc.orc)
              | none=>none
            | none=>none
          | _,_=>none
        | none=>match Uo (evA cx tm fv) with
        | none=>none
        | some (f,a,b)=>match kN (JO s recs mask) (a++args.map (evA cx tm)++b),call false (JO s recs mask) (base+ops.toList.length) s.sym orc f (a++args.map (evA cx tm)++b) with
          | true,some rc=>match rc.full,rc.up,Xo ops i with
            | none,[],true=>match litB s.sym rc.orc rc.val with
              | some (y,ob2,o2)=>some ({ i,dst:=o.dst,val:=y,up:=[] },ob2++rc.ob,o2)
              | none=>none
            | none,[],false=>some ({ i,dst:=o.dst,val:=rc.val,up:=[] },rc.ob,rc.orc)
            | none,[p],false=>zi (JO s recs mask) (base+i) i o.dst p rc
            | _,_,_=>none
          | _,_=>none
      | none=>match uH cx s recs o with
       | some k=>some ({ i,dst:=o.dst,val:=.d (.v (.int .i64 k)),up:=[],fp:=some [] },[],orc)
       | none=>match Qbj cx ops masks s recs i o with
        | some k=>some ({ i,dst:=o.dst,val:=.d (.v (.int .i64 k)),up:=[],fp:=some [] },[],orc)
        | none=>match aop cx s.sym orc (JB masks s recs o mask (zl (evA cx tm) o)) (base+i) (evA cx tm) o with
         | none=>none
         | some r=>match Xo ops i with
           | true=>match litB s.sym r.orc r.val with
             | some (y,ob2,o2)=>some ({ i,dst:=o.dst,val:=y,up:=r.up,fp:=zl (evA cx tm) o,adr:=adrB (JB masks s recs o mask (zl (evA cx tm) o)) (JR (evA cx tm) o) },ob2++r.ob,o2)
             | none=>none
           | false=>some ({ i,dst:=o.dst,val:=r.val,up:=r.up,fp:=zl (evA cx tm) o,adr:=adrB (JB masks s recs o mask (zl (evA cx tm) o)) (JR (evA cx tm) o) },r.ob,r.orc)
  | _,_=>none
def YJ (cx:Cx) (call:YA) (yc:Vj) (ops:Array Oper) (masks:List Nat) (base:Nat) (s:St):List Nat→List Rec→List Prop→List Orc→Option (List Rec×List Prop×List Orc)
 | [],recs,ob,orc=>some (recs,ob,orc)
 | i::l,recs,ob,orc=>match Jx cx call yc ops masks base s i recs orc with
  | some (r,ob1,o1)=>YJ cx call yc ops masks base s l (r::recs) (ob1++ob) o1
  | none=>none
def YO (base:Nat) (r:Rec):Bool:=r.up.any fun p=>!(Nat.beq p.1 (base+r.i))
def W6 (ops:Array Oper) (i:Nat):Bool:=match nth ops.toList i with
 | some o=>qs o
 | none=>true
def Xi (r q:Rec):Bool:=match q.fp,q.up with
 | some fs,[]=>r.up.any fun p=>fs.contains p.1 && !(q.adr && boxB p.2)
 | _,_=>true
def Ur (ops:Array Oper) (masks:List Nat) (base:Nat) (r q:Rec):Bool :=
 Q3 masks r.i q.i || Q3 masks q.i r.i || Nat.beq r.i q.i || (!(YO base r && W6 ops q.i && Xi r q) && !(YO base q && W6 ops r.i && Xi q r))
def YW (o:Oper) (ops:Array Oper):List Tmp :=
  (o.op.operands.toList.filterMap fun | .tmp t=>some t | _=>none) ++
  (match o.guard with
   | some (g,_)=>match nth ops.toList g with
     | some x=>x.dst.toList
     | none=>[]
   | none=>[])
def YQ (ops:Array Oper) (masks:List Nat) (i j:Nat):Bool :=
 Q3 masks i j || Q3 masks j i || Nat.beq i j ||
 match nth ops.toList i,nth ops.toList j with
 | some x,some y=>match x.dst with
  | some d=>!((YW y ops).contains d) && (match y.dst with | some e=>!(Nat.beq d e) | none=>true)
  | none=>true
 | _,_=>false
def yP (masks:List Nat) (o:Oper) (j:Nat):Nat:=o.after.toList.foldl (fun s e=>match Region.binds .any e && Nat.blt e.on j with
 | true=>s ||| (2 ^ e.on ||| (match nth masks e.on with | some m=>m | none=>0))
 | false=>s) 0
def ZP (masks:List Nat) (j:Nat):Nat:=match nth masks j with
 | some m=>m
 | none=>0
def uD (ops:Array Oper) (masks:List Nat):Bool:=(List.range ops.toList.length).all fun j=>match nth ops.toList j with
 | some o=>Nat.beq (ZP masks j) (yP masks o j) && (o.after.toList.all fun e=>!(Region.binds .any e) || Nat.blt e.on j) &&
  ((List.range j).all fun i=>!((ZP masks j).testBit i) || Nat.beq (ZP masks i &&& ZP masks j) (ZP masks i))
 | none=>false
def jz (ops:Array Oper) (masks:List Nat) (base:Nat) (s:St) (recs:List Rec):Bool :=
 Nat.beq masks.length ops.toList.length && uD ops masks &&
 ((List.range ops.toList.length).all fun i=>(List.range ops.toList.length).all fun j=>YQ ops masks i j) &&
 (recs.all fun r=>!(YO base r) || recs.all fun q=>Ur ops masks base r q) &&
 (recs.all fun r=>r.up.all fun p=>match Nat.beq p.1 (base+r.i) with
  | true=>!(ZN s.hp p.1)
  | false=>(ZN s.hp p.1 || (List.range r.i).any fun i=>Nat.beq p.1 (base+i) && Q3 masks i r.i) || (r.piv && Nat.ble (base+ops.toList.length) p.1)) &&
 (WI s.hp base || (List.range ops.toList.length).all fun i=>!(ZN s.hp (base+i))) &&
 (recs.all fun r=>!(YO base r) || W6 ops r.i) &&
 (recs.all fun r=>match r.dst with | some d=>Nat.blt d s.nt | none=>true) &&
 (recs.all fun r=>!r.piv || recs.all fun q=>Nat.beq q.i r.i || Q3 masks q.i r.i || Q3 masks r.i q.i || q.up.isEmpty)
def wH:List (Nat×AV)→Nat→List (Nat×AV)
 | [],_=>[]
 | p::l,seen=>match seen.testBit p.1 with
  | true=>wH l seen
  | false=>p::wH l (seen ||| 2 ^ p.1)
def YK (tm:List (Nat×AV)):Nat→List (Nat×AV)
 | 0=>[]
 | n+1=>match look tm n with
  | some x=>(n,x)::YK tm n
  | none=>YK tm n
mutual
def AV.clean (hp:List (Nat×Blk)) (vis:Nat) (kb:List Nat):AV→AV
 | .d x=>.d x
 | .agg cs=>.agg (Uc hp vis kb cs)
 | .tup cs=>.tup (Uc hp vis kb cs)
 | .dptr x o=>.dptr x o
 | .ptr b ver sz i off=>match kb.contains b && Kj hp b ver with
  | true=>match Nat.blt b vis with
   | true=>.ptr b ver sz i off
   | false=>.ptr b 0 sz i off
  | false=>.junk
 | .own b ver=>match kb.contains b && Kj hp b ver with
  | true=>match Nat.blt b vis with
   | true=>.own b ver
   | false=>.own b 0
  | false=>.junk
 | .sub b ver sz lo n=>match kb.contains b && Kj hp b ver with
  | true=>match Nat.blt b vis with
   | true=>.sub b ver sz lo n
   | false=>.sub b 0 sz lo n
  | false=>.junk
 | .fn f a b=>.fn f (Uc hp vis kb a) (Uc hp vis kb b)
 | .junk=>.junk
def Uc (hp:List (Nat×Blk)) (vis:Nat) (kb:List Nat):List AV→List AV
 | []=>[]
 | x::l=>x.clean hp vis kb::Uc hp vis kb l
end
def XA (hp:List (Nat×Blk)) (vis:Nat) (kb:List Nat):List (Nat×AV)→List (Nat×AV)
 | []=>[]
 | (t,x)::l=>(t,x.clean hp vis kb)::XA hp vis kb l
def Blk.clean (hp:List (Nat×Blk)) (vis:Nat) (kb:List Nat) (b:Nat):Blk→Option Blk
 | .box x=>match (x.clean hp vis kb).cells with
  | some _=>some (.box (x.clean hp vis kb))
  | none=>none
 | .row v sz es=>some (.row (match Nat.blt b vis with | true=>v | false=>0) sz es)
 | .frozen v sz es=>some (.frozen (match Nat.blt b vis with | true=>v | false=>0) sz es)
 | .virt v sz es=>some (.virt (match Nat.blt b vis with | true=>v | false=>0) sz es)
 | .loop rdy tm ps as bd nt=>some (.loop rdy (XA hp vis kb tm) ps as bd nt)
 | .mp es=>some (.mp es)
 | .it s p=>some (.it s p)
 | .fbox x=>some (.fbox x)
 | .left e=>some (.left e)
 | .dead=>some .dead
def wy (hp:List (Nat×Blk)) (vis:Nat) (kb:List Nat) (tm:List (Nat×AV)):List Nat→List (Nat×AV)
 | []=>[]
 | t::l=>match look tm t with
  | some x=>(t,x.clean hp vis kb)::wy hp vis kb tm l
  | none=>wy hp vis kb tm l
def zf (hp:List (Nat×Blk)) (vis:Nat) (kb:List Nat):List Nat→Option (List (Nat×Blk))
 | []=>some []
 | b::l=>match look hp b,zf hp vis kb l with
  | some k,some r=>match k.clean hp vis kb b with
   | some k'=>some ((b,k')::r)
   | none=>none
  | _,_=>none
def UF (z sz:Nat) (es:List D):Blk:=match z with
 | 0=>.virt 0 sz es
 | z+1=>match es with
  | []=>.row 0 (z+1) []
  | e::l=>.virt 0 sz (e::l)
def U4 (tm:List (Nat×AV)) (hp:List (Nat×Blk)) (nx:Nat):List Nat→List (Nat×AV)×List (Nat×Blk)×Nat
 | t::z::l=>match look tm t,look hp nx with
  | some (.d (.lst true sz es)),none=>U4 ((t,.own nx 0)::tm) ((nx,UF z sz es)::hp) (nx+1) l
  | _,_=>U4 tm hp nx l
 | _=>(tm,hp,nx)
def wv (s:St) (pr kt kb:List Nat):Option St :=
 match U4 s.tm s.hp s.nx pr with
 | (tm,hp,nx)=>match zf hp s.vis kb kb,hp.all fun q=>!(Nat.blt q.1 s.vis) || kb.contains q.1 with
  | some hp0,true=>some { s with tm:=wy hp s.vis kb tm kt,hp:=hp0,nx,ob:=[],orc:=[] }
  | _,_=>none
def Ys:Ex→Exit
 | .normal=>.normal
 | .exit id=>.exit id
 | .ret=>.ret
structure StepsV (vis:Nat) (hp:List (Nat×Blk)) (ρ:Nat→Value) (w:World) (hp' : List (Nat×Blk)) (ρ' : Nat→Value) (w' : World):Prop where
 ext:Ext w (Mut hp ρ) w'
 mt:∀ r,r < w.heap.size→Mut hp' ρ' r→Mut hp ρ r
 grow:∀ b k,b < vis→look hp b=some k→∃ k',look hp' b=some k'∧k.ver≤k'.ver∧(k.ver=k'.ver→ρ' b=ρ b)
theorem Steps1.toV {vis:Nat} {hp hp' : List (Nat×Blk)} {ρ ρ' : Nat→Value} {w w' : World} (h:Steps1 hp ρ w hp' ρ' w'):StepsV vis hp ρ w hp' ρ' w' :=
 ⟨h.ext,h.mt,fun b k _ hb=>h.grow.dom b k hb⟩
theorem StepsV.refl (vis:Nat) (hp:List (Nat×Blk)) (ρ:Nat→Value) (w:World):StepsV vis hp ρ w hp ρ w:=(Steps1.refl hp ρ w).toV
theorem StepsV.trans {vis:Nat} {h1 h2 h3:List (Nat×Blk)} {r1 r2 r3:Nat→Value} {w1 w2 w3:World} (a:StepsV vis h1 r1 w1 h2 r2 w2) (b:StepsV vis h2 r2 w2 h3 r3 w3):StepsV vis h1 r1 w1 h3 r3 w3 :=
 ⟨a.ext.trans b.ext fun r hr hm=>a.mt r hr hm,fun r hr hm=>a.mt r hr (b.mt r (Nat.lt_of_lt_of_le hr a.ext.size) hm),fun n k hn hk=>by
  obtain ⟨k2,hk2,l2,e2⟩:=a.grow n k hn hk
  obtain ⟨k3,hk3,l3,e3⟩:=b.grow n k2 hn hk2
  exact ⟨k3,hk3,Nat.le_trans l2 l3,fun he=>by rw [e3 (by omega),e2 (by omega)]⟩⟩
abbrev fen (r:Option Nat):Fence:={ Fence.wide with round:=r }
theorem Qbw (r:Option Nat) (n:Nat):(fen r).room n:=by intro d hd;cases hd
def wpR (r:Option Nat) (P:Program) (c:Code) (Q:Exit→Act→World→Prop) (a:Act) (w:World):Prop:=∀ m,c.wpIn (fen r) m P Q a w
section
variable {r:Option Nat} {P:Program} {Q:Exit→Act→World→Prop} {a:Act} {w:World}
theorem Wb {c:Code} {Q' : Exit→Act→World→Prop} (h:wpR r P c Q a w) (hq:∀ e a w,Q e a w→Q' e a w):wpR r P c Q' a w:=fun m=>wpIn_mono (h m) hq
theorem QaL (h:Q .normal a w):wpR r P .skip Q a w:=fun _=>wpIn_skip h
theorem uT {l:Nat} (h:Q .normal a w):wpR r P (.label l) Q a w:=fun _=>wpIn_label h
theorem QaM {id:Nat} (h:Q (.exit id) a w):wpR r P (.exit id) Q a w:=fun _=>wpIn_exit h
theorem QbT (h:Q .ret a w):wpR r P .ret Q a w:=fun _=>wpIn_ret h
theorem ur {x y:Code} (h:wpR r P x (Exit.then (wpR r P y Q) Q) a w):wpR r P (.seq x y) Q a w:=fun m=>wpIn_seq (wpIn_mono (h m) fun e a w hh=>by
 cases e with
 | normal=>exact hh m
 | exit id=>exact hh
 | goto l=>exact hh
 | ret=>exact hh
 | panic ch=>exact hh
 | outgrown=>exact hh)
theorem jU {c:Operand} {x y:Code} {t:Bool} (hc:a.eval c=.bool t) (h:wpR r P (if t then x else y) Q a w):wpR r P (.cond c x y) Q a w:=fun m=>wpIn_cond hc (h m)
theorem zI {c:Operand} {x y:Code} (hc:a.eval c=.bool true) (h:wpR r P x Q a w):wpR r P (.cond c x y) Q a w:=fun m=>wpIn_cond_true hc (h m)
theorem qD {c:Operand} {x y:Code} (hc:a.eval c=.bool false) (h:wpR r P y Q a w):wpR r P (.cond c x y) Q a w:=fun m=>wpIn_cond_false hc (h m)
theorem X5 {id:Nat} {c:Code} (h:wpR r P c (Exit.inBlock id Q) a w):wpR r P (.block id c) Q a w:=fun m=>wpIn_block (h m)
theorem Vv {b:Frame} {k:List Item} {cs:List Frame} {c:Code}:step P (lone (b.atR a (.code (.scope c)::k)) cs w)=.next (lone (b.atR a (.code c::.inScope c::k)) cs w) :=
 step_lone_go (by simp [stepG,stepG.exec,Frame.atR])
theorem zL {b:Frame} {k:List Item} {cs:List Frame} {c:Code}:step P (lone (b.atR a (.inScope c::k)) cs w)=.next (lone (b.atR a k) cs w) :=
 step_lone_go (by simp [stepG,stepG.exec,Frame.atR])
theorem GB {c:Code} (h:wpR r P c (Exit.noGoto Q) a w):wpR r P (.scope c) Q a w:=by
 intro m b k cs hro hb hr
 have h0:(lone (b.atR a (.code (.scope c)::k)) cs w).fenced P (fen r):=fenced_calm hb hr rfl
 obtain ⟨e,a₁,w₁,hq,harr⟩:=h m b (.inScope c::k) cs hro hb hr
 cases e with
 | normal=>exact ⟨.normal,a₁,w₁,hq,.head h0 Vv (StepsIn.trans harr (.one (fenced_calm hb hr rfl) zL))⟩
 | exit id =>
  have hx:exitTo id (.inScope c::k)=exitTo id k:=by simp [exitTo]
  exact ⟨.exit id,a₁,w₁,hq,fun k' hk=>.head h0 Vv (harr.1 k' (by rw [hx];exact hk)),
   fun hr' hk=>let ⟨k₁,h1,h2⟩:=harr.2 hr' (by rw [hx];exact hk);⟨k₁,h1,.head h0 Vv h2⟩⟩
 | goto l=>exact hq.elim
 | ret=>exact ⟨_,a₁,w₁,hq,.of_steps (.one h0 Vv) harr⟩
 | panic ch=>exact ⟨_,a₁,w₁,hq,.of_steps (.one h0 Vv) harr⟩
 | outgrown=>exact ⟨_,a₁,w₁,hq,.of_steps (.one h0 Vv) harr⟩
end
def DfTo (w:World) (ds0:List Deferred) (w' : World) (ds:List Deferred):Prop :=
 ∃ new:List Nat,ds=new.map (fun D=>{ target:=.collected D,args:=#[] })++ds0∧new.Nodup∧∀ D,D∈new→w.heap.size≤D∧w'.heap[D]?=some (.deferred (some []))
theorem DfTo.refl (w:World) (ds0:List Deferred) (w' : World):DfTo w ds0 w' ds0:=⟨[],rfl,List.nodup_nil,fun _ h=>by cases h⟩
def After (cx:Cx) (F:Nat→Prop) (vis nt:Nat) (hp:List (Nat×Blk)) (ρ:Nat→Value) (w:World) (ds0:List Deferred) (tm' : List (Nat×AV)) (hp' : List (Nat×Blk)) (a' : Act) (w' : World):Prop :=
 ∃ ρ',HSim cx F hp' ρ' w'∧TSim F tm' hp' ρ' a' w'∧a'.tmps.size=nt∧DfTo w ds0 w' a'.defers∧StepsV vis hp ρ w hp' ρ' w'
def wpL (r:Option Nat) (P:Program) (c:Code) (Q:Exit→Act→World→Prop) (a:Act) (w:World):Prop :=
 ∀ (b:Frame) (k:List Item) (cs:List Frame),b.roundOf=r→∃ e a' w',Q e a' w'∧ArrivesIn (Machine.fenced P (fen r)) P (lone (b.atR a (.code c::.inLoop c::k)) cs w) b k cs e a' w'
theorem uS {r:Option Nat} {P:Program} {c:Code} {Q:Exit→Act→World→Prop} {a:Act} {w:World} (h:wpL r P c Q a w):wpR r P (.loop c) Q a w:=by
 intro m b k cs hro hb hr
 obtain ⟨e,a',w',hq,harr⟩:=h b k cs hro
 exact ⟨e,a',w',hq,.of_steps (.one (fenced_calm hb hr rfl) stepR_loop) harr⟩
theorem J3 {r:Option Nat} {P:Program} {c:Code} {Q:Exit→Act→World→Prop} {a:Act} {w:World} (h:wpR r P c (Exit.then (wpL r P c Q) Q) a w):wpL r P c Q a w:=by
 intro b k cs hro
 have hb:(fen r).fn b.fn:=trivial
 have hr:(fen r).room (cs.length+1+0):=Qbw _ _
 obtain ⟨e,a₁,w₁,hq,harr⟩:=h 0 b (.inLoop c::k) cs hro hb hr
 cases e with
 | normal =>
  obtain ⟨e₂,a₂,w₂,hq₂,harr₂⟩:=hq b k cs hro
  exact ⟨e₂,a₂,w₂,hq₂,.of_steps (StepsIn.trans harr (.one (fenced_calm hb hr rfl) stepR_inLoop)) harr₂⟩
 | exit id=>exact ⟨_,a₁,w₁,hq,.pass (x:=.inLoop c) rfl (fun _ _=>.inl (by simp)) harr⟩
 | goto l=>exact ⟨_,a₁,w₁,hq,.pass (x:=.inLoop c) rfl (fun _ _=>.inl (by simp)) harr⟩
 | ret=>exact ⟨_,a₁,w₁,hq,.pass (x:=.inLoop c) rfl (fun _ _=>.inl (by simp)) harr⟩
 | panic ch=>exact ⟨_,a₁,w₁,hq,.pass (x:=.inLoop c) rfl (fun _ _=>.inl (by simp)) harr⟩
 | outgrown=>exact ⟨_,a₁,w₁,hq,.pass (x:=.inLoop c) rfl (fun _ _=>.inl (by simp)) harr⟩
def QcR (cx:Cx) (c:Code) (s:St) (e:Ex) (tm' : List (Nat×AV)) (hp' : List (Nat×Blk)):Prop :=
 ∀ (r:Option Nat) (F:Nat→Prop) (ρ:Nat→Value) (a:Act) (w:World),(s.rnd=false→r=none)→Sim cx F s ρ a w →
  wpL r cx.P c (fun e' a' w'=>e'=Ys e∧After cx F s.vis s.nt s.hp ρ w a.defers tm' hp' a' w') a w
def QI (cx:Cx) (c:Code) (nt vis:Nat) (rnd:Bool) (tm:List (Nat×AV)) (hp:List (Nat×Blk)) (e:Ex) (tm' : List (Nat×AV)) (hp' : List (Nat×Blk)):Prop :=
 QcR cx c { nt,sym:=true,tm,hp,nx:=0,orc:=[],ob:=[],vis,sfx:=true,rnd } e tm' hp'
def QbL (ops:Array Oper) (tm:List (Nat×AV)):List Nat :=
 match (ops.toList.any fun o=>match o.op with | .slice _ _ _ _ _=>true | _=>false) && (ops.toList.any fun o=>(Yp o).isSome) &&
   !(ops.toList.any fun o=>match o.op with | .store _ _ _=>true | .call { callee:=.builtin .append,args:=_,argTypes:=_ }=>true | _=>false) with
 | true=>ops.toList.filterMap fun o=>match o.op with
  | .move (.tmp t)=>match look tm t with
   | some (.own b _)=>some b
   | _=>none
  | _=>none
 | false=>[]
def U5 (ops:Array Oper) (s:St):St:=match s.sym with
 | true=>match s.orc with
  | .lp pr _ kb _ _ _ _::r=>{ s with hp:=kA (Qc s.hp kb++s.hp) pr,orc:=r }
  | _=>s
 | false=>{ s with hp:=Qc s.hp (QbL ops s.tm)++s.hp }
def jw {α:Type} (n:Nat) (k:Nat→α):α:=match n with
 | 0=>k 0
 | m+1=>k (m+1)
def jy {α:Type} (n:Bool) (k:Bool→α):α:=match n with
 | true=>k true
 | false=>k false
def jx {α β:Type} (l:List β) (k:List β→α):α:=match l with
 | []=>k []
 | x::r=>k (x::r)
def Qbt {α:Type} (l:List Prop) (k:List Prop→α):α:=match l with
 | []=>k []
 | x::r=>k (x::r)
theorem Qaq {α:Type} (n:Nat) (k:Nat→α):jw n k=k n:=by cases n <;> rfl
theorem Qas {α:Type} (n:Bool) (k:Bool→α):jy n k=k n:=by cases n <;> rfl
theorem Qar {α β:Type} (n:List β) (k:List β→α):jx n k=k n:=by cases n <;> rfl
theorem Qap {α:Type} (n:List Prop) (k:List Prop→α):Qbt n k=k n:=by cases n <;> rfl
def St.force {α:Type} (s:St) (k:St→α):α :=
 jw s.nt fun nt=>jy s.sym fun sym=>jx s.tm fun tm=>jx s.hp fun hp=>jw s.nx fun nx=>jx s.orc fun orc=>Qbt s.ob fun ob=>jw s.vis fun vis=>jy s.sfx fun sfx=>jy s.rnd fun rnd =>
  k { nt,sym,tm,hp,nx,orc,ob,vis,sfx,rnd }
theorem St.force_eq {α:Type} (s:St) (k:St→α):s.force k=k s:=by
 simp only [St.force,Qaq,Qas,Qar,Qap]
def Za:Nat→Cx→Code→St→Option (Ex×St)
 | 0,_,_,_=>none
 | n+1,cx,c,s=>match c with
  | .skip=>some (.normal,s)
  | .label _=>some (.normal,s)
  | .region _ ops draw=>s.force fun s=>match draw with
   | false=>match VF cx (wR (Za n cx) cx) (X4 (Za n cx)) ops s.nx (List.range ops.toList.length) { s with nx:=s.nx+ops.toList.length } with
    | some s'=>some (.normal,s')
    | none=>none
   | true=>match YJ cx (wR (Za n cx) cx) (X4 (Za n cx)) ops (Region.before ops).toList s.nx (U5 ops s) (List.range ops.toList.length) [] s.ob (U5 ops s).orc with
    | some (recs,ob,orc)=>match jz ops (Region.before ops).toList s.nx (U5 ops s) recs with
     | true=>some (.normal,{ s with tm:=WM recs++s.tm,hp:=Zy recs++(U5 ops s).hp,nx:=Qbg (s.nx+ops.toList.length) recs,orc,ob })
     | false=>none
    | none=>none
  | .seq a b=>match Za n cx a s with
   | some (.normal,s1)=>Za n cx b s1
   | r=>r
  | .cond x t e=>match evA cx s.tm x with
   | .d (.v (.bool b))=>match Xd s.sym s.orc with
    | some (.br true,r)=>Za n cx t { s with orc:=r,ob:=(b=true)::s.ob }
    | some (.br false,r)=>Za n cx e { s with orc:=r,ob:=(b=false)::s.ob }
    | some (.no,r)=>match b with
     | true=>Za n cx t { s with orc:=r }
     | false=>Za n cx e { s with orc:=r }
    | _=>none
   | _=>none
  | .block id body=>match Za n cx body s with
   | some (.exit i,s1)=>match Nat.beq i id with
    | true=>some (.normal,s1)
    | false=>some (.exit i,s1)
   | r=>r
  | .scope body=>Za n cx body s
  | .loop body=>match Xd s.sym s.orc with
   | some (.lp pr kt kb e tm hp nx,r)=>match wv s pr kt kb with
    | some s0=>some (e,{ s with tm,hp,nx,orc:=r,ob:=QI cx body s0.nt s0.vis s0.rnd s0.tm s0.hp e tm hp::s.ob,sfx:=false })
    | none=>none
   | some (.no,r)=>match Za n cx body { s with orc:=r,tm:=wH s.tm 0 } with
    | some (.normal,s1)=>Za n cx (.loop body) s1
    | q=>q
   | _=>none
  | .rangeFunc f ps as bd=>match s.rnd,Uo (evA cx s.tm f),WI s.hp s.nx && s.hp.all (fun p=>Xh p.2) with
   | false,some (g,a,b),true=>match Yt (Za n cx) cx g (a++[.own s.nx 0]++b) { nt:=0,sym:=s.sym,tm:=[],hp:=(s.nx,.loop true (YK s.tm s.nt) ps.toList as bd s.nt)::s.hp,nx:=s.nx+1,orc:=s.orc,ob:=s.ob,vis:=s.nx+1,sfx:=true } with
    | some (_,s2)=>match look s2.hp s.nx,Yh s.nx s2.hp with
     | some (.loop true _ _ _ _ _),true=>some (.normal,{ s with hp:=(s.nx,.dead)::s2.hp.filter (fun p=>!(Nat.beq p.1 s.nx)),nx:=s2.nx,orc:=s2.orc,ob:=s2.ob,sfx:=!s.sym && (s.sfx && s2.sfx) })
     | some (.left e),true=>some (e,{ s with hp:=(s.nx,.dead)::s2.hp.filter (fun p=>!(Nat.beq p.1 s.nx)),nx:=s2.nx,orc:=s2.orc,ob:=s2.ob,sfx:=!s.sym && (s.sfx && s2.sfx) })
     | _,_=>none
    | none=>none
   | _,_,_=>none
  | .exit id=>some (.exit id,s)
  | .ret=>some (.ret,s)
  | _=>none
theorem VR.restrict {w w' : World} {M M1 M2:Nat→Prop} {H hp' : List (Nat×Blk)} {ρ ρ' : Nat→Value} (hag:∀ b k,look H b=some k→look hp' b=some k∧ρ' b=ρ b) (hM:∀ r,r < w'.heap.size→M2 r→M1 r) {x:AV} {y0:Value} (h0:VR w M H ρ x y0) :
  ∀ y,VR w' M1 hp' ρ' x y→VR w' M2 H ρ x y:=by
 induction h0 with
 | d x y0 _ =>
  intro y h
  cases h with
  | d _ _ h=>exact .d _ _ (h.ext (Nat.le_refl _) (fun _ _ _=>rfl) hM)
 | agg cs ys hl hh ih =>
  intro y h
  cases h with
  | agg _ ys' hl' hh' =>
   refine .agg cs ys' hl' fun i c z hc hz=>?_
   have hlt:i < ys.length:=by rw [← hl];exact (List.getElem?_eq_some_iff.1 hc).1
   exact ih i c ys[i] hc (by simp [hlt]) z (hh' i c z hc hz)
 | tup cs ys hl hh ih =>
  intro y h
  cases h with
  | tup _ ys' hl' hh' =>
   refine .tup cs ys' hl' fun i c z hc hz=>?_
   have hlt:i < ys.length:=by rw [← hl];exact (List.getElem?_eq_some_iff.1 hc).1
   exact ih i c ys[i] hc (by simp [hlt]) z (hh' i c z hc hz)
 | dptr x off blk o hd =>
  intro y h
  cases h with
  | dptr _ _ blk' o' hd'=>exact .dptr _ _ _ _ (hd'.ext (Nat.le_refl _) (fun _ _ _=>rfl) hM)
 | ptr b ver sz i off k y0 hb hv ho hh =>
  intro y h
  cases h with
  | ptr _ _ _ _ _ k' _ hb' hv' ho' hh' =>
   obtain ⟨h1,h2⟩:=hag b k hb
   rw [h1] at hb';cases hb'
   exact .ptr b ver sz i off k y hb hv ho' fun he=>by
    obtain ⟨r,hr,hy⟩:=hh' he
    exact ⟨r,by rw [← h2];exact hr,hy⟩
 | own b ver k y0 hb hv ho hh =>
  intro y h
  cases h with
  | own _ _ k' _ hb' hv' ho' hh' =>
   obtain ⟨h1,h2⟩:=hag b k hb
   rw [h1] at hb';cases hb'
   exact .own b ver k y hb hv ho' fun he=>by rw [← h2];exact hh' he
 | sub b ver sz lo n k y0 hb hv ho hh =>
  intro y h
  cases h with
  | sub _ _ _ _ _ k' _ hb' hv' ho' hh' =>
   obtain ⟨h1,h2⟩:=hag b k hb
   rw [h1] at hb';cases hb'
   exact .sub b ver sz lo n k y hb hv ho' fun he=>by
    obtain ⟨r,c,hr,hy⟩:=hh' he
    exact ⟨r,c,by rw [← h2];exact hr,hy⟩
 | fn f a b xs ys hl hm hh hk ih ik =>
  intro y h
  cases h with
  | fn _ _ _ xs' ys' hl' hm' hh' hk' =>
   refine .fn f a b xs' ys' hl' hm' (fun i c z hc hz=>?_) (fun i c z hc hz=>?_)
   ·have hlt:i < xs.length:=by rw [← hl];exact (List.getElem?_eq_some_iff.1 hc).1
    exact ih i c xs[i] hc (by simp [hlt]) z (hh' i c z hc hz)
   ·have hlt:i < ys.length:=by rw [← hm];exact (List.getElem?_eq_some_iff.1 hc).1
    exact ik i c ys[i] hc (by simp [hlt]) z (hk' i c z hc hz)
 | junk y0=>intro y _;exact .junk y
theorem HSim.restrict {cx:Cx} {F:Nat→Prop} {H hp' : List (Nat×Blk)} {ρ ρ' : Nat→Value} {w w' : World} (h:HSim cx F H ρ w) (h' : HSim cx F hp' ρ' w') (hag:∀ b k,look H b=some k→look hp' b=some k∧ρ' b=ρ b)
  (hx:Ext w (Mut H ρ) w'):HSim cx F H ρ w'∧Steps1 H ρ w H ρ w':=by
 have hmut:∀ r,Mut H ρ r→Mut hp' ρ' r:=by
  rintro r ⟨b,k,hb,hm,hr⟩
  obtain ⟨h1,h2⟩:=hag b k hb
  exact ⟨b,k,h1,hm,by rw [h2];exact hr⟩
 have hMM:∀ r,r < w'.heap.size→MM F H ρ r→MM F hp' ρ' r:=fun r _ hm=>hm.imp id (hmut r)
 refine ⟨⟨fun b k hb=>?_,h.inj,h.forb,fun r hr=>Nat.lt_of_lt_of_le (h.bnd r hr) hx.size,fun g x hg=>?_⟩,⟨hx,fun _ _ h=>h,Grows.refl _ _⟩⟩
 ·obtain ⟨h1,h2⟩:=hag b k hb
  have hB:=h.blk b k hb
  have hB':=h'.blk b k h1
  cases k with
  | box x =>
   obtain ⟨r,e,v,cs,q1,q2,q3,q4⟩:=hB'
   obtain ⟨_,_,v0,_,_,_,_,p4⟩:=hB
   exact ⟨r,e,v,cs,by rw [← h2];exact q1,q2,q3,VR.restrict hag hMM p4 v q4⟩
  | loop rdy tm ps as bd nt =>
   obtain ⟨l,rc,q1,q3,q4,q5,q6,q7,q8,q9,q10⟩:=hB'
   obtain ⟨_,_,_,_,_,_,_,_,_,_,p10⟩:=hB
   exact ⟨l,rc,by rw [← h2];exact q1,q3,q4,q5,q6,q7,q8,q9,fun t x hx=>VR.restrict hag hMM (p10 t x hx) _ (q10 t x hx)⟩
  | mp es =>
   obtain ⟨r,es',c,q1,q2,q3⟩:=hB'
   exact ⟨r,es',c,by rw [← h2];exact q1,q2,q3.ext (Nat.le_refl _) (fun _ _ _=>rfl) hMM⟩
  | it s p =>
   obtain ⟨r,q1,q2⟩:=hB'
   exact ⟨r,by rw [← h2];exact q1,q2⟩
  | left e =>
   obtain ⟨l,rc,q1,q3,q4⟩:=hB'
   exact ⟨l,rc,by rw [← h2];exact q1,q3,q4⟩
  | fbox x =>
   obtain ⟨r,q1,q2⟩:=hB'
   exact ⟨r,by rw [← h2];exact q1,q2.ext (Nat.le_refl _) (fun _ _ _=>rfl) hMM⟩
  | dead=>trivial
  | row ver sz es =>
   rcases hB' with ⟨q0,a0,q1⟩ | ⟨r,c,e,cap,q1,q2,q3,q4,q5,q6⟩
   ·exact .inl ⟨q0,a0,by rw [← h2];exact q1⟩
   refine .inr ⟨r,c,e,cap,by rw [← h2];exact q1,q2,q3,q4,q5,fun i d j a hd ha=>?_⟩
   obtain ⟨y,y1,y2,y3⟩:=q6 i d j a hd ha
   exact ⟨y,y1,y2,y3.ext (Nat.le_refl _) (fun _ _ _=>rfl) hMM⟩
  | frozen ver sz es =>
   simp only [BlkR] at hB' ⊢
   rw [← h2];exact hB'.ext (Nat.le_refl _) (fun _ _ _=>rfl) hMM
  | virt ver sz es =>
   simp only [BlkR] at hB' ⊢
   rw [← h2];exact hB'.ext (Nat.le_refl _) (fun _ _ _=>rfl) hMM
 ·exact (h'.glob g x hg).ext (Nat.le_refl _) (fun _ _ _=>rfl) hMM
theorem HSim.restrictE {cx:Cx} {F:Nat→Prop} {H hp' : List (Nat×Blk)} {ρ ρ' : Nat→Value} {w w' : World} {E:Nat→Prop} (h:HSim cx F H ρ w) (h' : HSim cx F hp' ρ' w') (hag:∀ b k,look H b=some k→look hp' b=some k∧ρ' b=ρ b)
  (hx:Ext w (Mut H ρ) w') (hE:∀ r,E r→Mut hp' ρ' r∧w.heap.size≤r):HSim cx (fun r=>F r ∨ E r) H ρ w':=by
 have hmut:∀ r,Mut H ρ r→Mut hp' ρ' r:=by
  rintro r ⟨b,k,hb,hm,hr⟩
  obtain ⟨h1,h2⟩:=hag b k hb
  exact ⟨b,k,h1,hm,by rw [h2];exact hr⟩
 have hMM:∀ r,r < w'.heap.size→MM (fun r=>F r ∨ E r) H ρ r→MM F hp' ρ' r:=by
  rintro r _ ((h1 | h1) | h1)
  ·exact .inl h1
  ·exact .inr (hE r h1).1
  ·exact .inr (hmut r h1)
 refine ⟨fun b k hb=>?_,h.inj,fun r hr hf=>?_,fun r hr=>?_,fun g x hg=>?_⟩
 ·obtain ⟨h1,h2⟩:=hag b k hb
  have hB:=h.blk b k hb
  have hB':=h'.blk b k h1
  cases k with
  | box x =>
   obtain ⟨r,e,v,cs,q1,q2,q3,q4⟩:=hB'
   obtain ⟨_,_,v0,_,_,_,_,p4⟩:=hB
   exact ⟨r,e,v,cs,by rw [← h2];exact q1,q2,q3,VR.restrict hag hMM p4 v q4⟩
  | loop rdy tm ps as bd nt =>
   obtain ⟨l,rc,q1,q3,q4,q5,q6,q7,q8,q9,q10⟩:=hB'
   obtain ⟨_,_,_,_,_,_,_,_,_,_,p10⟩:=hB
   exact ⟨l,rc,by rw [← h2];exact q1,q3,q4,q5,q6,q7,q8,q9,fun t x hx=>VR.restrict hag hMM (p10 t x hx) _ (q10 t x hx)⟩
  | mp es =>
   obtain ⟨r,es',c,q1,q2,q3⟩:=hB'
   exact ⟨r,es',c,by rw [← h2];exact q1,q2,q3.ext (Nat.le_refl _) (fun _ _ _=>rfl) hMM⟩
  | it s p =>
   obtain ⟨r,q1,q2⟩:=hB'
   exact ⟨r,by rw [← h2];exact q1,q2⟩
  | left e =>
   obtain ⟨l,rc,q1,q3,q4⟩:=hB'
   exact ⟨l,rc,by rw [← h2];exact q1,q3,q4⟩
  | fbox x =>
   obtain ⟨r,q1,q2⟩:=hB'
   exact ⟨r,by rw [← h2];exact q1,q2.ext (Nat.le_refl _) (fun _ _ _=>rfl) hMM⟩
  | dead=>trivial
  | row ver sz es =>
   rcases hB' with ⟨q0,a0,q1⟩ | ⟨r,c,e,cap,q1,q2,q3,q4,q5,q6⟩
   ·exact .inl ⟨q0,a0,by rw [← h2];exact q1⟩
   refine .inr ⟨r,c,e,cap,by rw [← h2];exact q1,q2,q3,q4,q5,fun i d j a hd ha=>?_⟩
   obtain ⟨y,y1,y2,y3⟩:=q6 i d j a hd ha
   exact ⟨y,y1,y2,y3.ext (Nat.le_refl _) (fun _ _ _=>rfl) hMM⟩
  | frozen ver sz es =>
   simp only [BlkR] at hB' ⊢
   rw [← h2];exact hB'.ext (Nat.le_refl _) (fun _ _ _=>rfl) hMM
  | virt ver sz es =>
   simp only [BlkR] at hB' ⊢
   rw [← h2];exact hB'.ext (Nat.le_refl _) (fun _ _ _=>rfl) hMM
 ·rcases hf with hf | hf
  ·exact h.forb r hr hf
  ·have:=h.mut_lt hr
   have:=(hE r hf).2
   omega
 ·rcases hr with hr | hr
  ·exact Nat.lt_of_lt_of_le (h.bnd r hr) hx.size
  ·exact h'.mut_lt (hE r hr).1
 ·exact (h'.glob g x hg).ext (Nat.le_refl _) (fun _ _ _=>rfl) hMM
def RowV (w:World) (M:Nat→Prop) (v:Value) (sz:Nat) (es:List D):Prop :=
 (es=[]∧∃ a,v=.slice a 0 0) ∨ ∃ r c e cap,v=.slice (some ⟨r,0,none⟩) es.length cap∧(es.length≤cap∧0 < cap)∧cap * sz≤c.size∧w.heap[r]?=some (.cells c e (0,0)) ∧
   (∀ (i:Nat) (d:D),es[i]?=some d→d.cells.length=sz) ∧
   ∀ (i:Nat) (d:D) (j:Nat) (a:D),es[i]?=some d→d.cells[j]?=some a→∃ y,c[i * sz+j]?=some y∧one y=true∧DR w M a y
theorem RowV.sub {w:World} {M M' : Nat→Prop} {v:Value} {sz:Nat} {es:List D} (h:RowV w M v sz es) (hm:∀ r,r < w.heap.size→M' r→M r):RowV w M' v sz es:=by
 rcases h with h | ⟨r,c,e,cap,q1,q2,q3,q4,q5,q6⟩
 ·exact .inl h
 ·refine .inr ⟨r,c,e,cap,q1,q2,q3,q4,q5,fun i d j a hd ha=>?_⟩
  obtain ⟨y,y1,y2,y3⟩:=q6 i d j a hd ha
  exact ⟨y,y1,y2,y3.ext (Nat.le_refl _) (fun _ _ _=>rfl) hm⟩
def FreshV (w:World) (M:Nat→Prop) (v:Value):Blk→Prop
 | .row _ sz es=>RowV w M v sz es
 | .mp es=>∃ r es' c,v=.map (some r)∧w.heap[r]?=some (.map es' c)∧MR w M es es'.toList
 | _=>False
theorem FreshV.sub {w:World} {M M' : Nat→Prop} {v:Value} {k:Blk} (h:FreshV w M v k) (hm:∀ r,r < w.heap.size→M' r→M r):FreshV w M' v k:=by
 cases k with
 | row _ sz es=>exact RowV.sub h hm
 | mp es =>
  obtain ⟨r,es',c,h1,h2,h3⟩:=h
  exact ⟨r,es',c,h1,h2,h3.ext (Nat.le_refl _) (fun _ _ _=>rfl) hm⟩
 | _=>exact h.elim
theorem FreshV.blk {w:World} {M:Nat→Prop} {hp:List (Nat×Blk)} {ρ:Nat→Value} {b:Nat} {k:Blk} (h:FreshV w M (ρ b) k):BlkR w M hp ρ b k:=by
 cases k with
 | row _ sz es =>
  rcases h with ⟨q0,a,q1⟩ | ⟨r,c,e,cap,q1,q2⟩
  ·exact .inl ⟨q0,a,q1⟩
  ·exact .inr ⟨r,c,e,cap,q1,q2⟩
 | mp es=>exact h
 | _=>exact h.elim
theorem FreshV.stamp {w:World} {M:Nat→Prop} {v:Value} {k:Blk} (h:FreshV w M v k):FreshV w M v (stamp k):=by
 cases k with
 | row _ sz es=>exact h
 | mp es=>exact h
 | _=>exact h.elim
theorem Ga {w:World} {M:Nat→Prop} {hp:List (Nat×Blk)} {ρ:Nat→Value} {b:Nat} {k:Blk} (hk:Em k=true) (h:BlkR w M hp ρ b k):FreshV w M (ρ b) k:=by
 cases k with
 | row _ sz es=>exact h
 | mp es=>exact h
 | _=>cases hk
theorem Um {k:Blk} (hk:Em k=true):k.live=true:=by cases k <;> first | rfl | cases hk
theorem kl {w:World} {M1 M2:Nat→Prop} {hp1 hp2:List (Nat×Blk)} {ρ1 ρ2:Nat→Value} {b ver nm:Nat} {k1 k2:Blk} (h1:look hp1 b=some k1) (hv:k1.ver=ver) (h2:look hp2 nm=some k2) (hρ:ρ2 nm=ρ1 b)
  (hM:∀ r,r < w.heap.size→M2 r→M1 r):∀ (cs xs:List AV) (ys:List Value),ko b ver nm cs=some xs→cs.length=ys.length→(∀ (i:Nat) (c:AV) (y:Value),cs[i]?=some c→ys[i]?=some y→VR w M1 hp1 ρ1 c y) →
  xs.length=ys.length∧∀ (i:Nat) (c:AV) (y:Value),xs[i]?=some c→ys[i]?=some y→VR w M2 hp2 ρ2 c y
 | [],xs,ys,hx,hl,_=>by
  simp only [ko,Option.some.injEq] at hx
  subst hx
  exact ⟨hl,fun i c y hc _=>by simp at hc⟩
 | x::l,xs,ys,hx,hl,hh=>by
  cases ys with
  | nil=>simp at hl
  | cons y ys =>
  have ih:=kl h1 hv h2 hρ hM l
  have hx0:=hh 0 x y rfl rfl
  have hrest:∀ (i:Nat) (c:AV) (z:Value),l[i]?=some c→ys[i]?=some z→VR w M1 hp1 ρ1 c z:=fun i c z hc hz=>hh (i+1) c z (by simpa using hc) (by simpa using hz)
  unfold ko at hx
  split at hx
  ·rename_i z r hr
   simp only [Option.some.injEq] at hx;subst hx
   obtain ⟨g1,g2⟩:=ih r ys hr (by simpa using hl) hrest
   refine ⟨by simpa using g1,fun i c y' hc hy=>?_⟩
   cases i with
   | zero =>
    simp only [List.getElem?_cons_zero,Option.some.injEq] at hc hy
    subst hc;subst hy
    cases hx0 with
    | d _ _ hd=>exact .d _ _ (hd.ext (Nat.le_refl _) (fun _ _ _=>rfl) hM)
   | succ i=>exact g2 i c y' (by simpa using hc) (by simpa using hy)
  ·rename_i b' v r hr
   split at hx
   case h_2=>cases hx
   rename_i hc0
   simp only [Bool.and_eq_true] at hc0
   have e1:=Nat.eq_of_beq_eq_true hc0.1
   have e2:=Nat.eq_of_beq_eq_true hc0.2
   subst e1;subst e2
   simp only [Option.some.injEq] at hx;subst hx
   obtain ⟨g1,g2⟩:=ih r ys hr (by simpa using hl) hrest
   refine ⟨by simpa using g1,fun i c y' hc hy=>?_⟩
   cases i with
   | zero =>
    simp only [List.getElem?_cons_zero,Option.some.injEq] at hc hy
    subst hc;subst hy
    cases hx0 with
    | own _ _ kk _ hb' hv' ho' hh' =>
     rw [h1] at hb';cases hb'
     exact .own _ 0 _ _ h2 (Nat.zero_le _) ho' fun _=>by rw [hρ];exact hh' hv.symm
   | succ i=>exact g2 i c y' (by simpa using hc) (by simpa using hy)
  ·cases hx
theorem jh {w:World} {M1 M2:Nat→Prop} {hp1 hp2:List (Nat×Blk)} {ρ1 ρ2:Nat→Value} {b ver nm:Nat} {k1 k2:Blk} (h1:look hp1 b=some k1) (hv:k1.ver=ver) (h2:look hp2 nm=some k2) (hρ:ρ2 nm=ρ1 b)
  (hM:∀ r,r < w.heap.size→M2 r→M1 r) {x v:AV} {y:Value} (hx:renF b ver nm x=some v) (h:VR w M1 hp1 ρ1 x y):VR w M2 hp2 ρ2 v y:=by
 unfold renF at hx
 split at hx
 ·rename_i b' v'
  split at hx
  case h_2=>cases hx
  rename_i hc0
  simp only [Bool.and_eq_true] at hc0
  have e1:=Nat.eq_of_beq_eq_true hc0.1
  have e2:=Nat.eq_of_beq_eq_true hc0.2
  subst e1;subst e2
  simp only [Option.some.injEq] at hx;subst hx
  cases h with
  | own _ _ kk _ hb' hv' ho' hh' =>
   rw [h1] at hb';cases hb'
   exact .own _ 0 _ _ h2 (Nat.zero_le _) ho' fun _=>by rw [hρ];exact hh' hv.symm
 ·rename_i cs
  split at hx
  case h_2=>cases hx
  rename_i l hl
  simp only [Option.some.injEq] at hx;subst hx
  cases h with
  | agg _ ys hlen hh =>
   obtain ⟨g1,g2⟩:=kl h1 hv h2 hρ hM cs l ys hl hlen hh
   exact .agg l ys g1 g2
 ·cases hx
theorem HSim.name {cx:Cx} {F E:Nat→Prop} {hp:List (Nat×Blk)} {ρ:Nat→Value} {w:World} (h:HSim cx (fun r=>F r ∨ E r) hp ρ w) {nm:Nat} {k0:Blk} {v:Value} (hn:look hp nm=none)
  (hE:∀ r,QA v=some r→E r) (hEF:∀ r,E r→¬ F r) (hrow:FreshV w (MM (fun r=>F r ∨ E r) hp ρ) v k0) :
  HSim cx F ((nm,k0)::hp) (Z1 ρ nm v) w:=by
 have hmut:∀ q,Mut ((nm,k0)::hp) (Z1 ρ nm v) q→Mut hp ρ q ∨ E q:=by
  rintro q ⟨n,k',hb,hm,hq⟩
  by_cases hnb:n=nm
  ·subst hnb;rw [Qj] at hq;exact .inr (hE q hq)
  ·rw [Qb _ _ (Ne.symm hnb)] at hb;rw [Qr _ _ hnb] at hq;exact .inl ⟨n,k',hb,hm,hq⟩
 have hMM:∀ r,r < w.heap.size→MM F ((nm,k0)::hp) (Z1 ρ nm v) r→MM (fun r=>F r ∨ E r) hp ρ r:=by
  rintro r _ (h1 | h1)
  ·exact .inl (.inl h1)
  ·rcases hmut r h1 with h2 | h2
   ·exact .inr h2
   ·exact .inl (.inr h2)
 have hgr:Grows hp ((nm,k0)::hp) ρ (Z1 ρ nm v):=⟨fun b k hb=>by
  have hne:b≠nm:=fun e=>by rw [e,hn] at hb;cases hb
  exact ⟨k,by rw [Qb _ _ (Ne.symm hne)];exact hb,Nat.le_refl _,fun _=>Qr _ _ hne⟩⟩
 refine ⟨fun b k hb=>?_,fun b b' k k' r h1 h2 m1 m2 r1 r2=>?_,fun r hr hf=>?_,fun r hr=>h.bnd r (.inl hr),fun g x hg=>(h.glob g x hg).ext (Nat.le_refl _) (fun _ _ _=>rfl) hMM⟩
 ·by_cases hnb:b=nm
  ·subst hnb
   rw [Qd] at hb;cases hb
   have:=hrow.sub hMM
   exact FreshV.blk (by rw [Qj];exact this)
  ·rw [Qb _ _ (Ne.symm hnb)] at hb
   exact (h.blk b k hb).ext (Nat.le_refl _) (fun _ _ _=>rfl) hMM hgr (Qr _ _ hnb) (fun _ _ _=>rfl)
 ·by_cases hn1:b=nm <;> by_cases hn2:b'=nm
  ·rw [hn1,hn2]
  ·subst hn1
   rw [Qj] at r1
   rw [Qb _ _ (Ne.symm hn2)] at h2;rw [Qr _ _ hn2] at r2
   exact absurd (.inr (hE r r1)) (h.forb r ⟨b',k',h2,m2,r2⟩)
  ·subst hn2
   rw [Qj] at r2
   rw [Qb _ _ (Ne.symm hn1)] at h1;rw [Qr _ _ hn1] at r1
   exact absurd (.inr (hE r r2)) (h.forb r ⟨b,k,h1,m1,r1⟩)
  ·rw [Qb _ _ (Ne.symm hn1)] at h1;rw [Qr _ _ hn1] at r1
   rw [Qb _ _ (Ne.symm hn2)] at h2;rw [Qr _ _ hn2] at r2
   exact h.inj b b' k k' r h1 h2 m1 m2 r1 r2
 ·rcases hmut r hr with h1 | h1
  ·exact h.forb r h1 (.inl hf)
  ·exact hEF r h1 hf
theorem ZZ:∀ (cs:List OC) (i j:Nat),(Uy i cs)[j]?=match cs[j]? with
  | none=>none
  | some (.dat x)=>some (.d x)
  | some (.row _ _)=>some (.own (i+j) 0)
 | [],i,j=>by simp [Uy]
 | .dat x::l,i,0=>by simp [Uy]
 | .row s e::l,i,0=>by simp [Uy]
 | .dat x::l,i,j+1=>by
  simp only [Uy,List.getElem?_cons_succ]
  rw [ZZ l (i+1) j,show i+1+j=i+(j+1) by omega]
 | .row s e::l,i,j+1=>by
  simp only [Uy,List.getElem?_cons_succ]
  rw [ZZ l (i+1) j,show i+1+j=i+(j+1) by omega]
theorem Yi:∀ (cs:List OC) (i:Nat),(Uy i cs).length=cs.length
 | [],_=>rfl
 | .dat x::l,i=>by simp [Uy,Yi l]
 | .row s e::l,i=>by simp [Uy,Yi l]
theorem Ui:∀ (cs:List OC) (i n:Nat) (k:Blk),look (Y2 i cs) n=some k↔∃ j sz es,n=i+j∧cs[j]?=some (.row sz es)∧k=.row 0 sz es
 | [],i,n,k=>by simp [Y2,look]
 | .dat x::l,i,n,k=>by
  simp only [Y2]
  rw [Ui l (i+1) n k]
  constructor
  ·rintro ⟨j,sz,es,h1,h2,h3⟩;exact ⟨j+1,sz,es,by omega,by simpa using h2,h3⟩
  ·rintro ⟨j,sz,es,h1,h2,h3⟩
   cases j with
   | zero=>simp at h2
   | succ j=>exact ⟨j,sz,es,by omega,by simpa using h2,h3⟩
 | .row s e::l,i,n,k=>by
  simp only [Y2]
  by_cases hn:i=n
  ·subst hn
   rw [Qd]
   constructor
   ·intro h;cases h;exact ⟨0,s,e,by omega,by simp,rfl⟩
   ·rintro ⟨j,sz,es,h1,h2,h3⟩
    have:j=0:=by omega
    subst this
    simp only [List.getElem?_cons_zero,Option.some.injEq,OC.row.injEq] at h2
    rw [h3,h2.1,h2.2]
  ·rw [Qb _ _ hn,Ui l (i+1) n k]
   constructor
   ·rintro ⟨j,sz,es,h1,h2,h3⟩;exact ⟨j+1,sz,es,by omega,by simpa using h2,h3⟩
   ·rintro ⟨j,sz,es,h1,h2,h3⟩
    cases j with
    | zero=>omega
    | succ j=>exact ⟨j,sz,es,by omega,by simpa using h2,h3⟩
theorem Zb (cs:List OC):look (QV cs) 0=some (.box (AV.norm (.agg (Uy 1 cs)))):=Qd _ _ _
theorem VX {cs:List OC} {j sz:Nat} {es:List D} (h:cs[j]?=some (.row sz es)):look (QV cs) (j+1)=some (.row 0 sz es):=by
 rw [QV,Qb _ _ (by omega)]
 exact (Ui cs 1 (j+1) _).2 ⟨j,sz,es,by omega,h,rfl⟩
theorem JC {cs:List OC} {n:Nat} {k:Blk} (h:look (QV cs) n=some k):(n=0∧k=.box (AV.norm (.agg (Uy 1 cs)))) ∨ ∃ j sz es,n=j+1∧cs[j]?=some (.row sz es)∧k=.row 0 sz es:=by
 by_cases hn:n=0
 ·subst hn;rw [Zb] at h;cases h;exact .inl ⟨rfl,rfl⟩
 ·right
  rw [QV,Qb _ _ (by omega)] at h
  obtain ⟨j,sz,es,h1,h2,h3⟩:=(Ui cs 1 n k).1 h
  exact ⟨j,sz,es,by omega,h2,h3⟩
theorem GK {l:List AV} (h:ZS l=true):(AV.norm (.agg l)).cells.isSome=true:=by
 unfold AV.norm
 split
 ·rename_i y hy
  simp only [AV.toD] at hy
  split at hy
  case h_2=>cases hy
  rename_i ds hds
  simp only [Option.some.injEq] at hy;subst hy
  have key:∀ (l:List AV) (ds:List D),ZS l=true→YC l=some ds→ZS (ds.map .d)=true:=by
   intro l
   induction l with
   | nil=>intro ds _ h;simp only [YC,Option.some.injEq] at h;subst h;rfl
   | cons x l ih =>
    intro ds ho h
    simp only [YC] at h
    split at h
    case h_2=>cases h
    rename_i y ys hy hys
    simp only [Option.some.injEq] at h;subst h
    simp only [ZS,Bool.and_eq_true] at ho
    simp only [List.map_cons,ZS,Bool.and_eq_true]
    refine ⟨?_,ih ys ho.2 hys⟩
    have hx:=ho.1
    cases x with
    | d z=>simp only [AV.toD,Option.some.injEq] at hy;subst hy;exact hx
    | fn f a b =>
     simp only [AV.toD] at hy
     split at hy
     ·simp only [Option.some.injEq] at hy;subst hy;rfl
     ·cases hy
    | agg _=>simp [AV.isOne] at hx
    | tup _=>simp [AV.isOne] at hx
    | junk=>simp [AV.isOne] at hx
    | _=>simp [AV.toD] at hy
  simp only [AV.cells,key l ds h hds];rfl
 ·simp only [AV.cells,h];rfl
structure Names (ns:List (Option (Nat×Nat))) (cs:List OC):Prop where
 row:∀ (i sz:Nat) (es:List D),cs[i]?=some (.row sz es)→∃ p,ns[i]?=some (some p)
 dat:∀ (i:Nat) (x:D),cs[i]?=some (.dat x)→ns[i]?=some none
 len:ns.length=cs.length
theorem Names.tail {p:Option (Nat×Nat)} {ns:List (Option (Nat×Nat))} {c:OC} {cs:List OC} (h:Names (p::ns) (c::cs)):Names ns cs :=
 ⟨fun i sz es hc=>by simpa using h.row (i+1) sz es (by simpa using hc),fun i x hc=>by simpa using h.dat (i+1) x (by simpa using hc),by simpa using h.len⟩
theorem Names.rowOf {ns:List (Option (Nat×Nat))} {cs:List OC} (h:Names ns cs) {i:Nat} {p:Nat×Nat} (hi:ns[i]?=some (some p)):∃ sz es,cs[i]?=some (.row sz es):=by
 have hlt:i < cs.length:=by rw [← h.len];exact (List.getElem?_eq_some_iff.1 hi).1
 cases hc:cs[i] with
 | dat x=>have:=h.dat i x (by rw [List.getElem?_eq_getElem hlt,hc]);rw [hi] at this;cases this
 | row sz es=>exact ⟨sz,es,by rw [List.getElem?_eq_getElem hlt,hc]⟩
theorem U8:∀ {ns:List (Option (Nat×Nat))} {cs:List OC},Names ns cs→∀ (i:Nat) (x:D),cs[i]?=some (.dat x)→(QY ns cs)[i]?=some (.d x)
 | _,[],_,i,x,h=>by simp at h
 | [],c::cs,hn,i,x,h=>by have:=hn.len;simp at this
 | p::ns,c::cs,hn,0,x,h=>by
  simp only [List.getElem?_cons_zero,Option.some.injEq] at h;subst h
  have:=hn.dat 0 x rfl
  simp only [List.getElem?_cons_zero,Option.some.injEq] at this;subst this
  simp [QY]
 | p::ns,c::cs,hn,i+1,x,h=>by
  have ih:=U8 hn.tail i x (by simpa using h)
  cases c with
  | dat y =>
   have:=hn.dat 0 y rfl
   simp only [List.getElem?_cons_zero,Option.some.injEq] at this;subst this
   simpa [QY] using ih
  | row s e =>
   obtain ⟨⟨a,b⟩,hq⟩:=hn.row 0 s e rfl
   simp only [List.getElem?_cons_zero,Option.some.injEq] at hq;subst hq
   simpa [QY] using ih
theorem U6:∀ {ns:List (Option (Nat×Nat))} {cs:List OC},Names ns cs→∀ (i n v:Nat),ns[i]?=some (some (n,v))→(QY ns cs)[i]?=some (.own n v)
 | _,[],hn,i,n,v,h=>by
  have h0:=hn.len
  simp only [List.length_nil,List.length_eq_zero_iff] at h0
  subst h0;simp at h
 | [],c::cs,hn,i,n,v,h=>by simp at h
 | p::ns,c::cs,hn,0,n,v,h=>by
  simp only [List.getElem?_cons_zero,Option.some.injEq] at h;subst h
  obtain ⟨sz,es,hc⟩:=hn.rowOf (i:=0) rfl
  simp only [List.getElem?_cons_zero,Option.some.injEq] at hc;subst hc
  simp [QY]
 | p::ns,c::cs,hn,i+1,n,v,h=>by
  have ih:=U6 hn.tail i n v (by simpa using h)
  cases c with
  | dat y =>
   have:=hn.dat 0 y rfl
   simp only [List.getElem?_cons_zero,Option.some.injEq] at this;subst this
   simpa [QY] using ih
  | row s e =>
   obtain ⟨⟨a,b⟩,hq⟩:=hn.row 0 s e rfl
   simp only [List.getElem?_cons_zero,Option.some.injEq] at hq;subst hq
   simpa [QY] using ih
theorem U7:∀ {ns:List (Option (Nat×Nat))} {cs:List OC},Names ns cs→(QY ns cs).length=cs.length
 | [],[],hn=>rfl
 | p::ns,[],hn=>by have:=hn.len;simp at this
 | [],c::cs,hn=>by have:=hn.len;simp at this
 | p::ns,c::cs,hn=>by
  have ih:=U7 hn.tail
  cases c with
  | dat y =>
   have:=hn.dat 0 y rfl
   simp only [List.getElem?_cons_zero,Option.some.injEq] at this;subst this
   simp [QY,ih]
  | row s e =>
   obtain ⟨⟨a,b⟩,hq⟩:=hn.row 0 s e rfl
   simp only [List.getElem?_cons_zero,Option.some.injEq] at hq;subst hq
   simp [QY,ih]
theorem YG {n:Nat}:∀ {ns:List (Option (Nat×Nat))},V9 n ns=true→∀ (i v:Nat),ns[i]?≠some (some (n,v))
 | [],_,i,v=>by simp
 | none::l,h,0,v=>by simp
 | none::l,h,i+1,v=>by simpa using YG (ns:=l) h i v
 | some (m,u)::l,h,0,v=>by
  simp only [V9,Bool.and_eq_true] at h
  intro he
  simp only [List.getElem?_cons_zero,Option.some.injEq,Prod.mk.injEq] at he
  rw [he.1] at h
  simp at h
 | some (m,u)::l,h,i+1,v=>by
  simp only [V9,Bool.and_eq_true] at h
  simpa using YG (ns:=l) h.2 i v
theorem Y7 (ks:List Bool):Zj ks []=[]:=by cases ks with
 | nil=>rfl
 | cons k _=>cases k <;> rfl
theorem VZ (k:Bool) (ks:List Bool) (p:Option (Nat×Nat)) (ns:List (Option (Nat×Nat))) :
  (Zj (k::ks) (p::ns)=p::Zj ks ns) ∨ (k=true∧∃ a b,p=some (a,b+1)∧Zj (k::ks) (p::ns)=some (a,b)::Zj ks ns):=by
 cases k with
 | false=>exact .inl (by cases p <;> rfl)
 | true =>
  cases p with
  | none=>exact .inl rfl
  | some p =>
   obtain ⟨a,b⟩:=p
   cases b with
   | zero=>exact .inl rfl
   | succ b=>exact .inr ⟨rfl,a,b,rfl,rfl⟩
theorem Y8:∀ (ks:List Bool) (ns:List (Option (Nat×Nat))) (i n v:Nat),(Zj ks ns)[i]?=some (some (n,v))→ns[i]?=some (some (n,v)) ∨ (ks[i]?=some true∧ns[i]?=some (some (n,v+1)))
 | [],ns,i,n,v,h=>by
  cases ns <;> exact .inl h
 | _::_,[],i,n,v,h=>by rw [Y7] at h;simp at h
 | k::ks,p::ns,i,n,v,h=>by
  rcases VZ k ks p ns with key | ⟨rfl,a,b,rfl,key⟩
  ·rw [key] at h
   cases i with
   | zero=>exact .inl h
   | succ i=>simpa using Y8 ks ns i n v (by simpa using h)
  ·rw [key] at h
   cases i with
   | zero =>
    simp only [List.getElem?_cons_zero,Option.some.injEq,Prod.mk.injEq] at h
    obtain ⟨rfl,rfl⟩:=h
    exact .inr ⟨rfl,rfl⟩
   | succ i=>simpa using Y8 ks ns i n v (by simpa using h)
theorem ze:∀ (ks:List Bool) (ns:List (Option (Nat×Nat))),(Zj ks ns).length=ns.length
 | [],ns=>by cases ns <;> rfl
 | _::_,[]=>by rw [Y7]
 | k::ks,p::ns=>by
  rcases VZ k ks p ns with key | ⟨_,a,b,rfl,key⟩ <;> rw [key] <;> simp [ze ks ns]
theorem E8:∀ (ks:List Bool) (ns:List (Option (Nat×Nat))) (i:Nat),ns[i]?=some none→(Zj ks ns)[i]?=some none
 | [],ns,i,h=>by cases ns <;> exact h
 | _::_,[],i,h=>by simp at h
 | k::ks,p::ns,i,h=>by
  rcases VZ k ks p ns with key | ⟨_,a,b,rfl,key⟩ <;> rw [key] <;> cases i with
  | zero=>first | exact h | simp at h
  | succ i=>simpa using E8 ks ns i (by simpa using h)
theorem Ul:∀ (ks:List Bool) (ns:List (Option (Nat×Nat))) (i n v:Nat),ns[i]?=some (some (n,v))→∃ u,(Zj ks ns)[i]?=some (some (n,u))
 | [],ns,i,n,v,h=>⟨v,by cases ns <;> exact h⟩
 | _::_,[],i,n,v,h=>by simp at h
 | k::ks,p::ns,i,n,v,h=>by
  rcases VZ k ks p ns with key | ⟨_,a,b,rfl,key⟩ <;> rw [key] <;> cases i with
  | zero =>
   simp only [List.getElem?_cons_zero,Option.some.injEq,Prod.mk.injEq] at h ⊢
   first | exact ⟨v,h⟩ | exact ⟨b,h.1,rfl⟩ | skip
  | succ i=>simpa using Ul ks ns i n v (by simpa using h)
theorem YF (n:Nat):∀ (ks:List Bool) (ns:List (Option (Nat×Nat))),V9 n (Zj ks ns)=V9 n ns
 | [],ns=>by cases ns <;> rfl
 | _::_,[]=>by rw [Y7]
 | k::ks,p::ns=>by
  rcases VZ k ks p ns with key | ⟨_,a,b,rfl,key⟩ <;> rw [key]
  ·cases p <;> simp only [V9,YF n ks ns]
  ·simp only [V9,YF n ks ns]
theorem YR (bn:Nat) (fz:List Nat):∀ (ks:List Bool) (ns:List (Option (Nat×Nat))),Gh bn fz (Zj ks ns)=Gh bn fz ns
 | [],ns=>by cases ns <;> rfl
 | _::_,[]=>by rw [Y7]
 | k::ks,p::ns=>by
  rcases VZ k ks p ns with key | ⟨_,a,b,rfl,key⟩ <;> rw [key]
  ·cases p <;> simp only [Gh,YR bn fz ks ns,YF]
  ·simp only [Gh,YR bn fz ks ns,YF]
theorem UG {bn:Nat} {fz:List Nat}:∀ {ns:List (Option (Nat×Nat))},Gh bn fz ns=true→¬ bn∈fz
 | [],h=>by simpa [Gh] using h
 | none::l,h=>UG (ns:=l) h
 | some _::l,h=>by
  simp only [Gh,Bool.and_eq_true] at h
  exact UG (ns:=l) h.2
theorem Wn {bn:Nat} {fz:List Nat}:∀ {ns:List (Option (Nat×Nat))},Gh bn fz ns=true→∀ (i n v:Nat),ns[i]?=some (some (n,v)) →
  n≠bn∧¬ n∈fz∧∀ (j u:Nat),ns[j]?=some (some (n,u))→j=i
 | [],_,i,n,v,hi=>by simp at hi
 | none::l,h,0,n,v,hi=>by simp at hi
 | none::l,h,i+1,n,v,hi=>by
  obtain ⟨h1,h2,h3⟩:=Wn (ns:=l) h i n v (by simpa using hi)
  refine ⟨h1,h2,fun j u hj=>?_⟩
  cases j with
  | zero=>simp at hj
  | succ j=>rw [h3 j u (by simpa using hj)]
 | some (m,u)::l,h,0,n,v,hi=>by
  simp only [List.getElem?_cons_zero,Option.some.injEq,Prod.mk.injEq] at hi
  obtain ⟨rfl,rfl⟩:=hi
  simp only [Gh,Bool.and_eq_true] at h
  obtain ⟨⟨⟨h1,h2⟩,h3⟩,h4⟩:=h
  refine ⟨fun e=>by subst e;simp at h2,fun hm=>by simp at h3;exact h3 hm,fun j u hj=>?_⟩
  cases j with
  | zero=>rfl
  | succ j=>exact absurd (by simpa using hj) (YG h1 j u)
 | some (m,u)::l,h,i+1,n,v,hi=>by
  simp only [Gh,Bool.and_eq_true] at h
  obtain ⟨⟨⟨h1,h2⟩,h3⟩,h4⟩:=h
  obtain ⟨k1,k2,k3⟩:=Wn (ns:=l) h4 i n v (by simpa using hi)
  refine ⟨k1,k2,fun j u hj=>?_⟩
  cases j with
  | zero =>
   simp only [List.getElem?_cons_zero,Option.some.injEq,Prod.mk.injEq] at hj
   rw [← hj.1] at hi
   exact absurd (by simpa using hi) (YG h1 i v)
  | succ j=>rw [k3 j u (by simpa using hj)]
def qm (n:Nat):List (Option (Nat×Nat))→Nat→Option Nat
 | [],_=>none
 | none::l,k=>qm n l (k+1)
 | some p::l,k=>if p.1=n then some k else qm n l (k+1)
theorem UJ {n:Nat}:∀ {ns:List (Option (Nat×Nat))} {k j:Nat},qm n ns k=some j→∃ (i v:Nat),j=k+i∧ns[i]?=some (some (n,v))
 | [],k,j,h=>by simp [qm] at h
 | none::l,k,j,h=>by
  obtain ⟨i,v,h1,h2⟩:=UJ (ns:=l) (k:=k+1) h
  exact ⟨i+1,v,by omega,by simpa using h2⟩
 | some p::l,k,j,h=>by
  simp only [qm] at h
  split at h
  ·rename_i hp
   simp only [Option.some.injEq] at h
   obtain ⟨a,b⟩:=p
   simp only at hp;subst hp
   exact ⟨0,b,by omega,rfl⟩
  ·obtain ⟨i,v,h1,h2⟩:=UJ (ns:=l) (k:=k+1) h
   exact ⟨i+1,v,by omega,by simpa using h2⟩
theorem El {n:Nat}:∀ {ns:List (Option (Nat×Nat))} {k:Nat},qm n ns k=none→∀ (i v:Nat),ns[i]?≠some (some (n,v))
 | [],k,h,i,v=>by simp
 | none::l,k,h,0,v=>by simp
 | none::l,k,h,i+1,v=>by simpa using El (ns:=l) (k:=k+1) h i v
 | some p::l,k,h,i,v=>by
  simp only [qm] at h
  split at h
  ·cases h
  ·rename_i hp
   cases i with
   | zero =>
    intro he
    simp only [List.getElem?_cons_zero,Option.some.injEq] at he
    exact hp (by rw [he])
   | succ i=>simpa using El (ns:=l) (k:=k+1) h i v
theorem W8 {n:Nat} {k:Blk}:∀ {ns:List (Option (Nat×Nat))} {cs:List OC},look (ZM ns cs) n=some k→∃ (i v sz:Nat) (es:List D),ns[i]?=some (some (n,v))∧cs[i]?=some (.row sz es)∧k=.row v sz es
 | [],cs,h=>by simp [ZM,look] at h
 | p::ns,[],h=>by cases p <;> simp [ZM,look] at h
 | none::ns,c::cs,h=>by
  obtain ⟨i,v,sz,es,h1,h2,h3⟩:=W8 (ns:=ns) (cs:=cs) (by cases c <;> simpa [ZM] using h)
  exact ⟨i+1,v,sz,es,by simpa using h1,by simpa using h2,h3⟩
 | some (m,u)::ns,.dat x::cs,h=>by
  obtain ⟨i,v,sz,es,h1,h2,h3⟩:=W8 (ns:=ns) (cs:=cs) (by simpa [ZM] using h)
  exact ⟨i+1,v,sz,es,by simpa using h1,by simpa using h2,h3⟩
 | some (m,u)::ns,.row s e::cs,h=>by
  simp only [ZM] at h
  by_cases hm:m=n
  ·subst hm
   rw [Qd] at h;cases h
   exact ⟨0,u,s,e,rfl,rfl,rfl⟩
  ·rw [Qb _ _ hm] at h
   obtain ⟨i,v,sz,es,h1,h2,h3⟩:=W8 (ns:=ns) (cs:=cs) h
   exact ⟨i+1,v,sz,es,by simpa using h1,by simpa using h2,h3⟩
theorem YE {n:Nat}:∀ {ns:List (Option (Nat×Nat))} {cs:List OC},look (ZM ns cs) n=none→∀ (i v sz:Nat) (es:List D),ns[i]?=some (some (n,v))→cs[i]?≠some (.row sz es)
 | [],cs,h,i,v,sz,es,hi=>by simp at hi
 | p::ns,[],h,i,v,sz,es,hi=>by simp
 | none::ns,c::cs,h,0,v,sz,es,hi=>by simp at hi
 | none::ns,c::cs,h,i+1,v,sz,es,hi=>by
  simpa using YE (ns:=ns) (cs:=cs) (by cases c <;> simpa [ZM] using h) i v sz es (by simpa using hi)
 | some (m,u)::ns,.dat x::cs,h,0,v,sz,es,hi=>by simp
 | some (m,u)::ns,.dat x::cs,h,i+1,v,sz,es,hi=>by
  simpa using YE (ns:=ns) (cs:=cs) (by simpa [ZM] using h) i v sz es (by simpa using hi)
 | some (m,u)::ns,.row s e::cs,h,i,v,sz,es,hi=>by
  simp only [ZM] at h
  by_cases hm:m=n
  ·subst hm;rw [Qd] at h;cases h
  ·rw [Qb _ _ hm] at h
   cases i with
   | zero =>
    simp only [List.getElem?_cons_zero,Option.some.injEq,Prod.mk.injEq] at hi
    exact absurd hi.1 hm
   | succ i=>simpa using YE (ns:=ns) (cs:=cs) h i v sz es (by simpa using hi)
def Yv (ns:List (Option (Nat×Nat))) (bn:Nat) (ρ ρ' : Nat→Value) (n:Nat):Value:=match qm n ns 1 with
 | some j=>ρ' j
 | none=>if n=bn then ρ' 0 else ρ n
def Vg (ns:List (Option (Nat×Nat))) (bn:Nat) (cs:List OC) (H:List (Nat×Blk)):List (Nat×Blk):=(bn,.box (AV.norm (.agg (QY ns cs))))::(ZM ns cs++H)
theorem glue {cx:Cx} {F:Nat→Prop} {H:List (Nat×Blk)} {ρ:Nat→Value} {w:World} (g1:HSim cx F H ρ w) {hin:List (Nat×Blk)} {ρc:Nat→Value} (hmi:∀ r,Mut hin ρc r→Mut H ρ r)
  {cs:List OC} {ns:List (Option (Nat×Nat))} {bn:Nat} {fz:List Nat} (hal:Names ns cs) (hok:Gh bn fz ns=true)
  (hold:∀ n k r,look H n=some k→k.live=true→QA (ρ n)=some r→Mut hin ρc r→n=bn ∨ ∃ (i v:Nat),ns[i]?=some (some (n,v)))
  {w' : World} {ρ' : Nat→Value} (hver:∀ (i n v:Nat) (k:Blk),ns[i]?=some (some (n,v))→look H n=some k→k.ver≤v∧(k.ver=v→ρ' (i+1)=ρ n)) (hbn:∀ k,look H bn=some k→k.ver=0∧ρ' 0=ρ bn)
  (q1:HSim cx (fun r=>F r ∨ (Mut H ρ r∧¬ Mut hin ρc r)) (QV cs) ρ' w') (q2:Ext w (Mut hin ρc) w') (q3:∀ q,q < w.heap.size→Mut (QV cs) ρ' q→Mut hin ρc q) :
  HSim cx F (Vg ns bn cs H) (Yv ns bn ρ ρ') w'∧Steps1 H ρ w (Vg ns bn cs H) (Yv ns bn ρ ρ') w' ∧
   (∀ r,MM F (Vg ns bn cs H) (Yv ns bn ρ ρ') r→MM (fun r=>F r ∨ (Mut H ρ r∧¬ Mut hin ρc r)) (QV cs) ρ' r) ∧
   look (Vg ns bn cs H) bn=some (.box (AV.norm (.agg (QY ns cs))))∧Yv ns bn ρ ρ' bn=ρ' 0:=by
 have hob:∀ {i n v:Nat},ns[i]?=some (some (n,v))→n≠bn:=fun h=>(Wn hok _ _ _ h).1
 have hbi:qm bn ns 1=none:=by
  cases hi:qm bn ns 1 with
  | none=>rfl
  | some j =>
   obtain ⟨i,v,_,h2⟩:=UJ hi
   exact absurd rfl (hob h2)
 have hrb:Yv ns bn ρ ρ' bn=ρ' 0:=by simp only [Yv,hbi,if_true]
 have hrn:∀ {i n v:Nat},ns[i]?=some (some (n,v))→Yv ns bn ρ ρ' n=ρ' (i+1):=by
  intro i n v h
  unfold Yv
  cases hi:qm n ns 1 with
  | none=>exact absurd h (El hi i v)
  | some j =>
   obtain ⟨i',v',h1,h2⟩:=UJ hi
   have:=(Wn hok _ _ _ h).2.2 i' v' h2
   subst this
   simp only [h1,Nat.add_comm]
 have hro:∀ {n},n≠bn→(∀ (i v:Nat),ns[i]?≠some (some (n,v)))→Yv ns bn ρ ρ' n=ρ n:=by
  intro n h1 h2
  unfold Yv
  cases hi:qm n ns 1 with
  | none=>simp only [if_neg h1]
  | some j =>
   obtain ⟨i',v',_,h⟩:=UJ hi
   exact absurd h (h2 i' v')
 have hlb:look (Vg ns bn cs H) bn=some (.box (AV.norm (.agg (QY ns cs)))):=Qd _ _ _
 have hln:∀ {i n v sz:Nat} {es:List D},ns[i]?=some (some (n,v))→cs[i]?=some (.row sz es)→look (Vg ns bn cs H) n=some (.row v sz es):=by
  intro i n v sz es h1 h2
  rw [Vg,Qb _ _ (Ne.symm (hob h1)),Zn]
  cases hl:look (ZM ns cs) n with
  | none=>exact absurd h2 (YE hl i v sz es h1)
  | some k =>
   obtain ⟨i',v',sz',es',k1,k2,rfl⟩:=W8 hl
   have:=(Wn hok _ _ _ h1).2.2 i' v' k1
   subst this
   rw [h1] at k1;cases k1
   rw [h2] at k2;cases k2
   rfl
 have hlo:∀ {n},n≠bn→(∀ (i v:Nat),ns[i]?≠some (some (n,v)))→look (Vg ns bn cs H) n=look H n:=by
  intro n h1 h2
  rw [Vg,Qb _ _ (Ne.symm h1),Zn]
  cases hl:look (ZM ns cs) n with
  | none=>rfl
  | some k =>
   obtain ⟨i',v',sz',es',k1,k2,rfl⟩:=W8 hl
   exact absurd k1 (h2 i' v')
 -- the three VK of names
 have hkind:∀ {n k},look (Vg ns bn cs H) n=some k→(n=bn∧k=.box (AV.norm (.agg (QY ns cs)))) ∨ (∃ (i v sz:Nat) (es:List D),ns[i]?=some (some (n,v))∧cs[i]?=some (.row sz es)∧k=.row v sz es) ∨
   (n≠bn∧(∀ (i v:Nat),ns[i]?≠some (some (n,v)))∧look H n=some k):=by
  intro n k h
  by_cases h1:n=bn
  ·subst h1;rw [hlb] at h;cases h;exact .inl ⟨rfl,rfl⟩
  ·by_cases h2:∃ (i v:Nat),ns[i]?=some (some (n,v))
   ·obtain ⟨i,v,hi⟩:=h2
    obtain ⟨sz,es,hc⟩:=hal.rowOf hi
    rw [hln hi hc] at h;cases h
    exact .inr (.inl ⟨i,v,sz,es,hi,hc,rfl⟩)
   ·have h3:∀ (i v:Nat),ns[i]?≠some (some (n,v)):=fun i v hh=>h2 ⟨i,v,hh⟩
    rw [hlo h1 h3] at h
    exact .inr (.inr ⟨h1,h3,h⟩)
 -- roots
 have hroot:∀ {n k r},look (Vg ns bn cs H) n=some k→k.live=true→QA (Yv ns bn ρ ρ' n)=some r →
   (∃ m,(∃ k',look (QV cs) m=some k'∧k'.live=true)∧QA (ρ' m)=some r∧Mut (QV cs) ρ' r∧((n=bn∧m=0) ∨ ∃ (i v:Nat),ns[i]?=some (some (n,v))∧m=i+1)) ∨
   (n≠bn∧(∀ (i v:Nat),ns[i]?≠some (some (n,v)))∧look H n=some k∧QA (ρ n)=some r∧Mut H ρ r∧¬ Mut hin ρc r):=by
  intro n k r h hl hr
  rcases hkind h with ⟨rfl,rfl⟩ | ⟨i,v,sz,es,h1,h2,rfl⟩ | ⟨h1,h2,h3⟩
  ·rw [hrb] at hr
   exact .inl ⟨0,⟨_,Zb cs,rfl⟩,hr,⟨0,_,Zb cs,rfl,hr⟩,.inl ⟨rfl,rfl⟩⟩
  ·rw [hrn h1] at hr
   exact .inl ⟨i+1,⟨_,VX h2,rfl⟩,hr,⟨i+1,_,VX h2,rfl,hr⟩,.inr ⟨i,v,h1,rfl⟩⟩
  ·rw [hro h1 h2] at hr
   refine .inr ⟨h1,h2,h3,hr,⟨n,k,h3,hl,hr⟩,fun hm=>?_⟩
   rcases hold n k r h3 hl hr hm with h4 | ⟨i,v,h4⟩
   ·exact h1 h4
   ·exact h2 i v h4
 have hMM:∀ r,MM F (Vg ns bn cs H) (Yv ns bn ρ ρ') r→MM (fun r=>F r ∨ (Mut H ρ r∧¬ Mut hin ρc r)) (QV cs) ρ' r:=by
  rintro r (hf | ⟨n,k,h1,h2,h3⟩)
  ·exact .inl (.inl hf)
  ·rcases hroot h1 h2 h3 with ⟨m,_,_,hm,_⟩ | ⟨_,_,_,_,h4,h5⟩
   ·exact .inr hm
   ·exact .inl (.inr ⟨h4,h5⟩)
 have hst:Steps1 H ρ w (Vg ns bn cs H) (Yv ns bn ρ ρ') w':=by
  refine ⟨q2.mono hmi,fun r hr hm=>?_,⟨fun n k hn=>?_⟩⟩
  ·obtain ⟨n,k,h1,h2,h3⟩:=hm
   rcases hroot h1 h2 h3 with ⟨m,_,_,hm,_⟩ | ⟨_,_,_,_,h4,_⟩
   ·exact hmi r (q3 r hr hm)
   ·exact h4
  ·by_cases h1:n=bn
   ·subst h1
    obtain ⟨hv,hp⟩:=hbn k hn
    exact ⟨_,hlb,by rw [hv];exact Nat.zero_le _,fun _=>by rw [hrb];exact hp⟩
   ·by_cases h2:∃ (i v:Nat),ns[i]?=some (some (n,v))
    ·obtain ⟨i,v,hi⟩:=h2
     obtain ⟨sz,es,hc⟩:=hal.rowOf hi
     have:=hver i n v k hi hn
     exact ⟨_,hln hi hc,this.1,fun he=>by rw [hrn hi];exact this.2 he⟩
    ·have h3:∀ (i v:Nat),ns[i]?≠some (some (n,v)):=fun i v hh=>h2 ⟨i,v,hh⟩
     exact ⟨k,by rw [hlo h1 h3];exact hn,Nat.le_refl _,fun _=>hro h1 h3⟩
 refine ⟨g1.step hst (fun n k hk=>?_) (fun n n' k k' r h1 h2 m1 m2 r1 r2=>?_) (fun r hr hf=>?_),hst,hMM,hlb,hrb⟩
 ·rcases hkind hk with ⟨rfl,rfl⟩ | ⟨i,v,sz,es,h1,h2,rfl⟩ | ⟨h1,h2,h3⟩
  ·right
   obtain ⟨r,e,v,cs0,p1,p2,p3,p4⟩:=q1.blk 0 _ (Zb cs)
   obtain ⟨c1,c2,c3⟩:=Wv p3 p4
   -- the cells,by the names that they have here
   have hv:∃ ys:List Value,v=.agg ys.toArray∧ys.length=cs.length∧∀ (i:Nat) (c:AV) (y:Value),(Uy 1 cs)[i]?=some c→ys[i]?=some y→VR w' (MM (fun r=>F r ∨ (Mut H ρ r∧¬ Mut hin ρc r)) (QV cs) ρ') (QV cs) ρ' c y:=by
    unfold AV.norm at p4
    split at p4
    ·rename_i y hy
     simp only [AV.toD] at hy
     split at hy
     case h_2=>cases hy
     rename_i ds hds
     simp only [Option.some.injEq] at hy;subst hy
     cases p4 with
     | d _ _ hd =>
      cases hd with
      | agg _ ys hl hh =>
       have key:∀ (l:List AV) (ds:List D),YC l=some ds→(∀ (i:Nat) (c:AV),l[i]?=some c→(∃ x,c=.d x) ∨ ∃ b u,c=.own b u)→l=ds.map .d:=by
        intro l
        induction l with
        | nil=>intro ds h _;simp only [YC,Option.some.injEq] at h;subst h;rfl
        | cons x l ih =>
         intro ds h hk
         simp only [YC] at h
         split at h
         case h_2=>cases h
         rename_i y ys hy hys
         simp only [Option.some.injEq] at h;subst h
         rcases hk 0 x rfl with ⟨z,rfl⟩ | ⟨b,u,rfl⟩
         ·simp only [AV.toD,Option.some.injEq] at hy;subst hy
          rw [List.map_cons,← ih ys hys fun i c hc=>hk (i+1) c (by simpa using hc)]
         ·simp [AV.toD] at hy
       have hds2:=key _ _ hds fun i c hc=>by
        rw [ZZ] at hc
        split at hc
        ·cases hc
        ·cases hc;exact .inl ⟨_,rfl⟩
        ·cases hc;exact .inr ⟨_,_,rfl⟩
       refine ⟨ys,rfl,by rw [← hl,← Yi cs 1,hds2,List.length_map],fun i c y hc hy=>?_⟩
       rw [hds2,List.getElem?_map,Option.map_eq_some_iff] at hc
       obtain ⟨d,hd,rfl⟩:=hc
       exact .d _ _ (hh i d y hd hy)
    ·cases p4 with
     | agg _ ys hl hh=>exact ⟨ys,rfl,by rw [← hl,Yi],hh⟩
   obtain ⟨ys,rfl,hlen,hys⟩:=hv
   have hvr:VR w' (MM F (Vg ns n cs H) (Yv ns n ρ ρ')) (Vg ns n cs H) (Yv ns n ρ ρ') (.agg (QY ns cs)) (.agg ys.toArray):=by
    refine .agg _ ys (by rw [U7 hal,hlen]) fun i c y hc hy=>?_
    have hlt:i < cs.length:=by rw [← hlen];exact (List.getElem?_eq_some_iff.1 hy).1
    cases hci:cs[i] with
    | dat x =>
     have hci' : cs[i]?=some (.dat x):=by rw [List.getElem?_eq_getElem hlt,hci]
     rw [U8 hal i x hci'] at hc;cases hc
     have:=hys i (.d x) y (by rw [ZZ,hci']) hy
     cases this with
     | d _ _ hd=>exact .d _ _ (hd.ext (Nat.le_refl _) (fun _ _ _=>rfl) fun r _ hm=>hMM r hm)
    | row sz es =>
     have hci' : cs[i]?=some (.row sz es):=by rw [List.getElem?_eq_getElem hlt,hci]
     obtain ⟨⟨m,u⟩,hp⟩:=hal.row i sz es hci'
     rw [U6 hal i m u hp] at hc;cases hc
     have:=hys i (.own (1+i) 0) y (by rw [ZZ,hci']) hy
     cases this with
     | own _ _ k0 _ hb0 hv0 ho0 hh0 =>
      rw [Nat.add_comm,VX hci'] at hb0;cases hb0
      exact .own m u _ _ (hln hp hci') (Nat.le_refl _) ho0 fun _=>by rw [hrn hp,← Nat.add_comm 1 i];exact hh0 rfl
   have hone:ZS (QY ns cs)=true:=by
    have:∀ (l:List AV),(∀ (i:Nat) (c:AV),l[i]?=some c→c.isOne=true)→ZS l=true:=by
     intro l
     induction l with
     | nil=>intro _;rfl
     | cons x l ih=>intro h;simp only [ZS,Bool.and_eq_true];exact ⟨h 0 x rfl,ih fun i c hc=>h (i+1) c (by simpa using hc)⟩
    refine this _ fun i c hc=>?_
    have hlt:i < cs.length:=by rw [← U7 hal];exact (List.getElem?_eq_some_iff.1 hc).1
    cases hci:cs[i] with
    | dat x =>
     have hci' : cs[i]?=some (.dat x):=by rw [List.getElem?_eq_getElem hlt,hci]
     rw [U8 hal i x hci'] at hc;cases hc
     -- it is one cell of the object
     have hcx:(Uy 1 cs)[i]?=some (.d x):=by rw [ZZ,hci']
     have h0:ZS cs0=true:=c2
     unfold AV.norm at p3
     split at p3
     ·rename_i y hy
      simp only [AV.toD] at hy
      split at hy
      case h_2=>cases hy
      rename_i ds hds
      simp only [Option.some.injEq] at hy;subst hy
      have hcs:=Ya p3
      have hdx:ds[i]?=some x:=by
       have key:∀ (l:List AV) (ds:List D) (i:Nat),YC l=some ds→l[i]?=some (.d x)→ds[i]?=some x:=by
        intro l
        induction l with
        | nil=>intro ds i _ h;simp at h
        | cons z l ih =>
         intro ds i h hi
         simp only [YC] at h
         split at h
         case h_2=>cases h
         rename_i y ys hy hys
         simp only [Option.some.injEq] at h;subst h
         cases i with
         | zero=>simp only [List.getElem?_cons_zero,Option.some.injEq] at hi ⊢;subst hi;simp only [AV.toD,Option.some.injEq] at hy;exact hy.symm
         | succ i=>simpa using ih ys i hys (by simpa using hi)
       exact key _ _ i hds hcx
      refine Ws h0 (j:=i) ?_
      rw [hcs]
      simp only [SX.D.cells,List.getElem?_map,hdx,Option.map_some]
     ·simp only [AV.cells] at p3
      split at p3
      ·cases p3;exact Ws h0 hcx
      ·cases p3
    | row sz es =>
     have hci' : cs[i]?=some (.row sz es):=by rw [List.getElem?_eq_getElem hlt,hci]
     obtain ⟨⟨m,u⟩,hp⟩:=hal.row i sz es hci'
     rw [U6 hal i m u hp] at hc;cases hc
     rfl
   obtain ⟨cs1,hcs1⟩:=Option.isSome_iff_exists.1 (GK hone)
   exact ⟨r,e,.agg ys.toArray,cs1,by rw [hrb];exact p1,p2,hcs1,Va hvr⟩
  ·right
   have h0:RowV w' _ (ρ' (i+1)) sz es:=q1.blk (i+1) _ (VX h2)
   have h3:RowV w' (MM F (Vg ns bn cs H) (Yv ns bn ρ ρ')) (ρ' (i+1)) sz es:=h0.sub fun r _ hm=>hMM r hm
   rw [← hrn h1] at h3
   exact h3
  ·refine .inl ⟨h3,hro h1 h2,fun hl r hr=>?_⟩
   refine q2.same r ((g1.blk n k h3).root_lt hl hr) fun hm=>?_
   rcases hold n k r h3 hl hr hm with h4 | ⟨i,v,h4⟩
   ·exact h1 h4
   ·exact h2 i v h4
 ·rcases hroot h1 m1 r1 with ⟨a,⟨ka,a1,a2⟩,a3,a4,a5⟩ | ⟨a1,a2,a3,a4,a5,a6⟩ <;> rcases hroot h2 m2 r2 with ⟨b,⟨kb,b1,b2⟩,b3,b4,b5⟩ | ⟨b1,b2,b3,b4,b5,b6⟩
  ·have hab:=q1.inj a b ka kb r a1 b1 a2 b2 a3 b3
   subst hab
   rcases a5 with ⟨rfl,rfl⟩ | ⟨i,v,hi,rfl⟩ <;> rcases b5 with ⟨rfl,hb0⟩ | ⟨j,u,hj,hb0⟩
   ·rfl
   ·omega
   ·omega
   ·have:i=j:=by omega
    subst this
    rw [hi] at hj;cases hj;rfl
  ·exact absurd (q3 r (g1.mut_lt b5) a4) b6
  ·exact absurd (q3 r (g1.mut_lt a5) b4) a6
  ·exact g1.inj n n' k k' r a3 b3 m1 m2 a4 b4
 ·rcases hr with ⟨n,k,h1,h2,h3⟩
  rcases hroot h1 h2 h3 with ⟨m,_,_,hm,_⟩ | ⟨_,_,_,_,h4,_⟩
  ·exact q1.forb r hm (.inl hf)
  ·exact g1.forb r h4 hf
section
variable {cx:Cx} {F:Nat→Prop} {hp:List (Nat×Blk)} {ρ:Nat→Value} {w:World} {a:Act} {sym:Bool} {orc:List Orc}
theorem Qaw {M:Nat→Prop} {x:AV} {v:Value} (h:VR w M hp ρ x v):VR w M hp ρ (QbG x) v:=by
 cases x with
 | d y =>
  cases y with
  | ref y o =>
   cases h with
   | d _ _ hd =>
    obtain ⟨blk,o',rfl,h2⟩:=hd.ref_dat
    exact .dptr y o blk o' h2
  | _=>exact h
 | _=>exact h
theorem Ep (h:HSim cx F hp ρ w) {tm:List (Nat×AV)} (ht:TSim F tm hp ρ a w) (x:Operand):VR w (MM F hp ρ) hp ρ (evA cx tm x) (a.eval x):=by
 cases x with
 | tmp t =>
  simp only [evA]
  split
  ·rename_i y hy;exact Qaw (ht t y hy)
  ·exact .junk _
 | const v=>exact Ux _ _ _ _ v
 | global g =>
  simp only [evA]
  split
  ·rename_i y hy
   exact .dptr y 0 g 0 (h.glob g y hy).1
  ·exact .junk _
 | func f=>exact .d _ _ (.fn _ [] [] [] [] rfl rfl (by simp) (by simp))
theorem Y3 {α:Type} (xs:Array α) (i:Nat):nth xs.toList i=xs[i]?:=by rw [Q2];simp
theorem V5 {tm:List (Nat×AV)} (ht:TSim F tm hp ρ a w) {ops:Array Oper} {o:Oper} {b:Bool} (h:Ue ops tm o=some b):Region.wanted o (yielded ops a.tmps)=b:=by
 unfold Ue at h
 unfold Region.wanted
 split at h
 ·rename_i hg;rw [hg];simpa using h
 ·rename_i j want hg
  rw [hg]
  simp only
  rw [Y3] at h
  split at h
  ·rename_i hj
   simp only [Option.some.injEq] at h;subst h
   simp [yielded,hj]
  ·rename_i g hj
   split at h
   ·rename_i hd
    simp only [Option.some.injEq] at h;subst h
    simp [yielded,hj,hd]
   ·rename_i d hd
    have key:∀ v,a.tmps.getD d undef=v→yielded ops a.tmps j=(match v with | .bool b=>some b | _=>none):=by
     intro v hv
     simp only [yielded,hj,Option.bind_some,hd]
     rw [Array.getD_eq_getD_getElem?] at hv
     cases hx:a.tmps[d]? with
     | none=>rw [hx] at hv;simp at hv;subst hv;rfl
     | some u=>rw [hx] at hv;simp at hv;subst hv;cases u <;> rfl
    split at h
    ·rename_i c hl
     simp only [Option.some.injEq] at h;subst h
     have:=G7 (ht d _ hl)
     rw [key _ this]
     simp only
     cases c <;> cases want <;> rfl
    ·rename_i c hl
     simp only [Option.some.injEq] at h;subst h
     have:=G7 (ht d _ hl)
     rw [key _ this]
     rfl
    ·rename_i c hl
     simp only [Option.some.injEq] at h;subst h
     have hd:=ht d _ hl
     generalize hv:a.tmps.getD d undef=v at hd
     cases hd with
     | d _ _ hd =>
      cases hd with
      | tup=>rw [key _ hv];rfl
    ·cases h
theorem TSim.put {F:Nat→Prop} {tm:List (Nat×AV)} (ht:TSim F tm hp ρ a w) {t:Nat} {x:AV} {v:Value} (hx:VR w (MM F hp ρ) hp ρ x v) (hlt:t < a.tmps.size):TSim F ((t,x)::tm) hp ρ (a.put (some t) v) w:=by
 intro u y hy
 by_cases h:t=u
 ·subst h
  rw [Qd] at hy;cases hy
  simp only [Act.put]
  rw [Array.getD_eq_getD_getElem?,Array.getElem?_setIfInBounds,if_pos rfl,if_pos hlt]
  exact hx
 ·rw [Qb _ _ h] at hy
  simp only [Act.put]
  rw [Array.getD_eq_getD_getElem?,Array.getElem?_setIfInBounds,if_neg h,← Array.getD_eq_getD_getElem?]
  exact ht u y hy
theorem kx (a:Act) (d:Option Tmp) (v:Value):(a.put d v).tmps.size=a.tmps.size:=by cases d <;> simp [Act.put]
theorem Vy (a:Act) (d:Option Tmp) (v:Value):(a.put d v).defers=a.defers:=by cases d <;> rfl
theorem Ea {s s' : St} {d:Option Tmp} {x:AV} {v:Value} (h:s.put d x=some s') (hs:Sim cx F s ρ a w) (hx:VR w (MM F s.hp ρ) s.hp ρ x v):Sim cx F s' ρ (a.put d v) w:=by
 unfold St.put at h
 split at h
 ·simp only [Option.some.injEq] at h;subst h;exact hs
 ·rename_i t
  split at h <;> simp only [Option.some.injEq,reduceCtorEq] at h
  rename_i hlt
  subst h
  have hlt' : t < s.nt:=by simpa using hlt
  exact ⟨hs.hs,hs.ts.put hx (by rw [hs.nt];exact hlt'),by rw [kx];exact hs.nt⟩
def _root_.Go.SX.St.nr (s:St):Nat×Bool:=(s.nt,s.rnd)
theorem Xg {a b:St} (h:a.nr=b.nr):a.nt=b.nt:=(Prod.mk.inj h).1
theorem jm {a b:St} (h:a.nr=b.nr):a.rnd=b.rnd:=(Prod.mk.inj h).2
theorem Vl {s s' : St} {d:Option Tmp} {x:AV} (h:s.put d x=some s'):s'.hp=s.hp∧s'.ob=s.ob∧s'.vis=s.vis∧s'.nr=s.nr∧s'.sfx=s.sfx:=by
 unfold St.put at h
 split at h
 ·simp only [Option.some.injEq] at h;subst h;exact ⟨rfl,rfl,rfl,rfl,rfl⟩
 ·split at h <;> simp only [Option.some.injEq,reduceCtorEq] at h
  subst h;exact ⟨rfl,rfl,rfl,rfl,rfl⟩
theorem Kc {x y:AV} {ob:List Prop} {o' : List Orc} (h:litB sym orc x=some (y,ob,o')) (ho:∀ p,p∈ob→p) {M:Nat→Prop} {v:Value} (hx:VR w M hp ρ x v):VR w M hp ρ y v:=by
 unfold litB at h
 split at h
 ·rename_i b
  split at h
  ·simp only [Option.some.injEq,Prod.mk.injEq] at h;obtain ⟨rfl,rfl,rfl⟩:=h
   have:=ho _ List.mem_cons_self
   subst this;exact hx
  ·split at h <;> (simp only [Option.some.injEq,Prod.mk.injEq] at h;obtain ⟨rfl,rfl,rfl⟩:=h;exact hx)
  ·cases h
 ·simp only [Option.some.injEq,Prod.mk.injEq] at h;obtain ⟨rfl,rfl,rfl⟩:=h;exact hx
def zG (cx:Cx) (call:YA):Prop :=
 ∀ (keepable:Bool) (H:List (Nat×Blk)) (nx:Nat) (sym:Bool) (orc:List Orc) (f:FuncId) (args:List AV) (rc:RC),call keepable H nx sym orc f args=some rc→(∀ p,p∈rc.ob→p) →
  ∀ (F:Nat→Prop) (ρ:Nat→Value) (w:World) (vs:List Value),HSim cx F H ρ w→args.length=vs.length →
  (∀ (i:Nat) (c:AV) (y:Value),args[i]?=some c→vs[i]?=some y→VR w (MM F H ρ) H ρ c y) →
  (∃ v,(callFunc f vs.toArray).run cx.P w=.ok (.value v) w∧rc.full=none∧rc.up=[]∧VR w (MM F H ρ) H ρ rc.val v) ∨
  ((callFunc f vs.toArray).run cx.P w=.ok (.enter f vs.toArray) w∧Calls cx.P f vs.toArray w fun e w'=>∃ v,e=.returned v∧∃ ρ',HSim cx F (rc.heap H) ρ' w'∧Steps1 H ρ w (rc.heap H) ρ' w'∧VR w' (MM F (rc.heap H) ρ') (rc.heap H) ρ' rc.val v)
def Gg (call:YA):Prop :=
 ∀ (keepable:Bool) (H:List (Nat×Blk)) (nx:Nat) (sym:Bool) (orc:List Orc) (f:FuncId) (args:List AV) (rc:RC),call keepable H nx sym orc f args=some rc→rc.sfx=true→∀ h,rc.full=some h→∃ new,h=new++H
theorem Up {o:Oper} {fv:Operand} {args:List Operand} (h:Yp o=some (fv,args)):∃ ats,o.op=.call { callee:=.value fv,args:=args.toArray,argTypes:=ats }:=by
 unfold Yp at h
 split at h
 ·rename_i f as ats hop
  simp only [Option.some.injEq,Prod.mk.injEq] at h;obtain ⟨rfl,rfl⟩:=h
  exact ⟨ats,by rw [hop]⟩
 ·cases h
theorem Yb {M:Nat→Prop} {x:AV} {v:Value} {f:FuncId} {p q:List AV} (h:Uo x=some (f,p,q)) (hx:VR w M hp ρ x v) :
  ∃ xs ys:List Value,v=.func (.func f) xs.toArray ys.toArray∧p.length=xs.length∧q.length=ys.length ∧
   (∀ (i:Nat) (c:AV) (y:Value),p[i]?=some c→xs[i]?=some y→VR w M hp ρ c y)∧(∀ (i:Nat) (c:AV) (y:Value),q[i]?=some c→ys[i]?=some y→VR w M hp ρ c y):=by
 have up:∀ (l:List D) (ys:List Value),(∀ (i:Nat) (c:D) (y:Value),l[i]?=some c→ys[i]?=some y→DR w M c y)→∀ (i:Nat) (c:AV) (y:Value),(l.map AV.d)[i]?=some c→ys[i]?=some y→VR w M hp ρ c y:=by
  intro l ys hh i c y hc hy
  simp only [List.getElem?_map] at hc
  cases hl:l[i]? with
  | none=>rw [hl] at hc;cases hc
  | some d=>rw [hl] at hc;simp only [Option.map_some,Option.some.injEq] at hc;subst hc;exact .d _ _ (hh i d y hl hy)
 unfold Uo at h
 split at h
 ·simp only [Option.some.injEq,Prod.mk.injEq] at h;obtain ⟨rfl,rfl,rfl⟩:=h
  cases hx with
  | fn _ _ _ xs ys hl hm hh hk=>exact ⟨xs,ys,rfl,hl,hm,hh,hk⟩
 ·simp only [Option.some.injEq,Prod.mk.injEq] at h;obtain ⟨rfl,rfl,rfl⟩:=h
  cases hx with
  | d _ _ hx =>
  cases hx with
  | fn _ _ _ xs ys hl hm hh hk=>exact ⟨xs,ys,rfl,by simpa using hl,by simpa using hm,up _ _ hh,up _ _ hk⟩
 ·cases h
theorem Z9 {o:Oper} {p:Operand×List Operand} (h:Yp o=some p):∀ c,o.op≠.defer c:=by
 obtain ⟨fv,args⟩:=p
 obtain ⟨ats,hop⟩:=Up h
 intro c hc;rw [hop] at hc;cases hc
theorem qi {cx:Cx} {sym:Bool} {orc:List Orc} {hp:List (Nat×Blk)} {name:Nat} {ev:Operand→AV} {o:Oper} {r:R} (h:aop cx sym orc hp name ev o=some r):∀ c,o.op≠.defer c:=by
 intro c hc
 unfold aop at h
 rw [hc] at h
 cases h
theorem zq {P:Program} {f:FuncId} {args:Array Value} {w:World} {R:Ending→World→Prop} {m:Nat} (r:Option Nat) (h:Calls P f args w R):CallsIn (fen r) m P f args w R:=by
 cases r with
 | none=>exact callsIn_wide.2 h
 | some l=>exact CallsIn.inRound l (callsIn_wide.2 h)
theorem XC {o:Oper} {fv:Operand} {args:List Operand} (hcp:Yp o=some (fv,args)) {f:FuncId} {xs ys:List Value} (hv:a.eval fv=.func (.func f) xs.toArray ys.toArray) (P:Program) (w:World) :
  (execOp a.eval o).run P w=(callFunc f (xs++args.map a.eval++ys).toArray).run P w:=by
 obtain ⟨ats,hop⟩:=Up hcp
 simp only [execOp,hop,resolve,hv,Deferred.ofValue,pure_bind,invoke]
 congr 2
 simp
theorem G9 {M:Nat→Prop} {p m q:List AV} {xs ms ys:List Value} (h1:p.length=xs.length) (h2:m.length=ms.length) (h3:q.length=ys.length)
  (k1:∀ (i:Nat) (c:AV) (y:Value),p[i]?=some c→xs[i]?=some y→VR w M hp ρ c y) (k2:∀ (i:Nat) (c:AV) (y:Value),m[i]?=some c→ms[i]?=some y→VR w M hp ρ c y)
  (k3:∀ (i:Nat) (c:AV) (y:Value),q[i]?=some c→ys[i]?=some y→VR w M hp ρ c y) :
  (p++m++q).length=(xs++ms++ys).length∧∀ (i:Nat) (c:AV) (y:Value),(p++m++q)[i]?=some c→(xs++ms++ys)[i]?=some y→VR w M hp ρ c y:=by
 have app:∀ (p m:List AV) (xs ms:List Value),p.length=xs.length→(∀ (i:Nat) (c:AV) (y:Value),p[i]?=some c→xs[i]?=some y→VR w M hp ρ c y) →
   (∀ (i:Nat) (c:AV) (y:Value),m[i]?=some c→ms[i]?=some y→VR w M hp ρ c y)→∀ (i:Nat) (c:AV) (y:Value),(p++m)[i]?=some c→(xs++ms)[i]?=some y→VR w M hp ρ c y:=by
  intro p m xs ms hl hp' hm i c y hc hy
  by_cases h:i < p.length
  ·rw [List.getElem?_append_left h] at hc;rw [List.getElem?_append_left (by omega)] at hy;exact hp' i c y hc hy
  ·rw [List.getElem?_append_right (by omega)] at hc;rw [List.getElem?_append_right (by omega)] at hy;rw [hl] at hc;exact hm _ c y hc hy
 exact ⟨by simp;omega,app _ _ _ _ (by simp;omega) (app _ _ _ _ h1 k1 k2) k3⟩
theorem Vb {ops:Array Oper} {i:Nat} {o:Oper} {s s' : St} {x:AV} {hp' : List (Nat×Blk)} {nx:Nat} {orc:List Orc} {ob:List Prop} {sf:Bool} (h:Ke ops i o s x hp' nx orc ob sf=some s') (ho:∀ p,p∈s'.ob→p) :
  (∀ p,p∈ob→p)∧(∀ p,p∈s.ob→p)∧s'.hp=hp'∧s'.vis=s.vis∧s'.nr=s.nr∧(s'.sfx=true→s.sfx=true∧sf=true) ∧
  ∀ (v:Value),HSim cx F hp' ρ w→TSim F s.tm hp' ρ a w→a.tmps.size=s.nt→VR w (MM F hp' ρ) hp' ρ x v→Sim cx F s' ρ (a.put o.dst v) w:=by
 unfold Ke at h
 split at h
 ·split at h
  case h_2=>cases h
  rename_i y ob2 o2 hl
  obtain ⟨e1,e2,e3,e4,e5⟩:=Vl h
  simp only at e1 e2 e3 e4 e5
  rw [e2] at ho
  refine ⟨fun p hp=>ho p (by simp [hp]),fun p hp=>ho p (by simp [hp]),e1,e3,e4,fun hh=>by rw [e5] at hh;simpa using hh,fun v h1 h2 h3 h5=>?_⟩
  exact Ea h ⟨h1,h2,h3⟩ (Kc hl (fun p hp=>ho p (by simp [hp])) h5)
 ·obtain ⟨e1,e2,e3,e4,e5⟩:=Vl h
  simp only at e1 e2 e3 e4 e5
  rw [e2] at ho
  refine ⟨fun p hp=>ho p (by simp [hp]),fun p hp=>ho p (by simp [hp]),e1,e3,e4,fun hh=>by rw [e5] at hh;simpa using hh,fun v h1 h2 h3 h5=>?_⟩
  exact Ea h ⟨h1,h2,h3⟩ h5
def XK (cx:Cx) (yc:Vj):Prop :=
 ∀ (H:List (Nat×Blk)) (nx:Nat) (sym:Bool) (orc:List Orc) (b ver:Nat) (args:List AV) (rc:RC),yc H nx sym orc b ver args=some rc→(∀ p,p∈rc.ob→p) →
  ∀ (rr:Option Nat) (m:Nat) (F:Nat→Prop) (ρ:Nat→Value) (w:World) (vs:List Value),HSim cx F H ρ w→args.length=vs.length →
  (∀ (i:Nat) (c:AV) (y:Value),args[i]?=some c→vs[i]?=some y→VR w (MM F H ρ) H ρ c y) →
  (∃ k,look H b=some k∧ver=k.ver)∧∃ (l:Nat) (rc0:Loop),ρ b=.func (.yield l) #[] #[]∧w.heap[l]?=some (.loop rc0)∧rc0.params.size=vs.length ∧
   RoundIn (fen rr) m cx.P l rc0.fn ((rc0.params.zip vs.toArray).foldl (fun tmps (t,a)=>tmps.setIfInBounds t a) rc0.tmps) rc0.assign rc0.body w fun e w' =>
    ∃ v,e=.returned v∧∃ ρ',HSim cx F (rc.heap H) ρ' w'∧Steps1 H ρ w (rc.heap H) ρ' w'∧VR w' (MM F (rc.heap H) ρ') (rc.heap H) ρ' rc.val v
theorem qB {x:AV} {b ver:Nat} (h:qp x=some (b,ver)):x=.own b ver:=by
 unfold qp at h
 split at h
 ·simp only [Option.some.injEq,Prod.mk.injEq] at h;obtain ⟨rfl,rfl⟩:=h;rfl
 ·cases h
theorem wa {o:Oper} {fv:Operand} {args:List Operand} (hcp:Yp o=some (fv,args)) {l:Nat} (hv:a.eval fv=.func (.yield l) #[] #[]) (P:Program) (w:World) :
  (execOp a.eval o).run P w=(Instr.yield l (args.map a.eval).toArray).run P w:=by
 obtain ⟨ats,hop⟩:=Up hcp
 simp only [execOp,hop,resolve,hv,Deferred.ofValue,pure_bind,invoke]
 congr 2
 simp
theorem jd {rr:Option Nat} {m:Nat} {call:YA} (hcall:zG cx call) {yc:Vj} (hyc:XK cx yc) {ops:Array Oper} {base:Nat} {Q:Exit→Act→World→Prop} (l:List Nat):∀ (s s' : St) (ρ:Nat→Value) (a:Act) (w:World),VF cx call yc ops base l s=some s'→(∀ p,p∈s'.ob→p) →
  Sim cx F s ρ a w→(∀ ρ' a' w',Sim cx F s' ρ' a' w'→Steps1 s.hp ρ w s'.hp ρ' w'→a'.defers=a.defers→Q .normal a' w')→wpOpsIn (fen rr) m cx.P ops Q l a w:=by
 induction l with
 | nil =>
  intro s s' ρ a w h ho hs hq
  simp only [VF,Option.some.injEq] at h;subst h
  exact hq ρ a w hs (Steps1.refl _ _ _) rfl
 | cons i l ih =>
  intro s s' ρ a w h ho hs hq
  simp only [VF] at h
  split at h
  case h_2=>cases h
  rename_i s1 h1
  have hob:∀ {s s' : St},VF cx call yc ops base l s=some s'→(∀ p,p∈s'.ob→p)→∀ p,p∈s.ob→p:=by
   intro s s'
   clear ih h h1
   induction l generalizing s with
   | nil=>intro h ho;simp only [VF,Option.some.injEq] at h;subst h;exact ho
   | cons j l ihl =>
    intro h ho
    simp only [VF] at h
    split at h
    case h_2=>cases h
    rename_i s2 h2
    have ho2:=ihl h ho
    unfold J7 at h2
    split at h2
    ·cases h2
    split at h2
    ·cases h2
    ·obtain ⟨_,e2,_⟩:=Vl h2;rw [e2] at ho2;exact ho2
    ·split at h2
     ·split at h2
      ·split at h2
       ·cases h2
       exact (Vb (cx:=cx) (F:=F) (ρ:=ρ) (w:=w) (a:=a) h2 ho2).2.1
      split at h2
      ·cases h2
      split at h2
      ·cases h2
      exact (Vb (cx:=cx) (F:=F) (ρ:=ρ) (w:=w) (a:=a) h2 ho2).2.1
     ·split at h2
      ·cases h2
      exact (Vb (cx:=cx) (F:=F) (ρ:=ρ) (w:=w) (a:=a) h2 ho2).2.1
  have ho1:=hob h ho
  unfold J7 at h1
  rw [Y3] at h1
  simp only [wpOpsIn]
  split at h1
  ·cases h1
  rename_i o hop
  rw [hop]
  simp only
  split at h1
  ·cases h1
  ·-- passed VW
   rename_i hwn
   rw [V5 hs.ts hwn]
   simp only [Bool.false_eq_true,if_false]
   obtain ⟨e1,_⟩:=Vl h1
   refine ⟨fun _ _=>trivial,ih s1 s' ρ _ w h ho (Ea h1 hs (.d _ _ (.v _))) fun ρ' a' w' hs' hst hdf=>hq ρ' a' w' hs' ?_ (hdf.trans (Vy _ _ _))⟩
   rw [e1] at hst;exact hst
  ·rename_i hwn
   rw [V5 hs.ts hwn]
   simp only [if_true]
   split at h1
   ·-- a call
    rename_i fv args hcp
    split at h1
    ·-- yield
     rename_i b ver hyo
     split at h1
     ·cases h1
     rename_i rc hrc
     have hev:=Ep hs.hs hs.ts
     obtain ⟨l2,k2⟩:=Uk hev args
     have hfs:=fun ρ' (a' : Act) w'=>Vb (cx:=cx) (F:=F) (ρ:=ρ') (w:=w') (a:=a') h1 ho1
     obtain ⟨⟨k,hk,hver⟩,ly,rc0,hρ,hl,hsz,hround⟩:=hyc _ _ _ _ _ _ _ rc hrc (hfs ρ a w).1 rr (m - 1) F ρ w _ hs.hs l2 k2
     have hfv:=hev fv
     rw [qB hyo] at hfv
     have hv:a.eval fv=.func (.yield ly) #[] #[]:=by
      generalize a.eval fv=y at hfv
      cases hfv with
      | own _ _ k' _ hb hv ho h =>
       rw [hk] at hb;cases hb
       rw [h hver,hρ]
     rw [Oper.wpIn,Oper.semAt_eq _ _ _ (Z9 hcp),wa hcp hv,run_yield hl (by simpa using hsz.symm)]
     refine ⟨fun _ _=>trivial,?_⟩
     rw [Oper.uponIn_round]
     refine ⟨fun h=>(by cases h),hround.mono ?_⟩
     rintro e w' ⟨v,rfl,ρ',g1,g2,g3⟩
     obtain ⟨_,_,f3,_,_,_,f6⟩:=hfs ρ' a w'
     refine ih s1 s' ρ' _ w' h ho (f6 v g1 (fun t x hx=>g2.vr (hs.ts t x hx)) hs.nt g3) fun ρ'' a' w'' hs' hst hdf=>hq ρ'' a' w'' hs' ?_ (hdf.trans (Vy _ _ _))
     rw [f3] at hst;exact g2.trans hst
    split at h1
    ·cases h1
    rename_i f p q hca
    split at h1
    ·cases h1
    rename_i rc hrc
    have hev:=Ep hs.hs hs.ts
    obtain ⟨xs,ys,hv,l1,l3,k1,k3⟩:=Yb hca (hev fv)
    obtain ⟨l2,k2⟩:=Uk hev args
    obtain ⟨l4,k4⟩:=G9 l1 l2 l3 k1 k2 k3
    have hfs:=fun ρ' (a' : Act) w'=>Vb (cx:=cx) (F:=F) (ρ:=ρ') (w:=w') (a:=a') h1 ho1
    have hres:=hcall _ _ _ _ _ _ _ rc hrc (hfs ρ a w).1 F ρ w _ hs.hs l4 k4
    rw [Oper.wpIn,Oper.semAt_eq _ _ _ (Z9 hcp),XC hcp hv]
    refine ⟨fun _ _=>trivial,?_⟩
    rcases hres with ⟨v,r1,r2,r3,r4⟩ | ⟨r1,r2⟩
    ·rw [r1]
     simp only [Oper.uponIn]
     have hh:rc.heap s.hp=s.hp:=by rw [RC.heap,r2,r3];rfl
     obtain ⟨_,_,f3,_,_,_,f6⟩:=hfs ρ a w
     rw [hh] at f6 f3
     refine ih s1 s' ρ _ w h ho (f6 v hs.hs hs.ts hs.nt r4) fun ρ' a' w' hs' hst hdf=>hq ρ' a' w' hs' ?_ (hdf.trans (Vy _ _ _))
     rw [f3] at hst;exact hst
    ·rw [r1]
     simp only [Oper.uponIn]
     refine ⟨fun h=>(by cases h),zq rr (r2.mono ?_)⟩
     rintro e w' ⟨v,rfl,ρ',g1,g2,g3⟩
     obtain ⟨_,_,f3,_,_,_,f6⟩:=hfs ρ' a w'
     refine ih s1 s' ρ' _ w' h ho (f6 v g1 (fun t x hx=>g2.vr (hs.ts t x hx)) hs.nt g3) fun ρ'' a' w'' hs' hst hdf=>hq ρ'' a' w'' hs' ?_ (hdf.trans (Vy _ _ _))
     rw [f3] at hst;exact g2.trans hst
   ·-- another operation
    split at h1
    ·cases h1
    rename_i r hr
    have hfs:=fun ρ' (a' : Act) w'=>Vb (cx:=cx) (F:=F) (ρ:=ρ') (w:=w') (a:=a') h1 ho1
    obtain ⟨v,w',hrun,ρ',g1,g2,g3⟩:=wP hs.hs (fun _=>rfl) (Ep hs.hs hs.ts) hr (hfs ρ a w).1
    obtain ⟨_,_,f3,_,_,_,f6⟩:=hfs ρ' a w'
    have hsim:=f6 v g1 (fun t x hx=>g2.vr (hs.ts t x hx)) hs.nt g3
    have hnext:wpOpsIn (fen rr) m cx.P ops Q l (a.put o.dst v) w':=by
     refine ih s1 s' ρ' _ w' h ho hsim fun ρ'' a' w'' hs' hst hdf=>hq ρ'' a' w'' hs' ?_ (hdf.trans (Vy _ _ _))
     rw [f3] at hst;exact g2.trans hst
    unfold Oper.wpIn
    rw [Oper.semAt_eq _ _ _ (qi hr)]
    refine ⟨fun _ _=>trivial,?_⟩
    rcases hrun with hrun | ⟨hrun,rfl⟩
    ·rw [hrun];exact hnext
    ·rw [hrun];exact hnext
end
section
variable {cx:Cx} {H G:List (Nat×Blk)} {sym:Bool} {orc:List Orc} {ev ev' : Operand→AV}
def WV (H G:List (Nat×Blk)):Prop:=∀ b k,look H b=some k→look G b=some k
mutual
theorem VV (hs:WV H G):∀ (x:AV) (y:D) (fs:List Nat),x.toDH H=some (y,fs)→x.toDH G=some (y,fs)∧∀ b,b∈fs→∃ k,look H b=some k
 | .d x,y,fs,h=>by
  simp only [AV.toDH,Option.some.injEq,Prod.mk.injEq] at h ⊢;obtain ⟨rfl,rfl⟩:=h;simp
 | .agg cs,y,fs,h=>by
  simp only [AV.toDH] at h ⊢
  split at h <;> simp only [Option.some.injEq,reduceCtorEq,Prod.mk.injEq] at h
  rename_i l fs' hl;obtain ⟨rfl,rfl⟩:=h
  obtain ⟨h1,h2⟩:=YV hs cs l fs' hl
  rw [h1];exact ⟨rfl,h2⟩
 | .tup cs,y,fs,h=>by
  simp only [AV.toDH] at h ⊢
  split at h <;> simp only [Option.some.injEq,reduceCtorEq,Prod.mk.injEq] at h
  rename_i l fs' hl;obtain ⟨rfl,rfl⟩:=h
  obtain ⟨h1,h2⟩:=YV hs cs l fs' hl
  rw [h1];exact ⟨rfl,h2⟩
 | .fn f a b,y,fs,h=>by
  simp only [AV.toDH] at h ⊢
  split at h <;> simp only [Option.some.injEq,reduceCtorEq,Prod.mk.injEq] at h
  rename_i x1 f1 y1 f2 hx1 hy1;obtain ⟨rfl,rfl⟩:=h
  obtain ⟨h1,h2⟩:=YV hs a x1 f1 hx1
  obtain ⟨h3,h4⟩:=YV hs b y1 f2 hy1
  rw [h1,h3]
  refine ⟨rfl,fun c hc=>?_⟩
  rcases List.mem_append.1 hc with hc | hc
  ·exact h2 c hc
  ·exact h4 c hc
 | .own b ver,y,fs,h=>by
  simp only [AV.toDH] at h ⊢
  cases hb:look H b with
  | none=>rw [hb] at h;cases h
  | some k =>
   rw [hs b k hb]
   rw [hb] at h
   refine ⟨h,?_⟩
   cases k with
   | box _=>simp at h
   | loop _ _ _ _ _ _=>simp at h
   | mp _=>simp at h
   | it _ _=>simp at h
   | fbox _=>simp at h
   | left _=>simp at h
   | dead=>simp at h
   | row v s e =>
    simp only at h
    split at h <;> simp only [Option.some.injEq,reduceCtorEq,Prod.mk.injEq] at h
    obtain ⟨rfl,rfl⟩:=h
    intro c hc
    simp only [List.mem_singleton] at hc
    subst hc;exact ⟨_,hb⟩
   | frozen v s e =>
    simp only at h
    split at h <;> simp only [Option.some.injEq,reduceCtorEq,Prod.mk.injEq] at h
    obtain ⟨rfl,rfl⟩:=h;simp
   | virt v s e =>
    simp only at h
    split at h <;> simp only [Option.some.injEq,reduceCtorEq,Prod.mk.injEq] at h
    obtain ⟨rfl,rfl⟩:=h;simp
 | .dptr _ _,y,fs,h=>by
  simp only [AV.toDH,Option.some.injEq,Prod.mk.injEq] at h ⊢;obtain ⟨rfl,rfl⟩:=h;simp
 | .ptr b ver sz i off,y,fs,h=>by
  simp only [AV.toDH] at h ⊢
  split at h
  case h_2=>cases h
  rename_i hc
  split at h
  case h_2=>cases h
  rename_i k hk
  rw [hs b k hk]
  dsimp only
  refine ⟨h,?_⟩
  split at h
  ·simp only [Option.some.injEq,Prod.mk.injEq] at h
   obtain ⟨rfl,rfl⟩:=h
   intro c hc;simp only [List.mem_singleton] at hc;subst hc;exact ⟨k,hk⟩
  ·simp only [Option.some.injEq,Prod.mk.injEq] at h
   obtain ⟨rfl,rfl⟩:=h
   intro c hc;cases hc
  ·cases h
 | .sub _ _ _ _ _,y,fs,h=>by simp [AV.toDH] at h
 | .junk,y,fs,h=>by simp [AV.toDH] at h
theorem YV (hs:WV H G):∀ (cs:List AV) (l:List D) (fs:List Nat),VT H cs=some (l,fs)→VT G cs=some (l,fs)∧∀ b,b∈fs→∃ k,look H b=some k
 | [],l,fs,h=>by
  simp only [VT,Option.some.injEq,Prod.mk.injEq] at h ⊢;obtain ⟨rfl,rfl⟩:=h;simp
 | x::cs,l,fs,h=>by
  simp only [VT] at h ⊢
  split at h <;> simp only [Option.some.injEq,reduceCtorEq,Prod.mk.injEq] at h
  rename_i y1 f1 l1 f2 h1 h2;obtain ⟨rfl,rfl⟩:=h
  obtain ⟨g1,g2⟩:=VV hs x y1 f1 h1
  obtain ⟨g3,g4⟩:=YV hs cs l1 f2 h2
  rw [g1,g3]
  refine ⟨rfl,fun c hc=>?_⟩
  rcases List.mem_append.1 hc with hc | hc
  ·exact g2 c hc
  ·exact g4 c hc
end
theorem ZQ (hs:WV H G) (fs:List Nat) (h:∀ b,b∈fs→∃ k,look H b=some k):Qc G fs=Qc H fs:=by
 induction fs with
 | nil=>rfl
 | cons b l ih =>
  obtain ⟨k,hb⟩:=h b List.mem_cons_self
  simp only [Qc,hb,hs b _ hb,ih fun c hc=>h c (List.mem_cons_of_mem _ hc)]
theorem UL (hs:WV H G) {b ver:Nat} (h:Kj H b ver=true):Kj G b ver=true:=by
 unfold Kj at h ⊢
 cases hb:look H b with
 | none=>rw [hb] at h;cases h
 | some k=>rw [hb] at h;rw [hs b k hb];exact h
theorem Qay (hs:WV H G) {b ver:Nat} (h:Kj H b ver=true):look G b=look H b:=by
 unfold Kj at h
 split at h
 ·rename_i k hk;rw [hk];exact hs b k hk
 ·cases h
theorem kT (hs:WV H G) {x:AV} {es:List D} (h:VL H x=some es):VL G x=some es:=by
 unfold VL at h ⊢
 split at h
 ·exact h
 ·rename_i b ver
  cases hb:look H b with
  | none=>rw [hb] at h;cases h
  | some k=>rw [hb] at h;simp only [hs b k hb];exact h
 ·split at h
  case h_2=>cases h
  rename_i hc
  rw [UL hs hc];exact h
 ·cases h
theorem JS (hs:WV H G) {x:AV} {q:Nat×List D×List Nat} (h:Vu H x=some q):Vu G x=some q∧∀ b,b∈q.2.2→∃ k,look H b=some k:=by
 unfold Vu at h ⊢
 split at h
 ·rename_i f sz es fs hd
  obtain ⟨h1,h2⟩:=VV hs _ _ _ hd
  rw [h1]
  simp only [Option.some.injEq] at h;subst h
  exact ⟨rfl,h2⟩
 ·cases h
theorem qY (hs:WV H G) {b:Nat} {x:SX.D} (h:Gy H b=some x):Gy G b=some x:=by
 unfold Gy at h ⊢
 cases hb:look H b with
 | none=>rw [hb] at h;cases h
 | some k=>rw [hb] at h;rw [hs b k hb];exact h
theorem QaP (hs:WV H G) {x:AV} {y:SX.D} {off:Nat} (h:unf H x=.dptr y off):unf G x=.dptr y off:=by
 cases x with
 | ptr b ver sz i o =>
  have h:wV H b ver sz i o=.dptr y off:=h
  show wV G b ver sz i o=.dptr y off
  unfold wV at h ⊢
  cases hl:Gy H b with
  | none=>rw [hl] at h;cases h
  | some x=>rw [hl] at h;rw [qY hs hl];exact h
 | d _=>exact h
 | agg _=>exact h
 | tup _=>exact h
 | dptr _ _=>exact h
 | own _ _=>exact h
 | sub _ _ _ _ _=>exact h
 | fn _ _ _=>exact h
 | junk=>exact h
theorem QbV (hs:WV H G) {x:AV} {b ver sz i off:Nat} {q:AV×List Prop×List Orc} (h:unf H x=.ptr b ver sz i off) (hl:Yd sym orc H b ver sz i=some q):unf G x=.ptr b ver sz i off:=by
 cases x with
 | ptr b' ver' sz' i' o =>
  have h:wV H b' ver' sz' i' o=.ptr b ver sz i off:=h
  show wV G b' ver' sz' i' o=.ptr b ver sz i off
  unfold wV at h ⊢
  cases hf:Gy H b' with
  | some x=>rw [hf] at h;rw [qY hs hf];exact h
  | none =>
   rw [hf] at h
   simp only [AV.ptr.injEq] at h
   obtain ⟨rfl,rfl,rfl,rfl,rfl⟩:=h
   have:Gy G b'=none:=by
    unfold Yd at hl
    unfold Gy at hf ⊢
    cases hb:look H b' with
    | none=>rw [hb] at hl;cases hl
    | some k=>rw [hb] at hf;rw [hs b' k hb];exact hf
   rw [this]
 | d _=>exact h
 | agg _=>exact h
 | tup _=>exact h
 | dptr _ _=>exact h
 | own _ _=>exact h
 | sub _ _ _ _ _=>exact h
 | fn _ _ _=>exact h
 | junk=>exact h
theorem jE (hs:WV H G) {b ver sz i:Nat} {q:AV×List Prop×List Orc} (h:Yd sym orc H b ver sz i=some q):Yd sym orc G b ver sz i=some q:=by
 unfold Yd at h ⊢
 cases hb:look H b with
 | none=>rw [hb] at h;cases h
 | some k=>rw [hb] at h;rw [hs b k hb];exact h
theorem UR (hs:WV H G) {t:TypeId} {x:AV} {i:Int} {r:R} (h:Z6 cx sym orc H t x i=some r):Z6 cx sym orc G t x i=some r:=by
 unfold Z6 at h ⊢
 split at h
 ·split at h
  case h_2=>cases h
  split at h
  ·split at h
   case h_2=>cases h
   rename_i hc
   simp only [UL hs hc];exact h
  ·exact h
  ·cases h
 ·split at h
  ·cases h
  split at h
  ·rename_i b ver
   cases hb:look H b with
   | none=>rw [hb] at h;cases h
   | some k=>rw [hb] at h;simp only [hs b k hb];exact h
  ·exact h
  ·split at h
   case h_2=>cases h
   rename_i hc hd
   simp only [Bool.and_eq_true] at hc
   simp only [UL hs hc.1,hc.2,hd,Bool.and_true,Qay hs hc.1];exact h
  ·cases h
 ·cases h
theorem qo (hs:WV H G) {t:TypeId} {x:AV} {i:Int} {r:R} (h:Vt cx sym orc H t x i=some r):Vt cx sym orc G t x i=some r:=by
 unfold Vt at h ⊢
 split at h
 ·split at h
  case h_2=>cases h
  rename_i q hq
  rw [UR hs hq]
  exact h
 ·exact UR hs h
theorem yi (hs:WV H G) {t:TypeId} {x:AV} {lo hi mx:Option AV} {r:R} (h:UB cx sym orc H t x lo hi mx=some r):UB cx sym orc G t x lo hi mx=some r:=by
 unfold UB at h ⊢
 split at h
 ·exact h
 ·split at h
  case h_3=>cases h
  ·rename_i elem full sz es fs hu hd
   obtain ⟨h1,h2⟩:=VV hs _ _ _ hd
   simp only [hu,h1]
   rw [ZQ hs fs h2]
   exact h
  ·rename_i elem m full sz es fs hu hd
   obtain ⟨h1,h2⟩:=VV hs _ _ _ hd
   simp only [hu,h1]
   rw [ZQ hs fs h2]
   exact h
theorem jH (hs:WV H G) {t:TypeId} {x:AV} {lo hi mx:Option AV} {r:R} (h:Vd cx sym orc H t x lo hi mx=some r):Vd cx sym orc G t x lo hi mx=some r:=by
 unfold Vd at h ⊢
 split at h
 case h_2=>cases h
 cases hb:look H _ with
 | none=>rw [hb] at h;simp at h
 | some k=>rw [hb] at h;simp only [hs _ k hb];exact h
theorem jG (hs:WV H G) {t:TypeId} {x:AV} {lo hi mx:Option AV} {r:R} (hn:Vd cx sym orc H t x lo hi mx=none) (h:UB cx sym orc H t x lo hi mx=some r):Vd cx sym orc G t x lo hi mx=none:=by
 unfold Vd at hn ⊢
 split
 case h_2=>rfl
 rename_i o b ver ho
 rw [ho] at hn
 simp only at hn
 cases hb:look H b with
 | none =>
  unfold UB at h
  split at h
  ·rename_i hx;cases hx
  ·split at h
   case h_3=>cases h
   ·rename_i hd;simp [AV.toDH,hb] at hd
   ·rename_i hd;simp [AV.toDH,hb] at hd
 | some k=>rw [hb] at hn;simp only [hs b k hb];exact hn
theorem QaE (hs:WV H G) {t:TypeId} {x:AV} {lo hi mx:Option AV} {r:R} (h:qn cx sym orc H t x lo hi mx=some r):qn cx sym orc G t x lo hi mx=some r:=by
 unfold qn at h ⊢
 split at h
 case h_2=>cases h
 cases hb:look H _ with
 | none=>rw [hb] at h;simp at h
 | some k=>rw [hb] at h;simp only [hs _ k hb];exact h
theorem QaD (hs:WV H G) {t:TypeId} {x:AV} {lo hi mx:Option AV} {r:R} (hn:qn cx sym orc H t x lo hi mx=none) (h:UB cx sym orc H t x lo hi mx=some r):qn cx sym orc G t x lo hi mx=none:=by
 unfold qn at hn ⊢
 split
 case h_2=>rfl
 rename_i o b ver _ l ho
 rw [ho] at hn
 simp only at hn
 cases hb:look H b with
 | none =>
  unfold UB at h
  split at h
  ·rename_i hx;cases hx
  ·split at h
   case h_3=>cases h
   ·rename_i hd;simp [AV.toDH,hb] at hd
   ·rename_i hd;simp [AV.toDH,hb] at hd
 | some k=>rw [hb] at hn;simp only [hs b k hb];exact hn
theorem zX (hs:WV H G) {t:TypeId} {x:AV} {lo hi mx:Option AV} {r:R} (hn:Vd cx sym orc H t x lo hi mx=none) (h:qn cx sym orc H t x lo hi mx=some r):Vd cx sym orc G t x lo hi mx=none:=by
 unfold qn at h
 split at h
 case h_2=>cases h
 unfold Vd
 split
 case h_2=>rfl
 rename_i hlo _
 cases hlo
theorem jQ (hs:WV H G) {name:Nat} (hn:look G name=none) {t:TypeId} {s x:AV} {r:R} (h:Gf cx sym orc H name t s x=some r):Gf cx sym orc G name t s x=some r:=by
 unfold Gf at h ⊢
 split at h
 case h_2=>cases h
 rename_i elem asz ds fs hu hadd
 obtain ⟨h1,h2⟩:=JS hs hadd
 simp only [hu,h1]
 rw [ZQ hs fs h2]
 split at h
 ·cases h
 split at h
 ·cases h
 split at h
 ·rename_i b ver
  cases hb:look H b with
  | none=>rw [hb] at h;cases h
  | some k=>rw [hb] at h;simp only [hs b k hb];exact h
 ·split at h
  ·cases h
  split at h
  ·split at h
   case h_2=>cases h
   rename_i hnil hno how
   simp only [hnil,hn,how];exact h
  split at h
  case h_2=>cases h
  rename_i ob o' how
  split at h
  ·rename_i hnil
   split at h
   case h_3=>cases h
   ·rename_i htold
    simp only [htold];exact h
   ·rename_i htold _
    simp only [htold,hn];exact h
  ·exact h
  ·cases h
 ·cases h
theorem QaI (hs:WV H G) {t:TypeId} {s x:AV} {r:R} (h:adup cx sym orc H t s x=some r):adup cx sym orc G t s x=some r:=by
 unfold adup at h ⊢
 split at h
 case h_2=>cases h
 rename_i b ver hu
 cases hb:look H b with
 | none=>rw [hb] at h;simp at h
 | some k=>rw [hb] at h;rw [hs b k hb];exact h
theorem uj (hs:WV H G) {t:TypeId} {d s:AV} {r:R} (h:wQ cx orc H t d s=some r):wQ cx orc G t d s=some r:=by
 unfold wQ at h ⊢
 split at h
 case h_2=>cases h
 rename_i elem b ver asz ds fs hu hadd
 obtain ⟨h1,h2⟩:=JS hs hadd
 simp only [hu,h1]
 rw [ZQ hs fs h2]
 cases hb:look H b with
 | none=>rw [hb] at h;simp at h
 | some k=>rw [hb] at h;simp only [hs b k hb];exact h
theorem zY (hs:WV H G) {name:Nat} (hn:look G name=none) {b:Builtin} {ats:Array TypeId} {ty:TypeId} {args:List AV} {r:R} (h:US cx sym orc H name b ats ty args=some r) :
  (∀ x v,VL H x=none→x.toV=some v→VL G x=none)→US cx sym orc G name b ats ty args=some r:=by
 intro hV
 unfold US at h ⊢
 split at h
 ·split at h
  case h_2=>cases h
  split at h
  ·split at h
   ·exact QaI hs h
   ·exact jQ hs hn h
  ·unfold uN at h ⊢
   split at h
   case h_2=>cases h
   split at h
   case h_2=>cases h
   rename_i hn0
   simp only [hn]
   simp_all
 ·split at h
  case h_2=>cases h
  exact uj hs h
 ·split at h
  case h_2=>cases h
  split at h
  ·rename_i es hes
   simp only [kT hs hes];exact h
  ·rename_i hes
   split at h
   case h_2=>cases h
   rename_i v hv
   simp only [hV _ _ hes hv,hv];exact h
 ·exact h
 ·exact h
 ·exact h
 ·split at h
  case h_2=>cases h
  unfold jN at h ⊢
  split at h
  case h_2=>cases h
  rename_i b _ _ _ _ _
  cases hb:look H b with
  | none=>rw [hb] at h;simp at h
  | some k=>rw [hb] at h;simp only [hs b k hb];exact h
 ·cases h
theorem kS {x:AV} {v:Value} (h:x.toV=some v):VL H x=none↔VL G x=none:=by
 unfold VL
 split
 ·simp
 ·rename_i b ver
  simp [AV.toV,AV.toD] at h
 ·simp [AV.toV,AV.toD] at h
 ·simp
theorem V8 (hs:WV H G) {s:Nat}:∀ (parts:List (Nat×AV)) (n:Nat) (es:List D) (fs:List Nat),WZ H s n parts=some (es,fs)→WZ G s n parts=some (es,fs)∧∀ b,b∈fs→∃ k,look H b=some k
 | [],n,es,fs,h=>by
  simp only [WZ,Option.some.injEq,Prod.mk.injEq] at h ⊢;obtain ⟨rfl,rfl⟩:=h;simp
 | (i,x)::l,n,es,fs,h=>by
  simp only [WZ] at h ⊢
  split at h
  case h_2=>cases h
  rename_i cs y f1 ys f2 hcs hy hys
  obtain ⟨g1,g2⟩:=VV hs _ _ _ hy
  obtain ⟨g3,g4⟩:=V8 hs l (n+1) ys f2 hys
  simp only [hcs,g1,g3]
  refine ⟨h,?_⟩
  split at h
  case h_2=>cases h
  split at h
  case h_2=>cases h
  simp only [Option.some.injEq,Prod.mk.injEq] at h;obtain ⟨rfl,rfl⟩:=h
  refine fun c hc=>?_
  rcases List.mem_append.1 hc with hc | hc
  ·exact g2 c hc
  ·exact g4 c hc
theorem yh (hs:WV H G) {t:TypeId} {p y:AV} {r:R} (h:EG cx sym orc H t p y=some r):EG cx sym orc G t p y=some r:=by
 unfold EG at h ⊢
 split at h
 case h_2=>cases h
 split at h
 ·rename_i hl hb
  simp only [hl,hs _ _ hb];exact h
 ·rename_i ver sz' es hl hb
  simp only [hl,hs _ _ hb]
  split at h
  case h_2=>cases h
  rename_i yd fs hc hyd
  obtain ⟨h1,h2⟩:=VV hs _ _ _ hyd
  simp only [hc,h1]
  rw [ZQ hs fs h2]
  exact h
 ·cases h
theorem E5 (hs:WV H G) {m:AV} {p:Nat×List D} (h:GI H m=some p):GI G m=some p:=by
 unfold GI at h ⊢
 split at h
 case h_2=>cases h
 rename_i b v
 cases hb:look H b with
 | none=>rw [hb] at h;cases h
 | some k=>rw [hb] at h;simp only [hs b k hb];exact h
theorem zx (hs:WV H G) {b:Nat} {p:List D×List (Nat×Blk)} (h:XG H b=some p):XG G b=some p:=by
 unfold XG at h ⊢
 cases hb:look H b with
 | none=>rw [hb] at h;cases h
 | some k=>rw [hb] at h;simp only [hs b k hb];exact h
theorem yH (hs:WV H G) {m:AV} {p:Nat×ByteArray×Nat} (h:wu H m=some p):wu G m=some p:=by
 unfold wu at h ⊢
 split at h
 case h_2=>cases h
 rename_i b v
 cases hb:look H b with
 | none=>rw [hb] at h;cases h
 | some k=>rw [hb] at h;simp only [hs b k hb];exact h
theorem KN (hs:WV H G) {t:TypeId} {m k x:AV} {r:R} (h:Vs cx sym orc H t m k x=some r):Vs cx sym orc G t m k x=some r:=by
 unfold Vs at h ⊢
 split at h
 case h_2=>cases h
 rename_i hu hom hkv hxd
 simp only [hu,E5 hs hom,hkv,hxd];exact h
theorem jK (hs:WV H G) {t:TypeId} {m k:AV} {ok:Bool} {r:R} (h:Gd cx sym orc H t m k ok=some r):Gd cx sym orc G t m k ok=some r:=by
 unfold Gd at h ⊢
 split at h
 case h_2=>cases h
 rename_i hu hom hkv
 simp only [hu,E5 hs hom,hkv];exact h
theorem E9 (hs:WV H G) {x:AV} (h:Ej H x=true):Ej G x=true:=by
 cases x with
 | ptr b ver sz i off =>
  simp only [Ej] at h ⊢
  cases hb:look H b with
  | none=>rw [hb] at h;cases h
  | some k=>rw [hb] at h;rw [hs b k hb];exact h
 | dptr _ _=>rfl
 | _=>cases h
theorem jp (hs:WV H G) {op:BinOp} {t:TypeId} {x:AV} {y:Operand} {q:D×List Prop} (h:Vn H cx op t x y=some q):Vn G cx op t x y=some q:=by
 unfold Vn at h ⊢
 split at h
 ·rename_i hu hp;rw [hu,E9 hs hp];exact h
 ·rename_i hu hp;rw [hu,E9 hs hp];exact h
 ·cases h
theorem yJ {op:BinOp} {t:TypeId} {x:AV} {y:Operand} {q:D×List Prop} (h:JD cx op t x y=some q):Vn G cx op t x y=none:=by
 unfold JD at h
 split at h
 ·rename_i hu;unfold Vn;rw [hu]
 ·rename_i hu;unfold Vn;rw [hu]
 ·cases h
theorem jn (hs:WV H G) {op:BinOp} {t:TypeId} {x:AV} {y:Operand} {r:R} (h:(match Vn H cx op t x y with
      | some (r,ob)=>some ({ val:=.d r,up:=[],ob,orc }:R)
      | none=>match JD cx op t x y with
        | some (r,ob)=>some { val:=.d r,up:=[],ob,orc }
        | none=>none)=some r):(match Vn G cx op t x y with
      | some (r,ob)=>some ({ val:=.d r,up:=[],ob,orc }:R)
      | none=>match JD cx op t x y with
        | some (r,ob)=>some { val:=.d r,up:=[],ob,orc }
        | none=>none)=some r:=by
  cases hq:Vn H cx op t x y with
  | some q=>rw [hq] at h;rw [jp hs hq];exact h
  | none =>
    rw [hq] at h
    cases hz:JD cx op t x y with
    | none=>rw [hz] at h;cases h
    | some z=>rw [hz] at h;rw [yJ hz];exact h
theorem QbM (hs:WV H G) {name:Nat} (hn:look G name=none) {o:Oper} {r:R} (h:aop cx sym orc H name ev o=some r):aop cx sym orc G name ev o=some r:=by
 cases hop:o.op with
 | alloc elem =>
  simp only [aop,hop] at h ⊢
  split at h
  case h_2=>cases h
  rename_i z hz _
  simp only [hz,hn];exact h
 | box elem x =>
  simp only [aop,hop] at h ⊢
  split at h
  case h_2=>cases h
  rename_i cs hcs _
  simp only [hcs,hn];exact h
 | buildSlice t len parts =>
  simp only [aop,hop] at h ⊢
  cases hlt:cx.Lt t len with
  | true =>
   simp only [hlt] at h ⊢
   unfold jg at h ⊢
   split at h
   case h_2=>cases h
   rename_i elem hu _
   simp only [hu,hn]
   split at h
   case h_2=>cases h
   split at h
   case h_2=>cases h
   rename_i es hl
   obtain ⟨h1,h2⟩:=V8 hs _ _ _ _ hl
   simp only [h1];exact h
  | false =>
  simp only [hlt] at h ⊢
  cases hpe:Yf 0 (parts.toList.map fun p=>(p.1,ev p.2)) with
  | none =>
   simp only [hpe] at h ⊢
   split at h
   case h_2=>cases h
   split at h
   case h_2=>cases h
   split at h
   case h_2=>cases h
   rename_i es fs hl
   obtain ⟨h1,h2⟩:=V8 hs _ _ _ _ hl
   simp only [h1]
   rw [ZQ hs fs h2]
   exact h
  | some l=>cases l with
   | nil =>
   simp only [hpe] at h ⊢
   split at h
   case h_2=>cases h
   split at h
   case h_2=>cases h
   split at h
   case h_2=>cases h
   rename_i es fs hl
   obtain ⟨h1,h2⟩:=V8 hs _ _ _ _ hl
   simp only [h1]
   rw [ZQ hs fs h2]
   exact h
   | cons x xs =>
    simp only [hpe] at h ⊢
    unfold jk at h ⊢
    split at h
    case h_2=>cases h
    rename_i elem hu _
    simp only [hu,hn];exact h
 | load t a =>
  simp only [aop,hop] at h ⊢
  split at h
  ·rename_i s g b ver sz i off hs' hg e
   split at h
   case h_2=>cases h
   rename_i x ob o' hbl
   simp only [hs',hg,QbV hs e hbl,jE hs hbl];exact h
  ·rename_i s g x off hs' hg e
   simp only [hs',hg,QaP hs e];exact h
  ·cases h
 | store t a x=>simp only [aop,hop] at h ⊢;exact yh hs h
 | nilCheck x =>
  simp only [aop,hop] at h ⊢
  split at h
  ·rename_i b v s i f e
   split at h
   case h_2=>cases h
   rename_i hc
   simp only [e,UL hs hc];exact h
  ·exact h
  ·exact h
  ·exact h
  ·cases h
 | makeSlice t l c =>
  simp only [aop,hop] at h ⊢
  split at h
  case h_2=>cases h
  rename_i elem kn n km m hu el ec hn'
  simp only [hu,el,ec,hn];exact h
 | slice t x lo hi mx =>
  simp only [aop,hop] at h ⊢
  split at h
  ·rename_i b ver sz i off hex
   have he:∀ p,XG H b=some p→YX cx G orc t b ver sz i off (lo.isNone && hi.isNone && mx.isNone)=YX cx H orc t b ver sz i off (lo.isNone && hi.isNone && mx.isNone):=by
    intro p hp
    unfold YX
    rw [hp,zx hs hp]
   unfold qL at h ⊢
   split at h
   ·rename_i q hq
    have hp:∃ p,XG H b=some p:=by
     unfold YX at hq
     split at hq
     case h_2=>cases hq
     rename_i hao hu
     exact ⟨_,hao⟩
    obtain ⟨p,hp⟩:=hp
    rw [he p hp,hq];exact h
   ·rename_i hq
    unfold jb at h ⊢
    split at h
    case h_2=>cases h
    rename_i hmx hao hu
    rw [he _ hao,hq]
    simp only [hmx,zx hs hao,hu];exact h
  ·cases hq:Vd cx sym orc H t (ev x) (lo.map ev) (hi.map ev) (mx.map ev) with
   | some q =>
    rw [hq] at h
    rw [jH hs hq];exact h
   | none =>
    rw [hq] at h
    simp only at h
    cases hq2:qn cx sym orc H t (ev x) (lo.map ev) (hi.map ev) (mx.map ev) with
    | some q2 =>
     rw [hq2] at h
     rw [zX hs hq hq2,QaE hs hq2];exact h
    | none =>
     rw [hq2] at h
     simp only at h
     rw [jG hs hq h,QaD hs hq2 h]
     exact yi hs h
 | sliceToArrayPointer t x =>
  simp only [aop,hop] at h ⊢
  unfold aarr at h ⊢
  split at h
  case h_2=>cases h
  rename_i n elem full sz es fs hu hd
  obtain ⟨h1,h2⟩:=VV hs _ _ _ hd
  simp only [hu,h1]
  rw [ZQ hs fs h2]
  exact h
 | fieldAddr s x f =>
  simp only [aop,hop] at h ⊢
  split at h
  case h_2=>cases h
  split at h
  case h_2=>cases h
  split at h
  ·rename_i b v sz i off hz e
   split at h
   case h_2=>cases h
   rename_i hc
   simp only [hz,e,UL hs hc];exact h
  ·exact h
  ·cases h
 | indexAddr t x ix =>
  simp only [aop,hop] at h ⊢
  split at h
  case h_2=>cases h
  exact qo hs h
 | call c =>
  obtain ⟨callee,args,ats⟩:=c
  cases callee with
  | builtin b =>
   simp only [aop,hop] at h ⊢
   exact zY hs hn h (fun x v h1 h2=>(kS h2).1 h1)
  | _=>simp only [aop,hop] at h;cases h
 | makeMap t q =>
  simp only [aop,hop] at h ⊢
  split at h
  case h_2=>cases h
  simp only [hn];exact h
 | mapUpdate t m k x=>simp only [aop,hop] at h ⊢;exact KN hs h
 | insert t m k x=>simp only [aop,hop] at h ⊢;exact KN hs h
 | lookup t m k ok=>simp only [aop,hop] at h ⊢;exact jK hs h
 | range t x =>
  simp only [aop,hop] at h ⊢
  unfold jI at h ⊢
  split at h
  case h_2=>cases h
  rename_i hu hxv hl
  simp only [hu,hxv,hn];exact h
 | next x isS =>
  simp only [aop,hop] at h ⊢
  cases isS with
  | false=>cases h
  | true =>
   simp only at h ⊢
   unfold uM at h ⊢
   split at h
   case h_2=>cases h
   rename_i ho
   rw [yH hs ho];exact h
 | binOp op t x y yt =>
  simp only [aop,hop] at h ⊢
  cases h6:Qcp orc with
  | some r6=>simp only [h6] at h ⊢;exact h
  | none =>
  cases h7:uB op (ev x) (ev y) orc with
  | some q7=>simp only [h6,h7] at h ⊢;exact h
  | none =>
  simp only [h6,h7] at h ⊢
  cases ha:(ev x).toV <;> cases hb:(ev y).toV <;> simp only [ha,hb] at h ⊢ <;> first | exact h | skip
  all_goals exact jn hs h
 | convert s t x =>
  simp only [aop,hop] at h ⊢
  cases h6:Qco orc with
  | some r6=>simp only [h6] at h ⊢;exact h
  | none =>
  cases h7:uA cx s t (ev x) orc with
  | some q7=>simp only [h6,h7] at h ⊢;exact h
  | none =>
  simp only [h6,h7] at h ⊢
  cases ha:(ev x).toV with
  | some a=>rw [ha] at h;exact h
  | none =>
   rw [ha] at h
   simp only at h ⊢
   unfold jP at h ⊢
   split at h
   case h_2=>cases h
   rename_i e ds fs hs' ht hadd
   simp only [hs',ht,(JS hs hadd).1];exact h
 | _=>simp only [aop,hop] at h ⊢;exact h
end
theorem ux {x:AV} {b:Nat} (h:ptrB x=some b):∃ v s i o,x=.ptr b v s i o:=by
 cases x <;> first | (cases h;exact ⟨_,_,_,_,rfl⟩) | cases h
theorem QbN {cx:Cx} {H G:List (Nat×Blk)} {sym:Bool} {orc:List Orc} {ev:Operand→AV} {name b:Nat} {o:Oper} {r:R} (ha:JR ev o=some b) (hc:∀ v,Kj H b v=true→Kj G b v=true) (h:aop cx sym orc H name ev o=some r):aop cx sym orc G name ev o=some r:=by
 unfold JR at ha
 split at ha
 ·rename_i s x f hop
  obtain ⟨v,s',i,off,hx⟩:=ux ha
  simp only [aop,hop,hx] at h ⊢
  split at h
  case h_2=>cases h
  rename_i fd hfd
  split at h
  case h_2=>cases h
  rename_i n hn
  split at h
  ·rename_i e1 e2
   cases e2
   split at h
   case h_2=>cases h
   rename_i hcu
   simp only [hfd,hn,e1,hc _ hcu];exact h
  ·rename_i e1 e2
   cases e2
  ·cases h
 ·rename_i t x ix hop
  obtain ⟨v,s',i,off,hx⟩:=ux ha
  simp only [aop,hop,hx] at h ⊢
  split at h
  case h_2=>cases h
  rename_i k j hix
  have h0:∀ {o2:List Orc} {j:Int} {q:R},Z6 cx sym o2 H t (.ptr b v s' i off) j=some q→Z6 cx sym o2 G t (.ptr b v s' i off) j=some q:=by
   intro o2 j q hq
   unfold Z6 at hq ⊢
   split at hq
   ·rename_i len elem hu
    split at hq
    case h_2=>cases hq
    rename_i e1 e2
    simp only at hq ⊢
    split at hq
    case h_2=>cases hq
    rename_i hcu
    simp only [e1,e2,hc _ hcu];exact hq
   ·split at hq
    ·cases hq
    ·simp only at hq;cases hq
   ·cases hq
  unfold Vt at h ⊢
  split at h
  ·rename_i k2 r2
   split at h
   case h_2=>cases h
   rename_i q hq
   rw [h0 hq]
   exact h
  ·rename_i hno
   exact h0 h
 ·cases ha
section
variable {cx:Cx} {H G:List (Nat×Blk)} {sym:Bool} {orc:List Orc} {ev ev' : Operand→AV}
theorem QaG {o:Oper} (h:∀ x,x∈o.op.operands.toList→ev x=ev' x) {name:Nat}:aop cx sym orc H name ev o=aop cx sym orc H name ev' o:=by
 have hm:∀ (l:List Operand),(∀ x,x∈l→x∈o.op.operands.toList)→l.map ev=l.map ev':=fun l hl=>List.map_congr_left fun x hx=>h x (hl x hx)
 cases hop:o.op with
 | move x=>simp only [aop,hop];rw [h x (by simp [hop,Op.operands])]
 | assign x=>simp only [aop,hop];rw [h x (by simp [hop,Op.operands])]
 | pick c a b=>simp only [aop,hop];rw [h c (by simp [hop,Op.operands]),h a (by simp [hop,Op.operands]),h b (by simp [hop,Op.operands])]
 | box t x=>simp only [aop,hop];rw [h x (by simp [hop,Op.operands])]
 | build t parts =>
  simp only [aop,hop]
  have:(parts.toList.map fun p=>(p.1,ev p.2))=(parts.toList.map fun p=>(p.1,ev' p.2)):=List.map_congr_left fun p hp=>by
   rw [h p.2 (by simp only [hop,Op.operands,List.mem_map];exact ⟨p,hp,rfl⟩)]
  rw [this]
 | buildSlice t n parts =>
  simp only [aop,hop]
  have:(parts.toList.map fun p=>(p.1,ev p.2))=(parts.toList.map fun p=>(p.1,ev' p.2)):=List.map_congr_left fun p hp=>by
   rw [h p.2 (by simp only [hop,Op.operands,List.mem_map];exact ⟨p,hp,rfl⟩)]
  rw [this]
 | load t a=>simp only [aop,hop];rw [h a (by simp [hop,Op.operands])]
 | store t a x=>simp only [aop,hop];rw [h a (by simp [hop,Op.operands]),h x (by simp [hop,Op.operands])]
 | nilCheck x=>simp only [aop,hop];rw [h x (by simp [hop,Op.operands])]
 | binOp op t x y yt=>simp only [aop,hop];rw [h x (by simp [hop,Op.operands]),h y (by simp [hop,Op.operands])]
 | unOp op t x=>simp only [aop,hop];rw [h x (by simp [hop,Op.operands])]
 | convert s t x=>simp only [aop,hop];rw [h x (by simp [hop,Op.operands])]
 | makeFunc f first cap =>
  simp only [aop,hop]
  rw [hm first.toList (fun x hx=>by simp [hop,Op.operands];left;simpa using hx),hm cap.toList (fun x hx=>by simp [hop,Op.operands];right;simpa using hx)]
 | makeSlice t l c=>simp only [aop,hop];rw [h l (by simp [hop,Op.operands]),h c (by simp [hop,Op.operands])]
 | slice t x lo hi mx =>
  simp only [aop,hop]
  have ho:∀ q:Option Operand,(∀ x,q=some x→x∈o.op.operands.toList)→q.map ev=q.map ev':=fun q hq=>by
   cases q with
   | none=>rfl
   | some x=>simp only [Option.map_some];rw [h x (hq x rfl)]
  rw [h x (by simp [hop,Op.operands]),ho lo (fun y hy=>by subst hy;simp [hop,Op.operands]),ho hi (fun y hy=>by subst hy;simp [hop,Op.operands]),ho mx (fun y hy=>by subst hy;simp [hop,Op.operands])]
 | sliceToArrayPointer t x=>simp only [aop,hop];rw [h x (by simp [hop,Op.operands])]
 | fieldAddr s x f=>simp only [aop,hop];rw [h x (by simp [hop,Op.operands])]
 | field s x f=>simp only [aop,hop];rw [h x (by simp [hop,Op.operands])]
 | indexAddr t x ix=>simp only [aop,hop];rw [h x (by simp [hop,Op.operands]),h ix (by simp [hop,Op.operands])]
 | index t x ix=>simp only [aop,hop];rw [h x (by simp [hop,Op.operands]),h ix (by simp [hop,Op.operands])]
 | extract x i=>simp only [aop,hop];rw [h x (by simp [hop,Op.operands])]
 | mapUpdate t m k x=>simp only [aop,hop];rw [h m (by simp [hop,Op.operands]),h k (by simp [hop,Op.operands]),h x (by simp [hop,Op.operands])]
 | insert t m k x=>simp only [aop,hop];rw [h m (by simp [hop,Op.operands]),h k (by simp [hop,Op.operands]),h x (by simp [hop,Op.operands])]
 | lookup t m k ok=>simp only [aop,hop];rw [h m (by simp [hop,Op.operands]),h k (by simp [hop,Op.operands])]
 | range t x=>simp only [aop,hop];rw [h x (by simp [hop,Op.operands])]
 | next x isS=>simp only [aop,hop];rw [h x (by simp [hop,Op.operands])]
 | call c =>
  obtain ⟨callee,args,ats⟩:=c
  cases callee with
  | builtin b =>
   simp only [aop,hop]
   rw [hm args.toList (fun x hx=>by simp [hop,Op.operands,Call.operands];simpa using hx)]
  | _=>simp only [aop,hop]
 | _=>simp only [aop,hop]
theorem GM {p q:Rec→Bool} {tm:List (Nat×AV)} {t:Nat}:∀ (recs:List Rec),(∀ r,r∈recs→r.dst=some t→p r=q r)→look (WM (recs.filter p)++tm) t=look (WM (recs.filter q)++tm) t
 | [],_=>rfl
 | r::l,h=>by
  have ih:=GM (p:=p) (q:=q) (tm:=tm) (t:=t) l (fun r' hr'=>h r' (List.mem_cons_of_mem _ hr'))
  have hc:∀ (f:Rec→Bool),(r::l).filter f=if f r then r::l.filter f else l.filter f:=fun f=>by simp [List.filter_cons]
  by_cases hd:r.dst=some t
  ·have:=h r List.mem_cons_self hd
   rw [hc,hc,this]
   split
   ·simp only [WM,hd,List.cons_append,Qd]
   ·exact ih
  ·have key:∀ f:Rec→Bool,look (WM ((r::l).filter f)++tm) t=look (WM (l.filter f)++tm) t:=by
    intro f
    rw [hc]
    split
    ·simp only [WM]
     split
     ·rename_i u hu
      rw [List.cons_append,Qb]
      intro e;subst e;exact hd hu
     ·rfl
    ·rfl
   rw [key,key,ih]
theorem VY {p q:Rec→Bool} {hp:List (Nat×Blk)} {b:Nat}:∀ (recs:List Rec),(∀ r,r∈recs→look r.up b≠none→p r=q r)→look (Zy (recs.filter p)++hp) b=look (Zy (recs.filter q)++hp) b
 | [],_=>rfl
 | r::l,h=>by
  have ih:=VY (p:=p) (q:=q) (hp:=hp) (b:=b) l (fun r' hr'=>h r' (List.mem_cons_of_mem _ hr'))
  have hc:∀ (f:Rec→Bool),(r::l).filter f=if f r then r::l.filter f else l.filter f:=fun f=>by simp [List.filter_cons]
  cases hu:look r.up b with
  | some k =>
   have:=h r List.mem_cons_self (by rw [hu];simp)
   rw [hc,hc,this]
   split
   ·simp only [Zy,List.append_assoc];rw [Zn r.up,Zn r.up,hu]
   ·exact ih
  | none =>
   have key:∀ f:Rec→Bool,look (Zy ((r::l).filter f)++hp) b=look (Zy (l.filter f)++hp) b:=by
    intro f
    rw [hc]
    split
    ·simp only [Zy,List.append_assoc];rw [Zn,hu]
    ·rfl
   rw [key,key,ih]
theorem WN {p:Rec→Bool} {hp:List (Nat×Blk)} {b:Nat} {k:Blk}:∀ (recs:List Rec),look (Zy (recs.filter p)++hp) b=some k→(∃ r,r∈recs∧p r=true∧look r.up b≠none) ∨ look hp b=some k
 | [],h=>.inr h
 | r::l,h=>by
  rw [List.filter_cons] at h
  split at h
  ·rename_i hp'
   simp only [Zy,List.append_assoc] at h
   rw [Zn] at h
   cases hu:look r.up b with
   | some k'=>exact .inl ⟨r,List.mem_cons_self,hp',by rw [hu];simp⟩
   | none =>
    rw [hu] at h
    rcases WN l h with ⟨r',h1,h2,h3⟩ | h
    ·exact .inl ⟨r',List.mem_cons_of_mem _ h1,h2,h3⟩
    ·exact .inr h
  ·rcases WN l h with ⟨r',h1,h2,h3⟩ | h
   ·exact .inl ⟨r',List.mem_cons_of_mem _ h1,h2,h3⟩
   ·exact .inr h
theorem VI (mask:Nat):∀ (recs:List Rec),Yu mask recs=recs.filter fun r=>mask.testBit r.i
 | []=>rfl
 | r::l=>by
  simp only [Yu,List.filter_cons]
  rw [VI mask l]
  cases mask.testBit r.i <;> rfl
end
theorem Kb {p:Rec→Bool} {hp:List (Nat×Blk)} {b:Nat} {R:Rec} {k:Blk} (hR:look R.up b=some k) (hpR:p R=true):∀ (recs:List Rec),recs.Pairwise (fun x y=>y.i < x.i)→R∈recs →
  (∀ r,r∈recs→p r=true→look r.up b≠none→r.i≤R.i)→look (Zy (recs.filter p)++hp) b=some k
 | [],_,h,_=>by simp at h
 | r::l,hs,h,hno=>by
  rw [List.filter_cons]
  rw [List.pairwise_cons] at hs
  by_cases hr:r=R
  ·subst hr
   rw [if_pos hpR]
   simp only [Zy,List.append_assoc];rw [Zn,hR]
  ·have hm:R∈l:=by simpa [Ne.symm hr] using h
   have hlt:=hs.1 R hm
   have ih:=Kb (hp:=hp) hR hpR l hs.2 hm (fun r' h'=>hno r' (List.mem_cons_of_mem _ h'))
   split
   ·rename_i hp'
    simp only [Zy,List.append_assoc];rw [Zn]
    cases hu:look r.up b with
    | none=>exact ih
    | some k' =>
     have:=hno r List.mem_cons_self hp' (by rw [hu];simp)
     omega
   ·exact ih
theorem E7 {p:Rec→Bool} {tm:List (Nat×AV)} {t:Nat} {R:Rec} (hR:R.dst=some t) (hpR:p R=true):∀ (recs:List Rec),recs.Pairwise (fun x y=>y.i < x.i)→R∈recs →
  (∀ r,r∈recs→p r=true→r.dst=some t→r.i≤R.i)→look (WM (recs.filter p)++tm) t=some R.val
 | [],_,h,_=>by simp at h
 | r::l,hs,h,hno=>by
  rw [List.filter_cons]
  rw [List.pairwise_cons] at hs
  by_cases hr:r=R
  ·subst hr
   rw [if_pos hpR]
   simp only [WM,hR,List.cons_append,Qd]
  ·have hm:R∈l:=by simpa [Ne.symm hr] using h
   have hlt:=hs.1 R hm
   have ih:=E7 (tm:=tm) hR hpR l hs.2 hm (fun r' h'=>hno r' (List.mem_cons_of_mem _ h'))
   split
   ·rename_i hp'
    simp only [WM]
    split
    ·rename_i u hu
     rw [List.cons_append,Qb]
     ·exact ih
     ·intro e;subst e
      have:=hno r List.mem_cons_self hp' hu
      omega
    ·exact ih
   ·exact ih
theorem Wp {hp:List (Nat×Blk)} {b:Nat}:ZN hp b=true↔look hp b≠none:=by
 unfold ZN
 cases look hp b <;> simp
theorem Y5 {α:Type} {l:List (Nat×α)} {b:Nat} (h:look l b≠none):∃ x,(b,x)∈l:=by
 induction l with
 | nil=>exact absurd rfl h
 | cons p l ih =>
  obtain ⟨k,x⟩:=p
  by_cases hk:k=b
  ·subst hk;exact ⟨x,List.mem_cons_self⟩
  ·rw [Qb _ _ hk] at h
   obtain ⟨y,hy⟩:=ih h
   exact ⟨y,List.mem_cons_of_mem _ hy⟩
structure DOk (ops:Array Oper) (masks:List Nat) (base:Nat) (s:St) (recs:List Rec):Prop where
 spec:∀ (j:Nat) (o:Oper),nth ops.toList j=some o→ZP masks j=yP masks o j∧(∀ e,e∈o.after.toList→Region.binds .any e=true→e.on < j)
 trans:∀ j,j < ops.toList.length→∀ i,i < j→(ZP masks j).testBit i=true→∀ q,(ZP masks i).testBit q=true→(ZP masks j).testBit q=true
 tmps:∀ i j,i < ops.toList.length→j < ops.toList.length→YQ ops masks i j=true
 blks:∀ r q,r∈recs→q∈recs→Ur ops masks base r q=true
 names:∀ r,r∈recs→∀ b,look r.up b≠none→(b=base+r.i∧look s.hp b=none) ∨ (b≠base+r.i∧(look s.hp b≠none ∨ (∃ i,i < r.i∧b=base+i∧Q3 masks i r.i=true) ∨ base+ops.toList.length≤b))
 free:∀ i,i < ops.toList.length→look s.hp (base+i)=none
 touch:∀ r,r∈recs→YO base r=true→W6 ops r.i=true
 dst:∀ r,r∈recs→∀ d,r.dst=some d→d < s.nt
 pivs:∀ r,r∈recs→r.piv=true→∀ q,q∈recs→q.i=r.i ∨ Q3 masks q.i r.i=true ∨ Q3 masks r.i q.i=true ∨ q.up=[]
theorem kV {ops:Array Oper} {masks:List Nat} {base:Nat} {s:St} {recs:List Rec} (h:jz ops masks base s recs=true):DOk ops masks base s recs:=by
 simp only [jz,Bool.and_eq_true] at h
 obtain ⟨⟨⟨⟨⟨⟨⟨⟨h1,h2⟩,h3⟩,h4⟩,h5⟩,h6⟩,h8⟩,h9⟩,h10⟩:=h
 have hm:∀ j,j < ops.toList.length→∃ o,nth ops.toList j=some o∧ZP masks j=yP masks o j∧(∀ e,e∈o.after.toList→Region.binds .any e=true→e.on < j) ∧
   ∀ i,i < j→(ZP masks j).testBit i=true→(ZP masks i &&& ZP masks j)=ZP masks i:=by
  intro j hj
  simp only [uD,List.all_eq_true,List.mem_range] at h2
  have:=h2 j hj
  split at this
  ·rename_i o ho
   simp only [Bool.and_eq_true,List.all_eq_true,List.mem_range] at this
   refine ⟨o,ho,Q4 this.1.1,fun e he hb=>?_,fun i hi hb=>?_⟩
   ·have:=this.1.2 e he
    rw [hb] at this;simpa using this
   ·have:=this.2 i hi
    rw [hb] at this;simpa using this
  ·cases this
 refine ⟨fun j o ho=>?_,fun j hj i hi hb q hq=>?_,fun i j hi hj=>?_,fun r q hr hq=>?_,fun r hr b hb=>?_,fun i hi=>?_,fun r hr hw=>?_,fun r hr d hd=>?_,fun r hr hp q hq=>?_⟩
 ·have hj:j < ops.toList.length:=by rw [Q2] at ho;exact (List.getElem?_eq_some_iff.1 ho).1
  obtain ⟨o',ho',h1,h2,_⟩:=hm j hj
  rw [ho] at ho';cases ho'
  exact ⟨h1,h2⟩
 ·obtain ⟨o',ho',_,_,h3⟩:=hm j hj
  have:=h3 i hi hb
  rw [← this,Nat.testBit_and,Bool.and_eq_true] at hq
  exact hq.2
 ·simp only [List.all_eq_true,List.mem_range] at h3
  exact h3 i hi j hj
 ·simp only [List.all_eq_true,Bool.or_eq_true,Bool.not_eq_true'] at h4
  rcases h4 r hr with h | h
  ·rcases h4 q hq with h' | h'
   ·simp [Ur,h,h']
   ·have:=h' r hr
    unfold Ur at this ⊢
    simp only [Bool.or_eq_true,Bool.and_eq_true] at this ⊢
    rcases this with ((a | a) | a) | a
    ·exact .inl (.inl (.inr a))
    ·exact .inl (.inl (.inl a))
    ·exact .inl (.inr (by have:=Nat.eq_of_beq_eq_true a;rw [this];exact Nat.beq_refl _))
    ·exact .inr ⟨a.2,a.1⟩
  ·exact h q hq
 ·simp only [List.all_eq_true] at h5
  obtain ⟨k,hk⟩:=Y5 hb
  have:=h5 r hr _ hk
  simp only at this
  split at this
  ·rename_i he
   refine .inl ⟨Q4 he,?_⟩
   simp only [Bool.not_eq_true'] at this
   cases hl:look s.hp b with
   | none=>rfl
   | some x=>simp [ZN,hl] at this
  ·rename_i he
   refine .inr ⟨fun e=>(by rw [← e,Nat.beq_refl] at he;cases he),?_⟩
   simp only [Bool.or_eq_true,List.any_eq_true,List.mem_range,Bool.and_eq_true] at this
   rcases this with (h | ⟨i,hi,hbi,hmi⟩) | h
   ·exact .inl (Wp.1 h)
   ·exact .inr (.inl ⟨i,hi,Q4 hbi,hmi⟩)
   ·exact .inr (.inr (Nat.le_of_ble_eq_true h.2))
 ·rw [Bool.or_eq_true] at h6
  rcases h6 with h6 | h6
  ·cases hl:look s.hp (base+i) with
   | none=>rfl
   | some x =>
    obtain ⟨y,hy⟩:=Y5 (l:=s.hp) (b:=base+i) (by rw [hl];simp)
    simp only [WI,List.all_eq_true] at h6
    have:=h6 _ hy
    simp only [Nat.blt_eq] at this
    omega
  ·simp only [List.all_eq_true,List.mem_range] at h6
   have:=h6 i hi
   simp only [Bool.not_eq_true'] at this
   cases hl:look s.hp (base+i) with
   | none=>rfl
   | some x=>simp [ZN,hl] at this
 ·simp only [List.all_eq_true] at h8
  have:=h8 r hr
  rw [hw] at this;simpa using this
 ·simp only [List.all_eq_true] at h9
  have:=h9 r hr
  rw [hd] at this
  simpa using this
 ·simp only [List.all_eq_true] at h10
  have:=h10 r hr
  simp only [hp,Bool.not_true,Bool.false_or,List.all_eq_true,Bool.or_eq_true] at this
  rcases this q hq with ((h | h) | h) | h
  ·exact .inl (Q4 h)
  ·exact .inr (.inl h)
  ·exact .inr (.inr (.inl h))
  ·exact .inr (.inr (.inr (List.isEmpty_iff.1 h)))
theorem QC {masks:List Nat} {i j:Nat}:Q3 masks i j=(ZP masks j).testBit i:=by
 unfold Q3 ZP
 cases nth masks j <;> simp
theorem GQ (masks:List Nat) (j:Nat) (i:Nat):∀ (l:List Edge) (m:Nat),(l.foldl (fun s e=>match Region.binds .any e && Nat.blt e.on j with
  | true=>s ||| (2 ^ e.on ||| (match nth masks e.on with | some m=>m | none=>0))
  | false=>s) m).testBit i=true→m.testBit i=true ∨ ∃ e,e∈l∧Region.binds .any e=true∧e.on < j∧(e.on=i ∨ (ZP masks e.on).testBit i=true)
 | [],m,h=>.inl h
 | e::l,m,h=>by
  simp only [List.foldl_cons] at h
  rcases GQ masks j i l _ h with h | ⟨e',h1,h2⟩
  ·split at h
   ·rename_i hc
    simp only [Bool.and_eq_true] at hc
    rw [Nat.testBit_or,Nat.testBit_or] at h
    simp only [Bool.or_eq_true] at h
    rcases h with h | h | h
    ·exact .inl h
    ·rw [Nat.testBit_two_pow] at h
     exact .inr ⟨e,List.mem_cons_self,hc.1,by simpa using hc.2,.inl (of_decide_eq_true h)⟩
    ·exact .inr ⟨e,List.mem_cons_self,hc.1,by simpa using hc.2,.inr h⟩
   ·exact .inl h
  ·exact .inr ⟨e',List.mem_cons_of_mem _ h1,h2⟩
theorem VJ {ops:Array Oper} {masks:List Nat} {base:Nat} {s:St} {recs:List Rec} (hd:DOk ops masks base s recs):∀ (j:Nat),j < ops.toList.length→∀ i,(ZP masks j).testBit i=true→i < j:=by
 intro j
 induction j using Nat.strongRecOn with
 | _ j ih =>
  intro hj i hi
  obtain ⟨o,ho⟩:∃ o,nth ops.toList j=some o:=⟨ops.toList[j],by rw [Q2];simp [hj]⟩
  rw [(hd.spec j o ho).1] at hi
  rcases GQ masks j i _ 0 hi with h | ⟨e,_,_,h3,h4⟩
  ·simp at h
  ·rcases h4 with h4 | h4
   ·omega
   ·have:=ih e.on h3 (by omega) i h4;omega
theorem yO {ops:Array Oper} {masks:List Nat} {base:Nat} {s:St} {recs:List Rec} (hd:DOk ops masks base s recs) {S:Nat→Bool} (hclo:∀ j,S j=true→∀ i,Q3 masks i j=true→S i=true) {j:Nat} {o:Oper}
  (ho:nth ops.toList j=some o) (hr:∀ e,e∈o.after.toList→Region.binds .any e=true→S e.on=true):∀ i,Q3 masks i j=true→S i=true:=by
 intro i hi
 rw [QC,(hd.spec j o ho).1] at hi
 rcases GQ masks j i _ 0 hi with h | ⟨e,h1,h2,h3,h4⟩
 ·simp at h
 ·rcases h4 with h4 | h4
  ·rw [← h4];exact hr e h1 h2
  ·exact hclo e.on (hr e h1 h2) i (by rw [QC];exact h4)
section
variable {cx:Cx} {F:Nat→Prop} {ρ0:Nat→Value} {w0:World} {ops:Array Oper} {masks:List Nat} {base:Nat} {s:St} {recs:List Rec}
def hpS (s:St) (recs:List Rec) (S:Nat→Bool):List (Nat×Blk):=Zy (recs.filter fun r=>S r.i)++s.hp
def tmS (s:St) (recs:List Rec) (S:Nat→Bool):List (Nat×AV):=WM (recs.filter fun r=>S r.i)++s.tm
structure DInv (cx:Cx) (ops:Array Oper) (ds0:List Deferred) (F:Nat→Prop) (ρ0:Nat→Value) (w0:World) (masks:List Nat) (s:St) (recs:List Rec) (S:Nat→Bool) (a:Act) (w:World):Prop where
 clo:∀ j,S j=true→∀ i,Q3 masks i j=true→S i=true
 old:∀ t x,look s.tm t=some x→(∀ r,r∈recs→S r.i=true→r.dst≠some t)→VR w0 (MM F s.hp ρ0) s.hp ρ0 x (a.tmps.getD t undef)
 mov:∀ r,r∈recs→S r.i=true→∀ p t0 t x,nth ops.toList r.i=some p→p.op=.move (.tmp t0)→p.guard=none→p.dst=some t→(∀ q,q∈recs→q.i < r.i→q.dst≠some t0)→(∀ q,q∈recs→S q.i=true→q.dst=some t→q.i=r.i)→look s.tm t0=some x→VR w0 (MM F s.hp ρ0) s.hp ρ0 x (a.tmps.getD t undef)
 sim:∃ ρ,HSim cx F (hpS s recs S) ρ w∧TSim F (tmS s recs S) (hpS s recs S) ρ a w∧a.tmps.size=s.nt∧a.defers=ds0∧Steps1 s.hp ρ0 w0 (hpS s recs S) ρ w
structure Recs (cx:Cx) (call:YA) (yc:Vj) (ops:Array Oper) (masks:List Nat) (base:Nat) (s:St) (recs:List Rec) (n:Nat):Prop where
 sorted:recs.Pairwise fun x y=>y.i < x.i
 lt:∀ r,r∈recs→r.i < n
 all:∀ j,j < n→∃ r,r∈recs∧r.i=j
 told:∀ r,r∈recs→∃ orc ob o',Jx cx call yc ops masks base s r.i (recs.filter fun q=>Nat.blt q.i r.i) orc=some (r,ob,o')∧∀ p,p∈ob→p
theorem Recs.uniq {call:YA} {yc:Vj} {n:Nat} (h:Recs cx call yc ops masks base s recs n) {r q:Rec} (hr:r∈recs) (hq:q∈recs) (he:r.i=q.i):r=q:=by
 have hs:=h.sorted
 clear h
 induction recs with
 | nil=>simp at hr
 | cons x l ih =>
  rw [List.pairwise_cons] at hs
  rcases List.mem_cons.1 hr with rfl | hr' <;> rcases List.mem_cons.1 hq with rfl | hq'
  ·rfl
  ·have:=hs.1 q hq';omega
  ·have:=hs.1 r hr';omega
  ·exact ih hr' hq' hs.2
theorem EC {r:Rec} {t:Nat}:wF r t=true↔r.dst=some t:=by
 unfold wF
 cases h:r.dst with
 | none=>simp
 | some d=>simp
theorem qS {t:Nat}:∀ {l:List Rec} {r:Rec},jr t l=some r→r∈l∧r.dst=some t
 | [],r,h=>by cases h
 | q::l,r,h=>by
  unfold jr at h
  cases hq:wF q t with
  | true =>
   rw [hq] at h
   cases h
   exact ⟨List.mem_cons_self,EC.1 hq⟩
  | false =>
   rw [hq] at h
   obtain ⟨h1,h2⟩:=qS h
   exact ⟨List.mem_cons_of_mem _ h1,h2⟩
theorem Yn {H:List (Nat×Blk)} {nm i:Nat} {dst:Option Tmp} {p:Nat×Blk} {rc:RC} {R:Rec} {ob:List Prop} {o' : List Orc} (h:zi H nm i dst p rc=some (R,ob,o')) :
  ∃ b k v,R={ i,dst,val:=v,up:=[(nm,stamp k)] }∧p=(b,k)∧renF b k.ver nm rc.val=some v∧ob=rc.ob∧look H b=none∧Em k=true:=by
 unfold zi at h
 split at h
 case h_2=>cases h
 rename_i v hv hc
 simp only [Bool.and_eq_true,Bool.not_eq_true'] at hc
 simp only [Option.some.injEq,Prod.mk.injEq] at h
 obtain ⟨h1,h2,h3⟩:=h
 refine ⟨p.1,p.2,v,h1.symm,rfl,hv,h2.symm,?_,hc.1⟩
 cases hl:look H p.1 with
 | none=>rfl
 | some k =>
  have:=Wp.2 (show look H p.1≠none by rw [hl];simp)
  rw [hc.2] at this;cases this
theorem WF {call:YA} {yc:Vj} {i:Nat} {rs:List Rec} {orc:List Orc} {r:Rec} {ob:List Prop} {o' : List Orc} (h:Jx cx call yc ops masks base s i rs orc=some (r,ob,o')) :
  r.i=i∧∃ o,nth ops.toList i=some o∧r.dst=o.dst:=by
 unfold Jx at h
 split at h
 case h_2=>cases h
 rename_i o mask ho hm
 simp only at h
 split at h
 ·cases h
 ·simp only [Option.some.injEq,Prod.mk.injEq] at h;obtain ⟨rfl,_⟩:=h;exact ⟨rfl,o,ho,rfl⟩
 ·split at h
  ·split at h
   ·split at h
    ·cases h
    split at h
    ·split at h
     case h_2=>cases h
     simp only [Option.some.injEq,Prod.mk.injEq] at h;obtain ⟨rfl,_⟩:=h;exact ⟨rfl,o,ho,rfl⟩
    ·simp only [Option.some.injEq,Prod.mk.injEq] at h;obtain ⟨rfl,_⟩:=h;exact ⟨rfl,o,ho,rfl⟩
    ·cases h
   split at h
   ·split at h
    case h_2=>cases h
    split at h
    case h_2=>cases h
    split at h
    case h_2=>cases h
    simp only [Option.some.injEq,Prod.mk.injEq] at h;obtain ⟨rfl,_⟩:=h;exact ⟨rfl,o,ho,rfl⟩
   split at h
   ·cases h
   split at h
   case h_2=>cases h
   split at h
   ·split at h
    case h_2=>cases h
    simp only [Option.some.injEq,Prod.mk.injEq] at h;obtain ⟨rfl,_⟩:=h;exact ⟨rfl,o,ho,rfl⟩
   ·simp only [Option.some.injEq,Prod.mk.injEq] at h;obtain ⟨rfl,_⟩:=h;exact ⟨rfl,o,ho,rfl⟩
   ·obtain ⟨_,_,_,hR,_⟩:=Yn h
    rw [hR];exact ⟨rfl,o,ho,rfl⟩
   ·cases h
  ·split at h
   ·simp only [Option.some.injEq,Prod.mk.injEq] at h;obtain ⟨rfl,_⟩:=h;exact ⟨rfl,o,ho,rfl⟩
   split at h
   ·simp only [Option.some.injEq,Prod.mk.injEq] at h;obtain ⟨rfl,_⟩:=h;exact ⟨rfl,o,ho,rfl⟩
   split at h
   ·cases h
   split at h
   ·split at h
    case h_2=>cases h
    simp only [Option.some.injEq,Prod.mk.injEq] at h;obtain ⟨rfl,_⟩:=h;exact ⟨rfl,o,ho,rfl⟩
   ·simp only [Option.some.injEq,Prod.mk.injEq] at h;obtain ⟨rfl,_⟩:=h;exact ⟨rfl,o,ho,rfl⟩
theorem Xw {call:YA} {yc:Vj}:∀ (m k:Nat) (rs recs:List Rec) (ob0 ob:List Prop) (orc0 orc:List Orc),YJ cx call yc ops masks base s (List.range' k m) rs ob0 orc0=some (recs,ob,orc)→(∀ p,p∈ob→p) →
  Recs cx call yc ops masks base s rs k→Recs cx call yc ops masks base s recs (k+m)∧∀ p,p∈ob0→p:=by
 intro m
 induction m with
 | zero =>
  intro k rs recs ob0 ob orc0 orc h ho hr
  simp only [List.range'_zero,YJ,Option.some.injEq,Prod.mk.injEq] at h
  obtain ⟨rfl,rfl,rfl⟩:=h
  exact ⟨hr,ho⟩
 | succ m ih =>
  intro k rs recs ob0 ob orc0 orc h ho hr
  simp only [List.range'_succ,YJ] at h
  split at h
  case h_2=>cases h
  rename_i r ob1 o1 hst
  obtain ⟨hi,_⟩:=WF hst
  have hfil:∀ q,q∈rs→Nat.blt q.i k=true:=fun q hq=>by simpa using hr.lt q hq
  -- what was owed before is owed at the end
  have hob:∀ (m k:Nat) (rs recs:List Rec) (ob0 ob:List Prop) (orc0 orc:List Orc),YJ cx call yc ops masks base s (List.range' k m) rs ob0 orc0=some (recs,ob,orc)→∀ p,p∈ob0→p∈ob:=by
   intro m
   induction m with
   | zero=>intro k rs recs ob0 ob orc0 orc h p hp;simp only [List.range'_zero,YJ,Option.some.injEq,Prod.mk.injEq] at h;obtain ⟨_,rfl,_⟩:=h;exact hp
   | succ m ihm =>
    intro k rs recs ob0 ob orc0 orc h p hp
    simp only [List.range'_succ,YJ] at h
    split at h
    case h_2=>cases h
    exact ihm _ _ _ _ _ _ _ h p (by simp [hp])
  have hall:=fun p hp=>ho p (hob _ _ _ _ _ _ _ _ h p hp)
  have hnew:Recs cx call yc ops masks base s (r::rs) (k+1):=by
   refine ⟨List.pairwise_cons.2 ⟨fun q hq=>by rw [hi];exact hr.lt q hq,hr.sorted⟩,fun q hq=>?_,fun j hj=>?_,fun q hq=>?_⟩
   ·rcases List.mem_cons.1 hq with rfl | hq
    ·omega
    ·have:=hr.lt q hq;omega
   ·by_cases hjk:j=k
    ·exact ⟨r,List.mem_cons_self,by omega⟩
    ·obtain ⟨q,hq,he⟩:=hr.all j (by omega)
     exact ⟨q,List.mem_cons_of_mem _ hq,he⟩
   ·rcases List.mem_cons.1 hq with rfl | hq
    ·refine ⟨orc0,ob1,o1,?_,fun p hp=>hall p (by simp [hp])⟩
     have:((q::rs).filter fun x=>Nat.blt x.i q.i)=rs:=by
      rw [List.filter_cons,if_neg (by simp [Nat.blt_eq]),List.filter_eq_self.2]
      intro x hx;rw [hi];exact hfil x hx
     rw [this,hi];exact hst
    ·obtain ⟨oc,b,o',h1,h2⟩:=hr.told q hq
     refine ⟨oc,b,o',?_,h2⟩
     have hlt:=hr.lt q hq
     have:((r::rs).filter fun x=>Nat.blt x.i q.i)=rs.filter fun x=>Nat.blt x.i q.i:=by
      rw [List.filter_cons,if_neg]
      rw [Nat.blt_eq,hi];omega
     rw [this];exact h1
  obtain ⟨g1,g2⟩:=ih (k+1) (r::rs) recs (ob1++ob0) ob o1 orc h ho hnew
  exact ⟨by rw [show k+(m+1)=k+1+m from by omega];exact g1,fun p hp=>g2 p (by simp [hp])⟩
end
section
variable {cx:Cx} {F:Nat→Prop} {ρ0:Nat→Value} {w0:World} {ops:Array Oper} {masks:List Nat} {base:Nat} {s:St} {recs:List Rec} {call:YA} {yc:Vj}
theorem EF {a b:Nat} (h:b≤a):Nat.blt a b=false:=by
 cases hh:Nat.blt a b with
 | false=>rfl
 | true=>rw [Nat.blt_eq] at hh;omega
def ins (S:Nat→Bool) (j:Nat):Nat→Bool:=fun i=>S i || Nat.beq i j
theorem VE {r:Rec} {b:Nat} (hb:look r.up b≠none) (hne:b≠base+r.i):YO base r=true:=by
 obtain ⟨k,hk⟩:=Y5 hb
 refine List.any_eq_true.2 ⟨_,hk,?_⟩
 simp only [Bool.not_eq_true']
 cases h:Nat.beq b (base+r.i) with
 | false=>rfl
 | true=>exact absurd (Q4 h) hne
theorem Qbf {r q:Rec} {b:Nat} (h:look q.up b≠none):Xi r q=true:=by
 unfold Xi
 split
 ·rename_i hu;rw [hu] at h;simp [look] at h
 ·rfl
theorem kJ {r q:Rec} {b:Nat} (ha:q.adr=false) (hb:look r.up b≠none) (h:∀ fs,q.fp=some fs→fs.contains b=true):Xi r q=true:=by
 unfold Xi
 split
 ·rename_i fs hf _
  obtain ⟨x,hx⟩:=Y5 hb
  exact List.any_eq_true.2 ⟨_,hx,by rw [ha,h fs hf];rfl⟩
 ·rfl
theorem Qak {r q:Rec} {b:Nat} {k:Blk} (hm:(b,k)∈r.up) (h:Xi r q=false) (hf:∀ fs,q.fp=some fs→fs.contains b=true):boxB k=true:=by
 unfold Xi at h
 split at h
 ·rename_i fs hfs _
  have:=List.any_eq_false.1 h _ hm
  simp only [hf fs hfs,Bool.true_and,Bool.not_eq_true,Bool.not_eq_false',Bool.and_eq_true] at this
  simpa using this.2
 ·cases h
theorem ww {α:Type}:∀ {l:List (Nat×α)} {b:Nat} {k:α},look l b=some k→(b,k)∈l
 | [],b,k,h=>by cases h
 | (c,x)::l,b,k,h=>by
  by_cases hc:c=b
  ·subst hc;rw [Qd] at h;cases h;exact List.mem_cons_self
  ·rw [Qb _ _ hc] at h;exact List.mem_cons_of_mem _ (ww h)
theorem Qbk (p:Rec→Bool) (b:Nat):∀ (recs:List Rec),recs.Pairwise (fun x y=>y.i < x.i)→(∀ r,r∈recs→p r=true→look r.up b=none) ∨
  ∃ R' k',R'∈recs∧p R'=true∧look R'.up b=some k'∧∀ r,r∈recs→p r=true→look r.up b≠none→r.i≤R'.i
 | [],_=>.inl fun _ h=>by cases h
 | r::l,hs=>by
  rw [List.pairwise_cons] at hs
  by_cases hp:p r=true∧look r.up b≠none
  ·right
   cases hk:look r.up b with
   | none=>exact absurd hk hp.2
   | some k' =>
    refine ⟨r,k',List.mem_cons_self,hp.1,hk,fun q hq _ _=>?_⟩
    rcases List.mem_cons.1 hq with rfl | hq
    ·exact Nat.le_refl _
    ·exact Nat.le_of_lt (hs.1 q hq)
  ·rcases Qbk p b l hs.2 with h | ⟨R',k',h1,h2,h3,h4⟩
   ·left
    intro q hq hpq
    rcases List.mem_cons.1 hq with rfl | hq
    ·cases hk:look q.up b with
     | none=>rfl
     | some k'=>exact absurd ⟨hpq,by rw [hk];simp⟩ hp
    ·exact h q hq hpq
   ·right
    refine ⟨R',k',List.mem_cons_of_mem _ h1,h2,h3,fun q hq hpq hn=>?_⟩
    rcases List.mem_cons.1 hq with rfl | hq
    ·exact absurd ⟨hpq,hn⟩ hp
    ·exact h4 q hq hpq hn
theorem Yk (fs:List Nat):∀ (hp:List (Nat×Blk)) (b:Nat) (k:Blk),look (hp.filter fun p=>fs.contains p.1) b=some k→fs.contains b=true∧look hp b=some k
 | [],b,k,h=>by simp [look] at h
 | (c,x)::hp,b,k,h=>by
  rw [List.filter_cons] at h
  by_cases hcb:c=b
  ·subst hcb
   split at h
   ·rename_i hc
    exact ⟨hc,by rw [Qd] at h ⊢;exact h⟩
   ·rename_i hc
    exact absurd (Yk fs hp c k h).1 hc
  ·split at h
   ·rw [Qb _ _ hcb] at h ⊢;exact Yk fs hp b k h
   ·rw [Qb _ _ hcb];exact Yk fs hp b k h
theorem ub (hd:DOk ops masks base s recs) {r q:Rec} (hr:r∈recs) (hq:q∈recs) {b:Nat} (hbr:look r.up b≠none) (hbq:look q.up b≠none) (hne:r.i≠q.i)
  (hri:r.i < ops.toList.length) (hqi:q.i < ops.toList.length) :
  Q3 masks r.i q.i=true ∨ Q3 masks q.i r.i=true:=by
 have key:∀ r q:Rec,r∈recs→q∈recs→look r.up b≠none→look q.up b≠none→r.i≠q.i→r.i < ops.toList.length→b=base+r.i→Q3 masks r.i q.i=true:=by
  intro r q hr hq hbr hbq hne hri he
  rcases hd.names q hq b hbq with ⟨h1,_⟩ | ⟨h1,h2 | ⟨i,hi,h2,h3⟩ | h2⟩
  ·omega
  ·exact absurd (he ▸ hd.free r.i hri) h2
  ·have:i=r.i:=by omega
   rw [← this];exact h3
  ·omega
 by_cases h1:b=base+r.i
 ·exact .inl (key r q hr hq hbr hbq hne hri h1)
 ·by_cases h2:b=base+q.i
  ·exact .inr (key q r hq hr hbq hbr (Ne.symm hne) hqi h2)
  ·have w1:=VE hbr h1
   have w2:=VE hbq h2
   have:=hd.blks r q hr hq
   simp only [Ur,Bool.or_eq_true,Bool.and_eq_true,Bool.not_eq_true',w1,hd.touch q hq w2,Qbf (r:=r) hbq] at this
   rcases this with ((h | h) | h) | h
   ·exact .inl h
   ·exact .inr h
   ·exact absurd (Q4 h) hne
   ·simp at h
theorem wG {ds0:List Deferred} (hrec:Recs cx call yc ops masks base s recs ops.toList.length) (hd:DOk ops masks base s recs) {S:Nat→Bool} {a:Act} {w' : World} {R:Rec} (hR:R∈recs) (hS:S R.i=false)
  (hclo:∀ j,S j=true→∀ i,Q3 masks i j=true→S i=true) (hpre:∀ i,Q3 masks i R.i=true→S i=true) {ρ' : Nat→Value} {v:Value}
  (hold:∀ t x,look s.tm t=some x→(∀ r,r∈recs→S r.i=true→r.dst≠some t)→VR w0 (MM F s.hp ρ0) s.hp ρ0 x (a.tmps.getD t undef))
  (hmov:∀ r,r∈recs→S r.i=true→∀ p t0 t x,nth ops.toList r.i=some p→p.op=.move (.tmp t0)→p.guard=none→p.dst=some t→(∀ q,q∈recs→q.i < r.i→q.dst≠some t0)→(∀ q,q∈recs→S q.i=true→q.dst=some t→q.i=r.i)→look s.tm t0=some x→VR w0 (MM F s.hp ρ0) s.hp ρ0 x (a.tmps.getD t undef))
  (hmv:∀ p t0,nth ops.toList R.i=some p→p.op=.move (.tmp t0)→p.guard=none→v=a.tmps.getD t0 undef)
  (hs:HSim cx F (R.up++hpS s recs S) ρ' w') (ht:TSim F (tmS s recs S) (R.up++hpS s recs S) ρ' a w') (hsz:a.tmps.size=s.nt) (hdf:a.defers=ds0) (hst:Steps1 s.hp ρ0 w0 (R.up++hpS s recs S) ρ' w')
  (hv:VR w' (MM F (R.up++hpS s recs S) ρ') (R.up++hpS s recs S) ρ' R.val v):DInv cx ops ds0 F ρ0 w0 masks s recs (ins S R.i) (a.put R.dst v) w':=by
 have hmlt:=VJ hd
 have hRi:=hrec.lt R hR
 have hlook:∀ b,look (hpS s recs (ins S R.i)) b=look (R.up++hpS s recs S) b:=by
  intro b
  rw [Zn]
  cases hu:look R.up b with
  | some k =>
   simp only
   refine Kb hu (by simp [ins]) recs hrec.sorted hR fun r hr hp hb=>?_
   by_cases he:r.i=R.i
   ·omega
   ·have hSr:S r.i=true:=by
     simp only [ins,Bool.or_eq_true] at hp
     rcases hp with h | h
     ·exact h
     ·exact absurd (Q4 h) he
    rcases ub hd hr hR hb (by rw [hu];simp) he (hrec.lt r hr) hRi with h | h
    ·have:=hmlt R.i hRi r.i (by rw [← QC];exact h);omega
    ·have:=hclo r.i hSr R.i h
     rw [hS] at this;cases this
  | none =>
   simp only
   refine VY recs fun r hr hb=>?_
   have hne:r≠R:=by intro e;subst e;exact hb hu
   have hi:r.i≠R.i:=fun e=>hne (hrec.uniq hr hR e)
   have:Nat.beq r.i R.i=false:=by
    cases h:Nat.beq r.i R.i with
    | false=>rfl
    | true=>exact absurd (Q4 h) hi
   simp [ins,this]
 have htl:∀ t,look (tmS s recs (ins S R.i)) t=if R.dst=some t then some R.val else look (tmS s recs S) t:=by
  intro t
  by_cases hdt:R.dst=some t
  ·rw [if_pos hdt]
   refine E7 hdt (by simp [ins]) recs hrec.sorted hR fun r hr hp hrt=>?_
   by_cases he:r.i=R.i
   ·omega
   ·have hSr:S r.i=true:=by
     simp only [ins,Bool.or_eq_true] at hp
     rcases hp with h | h
     ·exact h
     ·exact absurd (Q4 h) he
    have hap:=hd.tmps r.i R.i (hrec.lt r hr) hRi
    obtain ⟨_,_,_,h1,_⟩:=hrec.told r hr
    obtain ⟨_,x,hx,hxd⟩:=WF h1
    obtain ⟨_,_,_,h2,_⟩:=hrec.told R hR
    obtain ⟨_,y,hy,hyd⟩:=WF h2
    simp only [YQ,Bool.or_eq_true] at hap
    rcases hap with ((h | h) | h) | h
    ·have:=hmlt R.i hRi r.i (by rw [← QC];exact h);omega
    ·have:=hclo r.i hSr R.i h
     rw [hS] at this;cases this
    ·exact absurd (Q4 h) he
    ·rw [hx,hy] at h
     simp only [← hxd,← hyd,hrt,hdt,Nat.beq_refl,Bool.not_true,Bool.and_false] at h
     cases h
  ·rw [if_neg hdt]
   refine GM recs fun r hr hrt=>?_
   have hne:r≠R:=by intro e;subst e;exact hdt hrt
   have hi:r.i≠R.i:=fun e=>hne (hrec.uniq hr hR e)
   have:Nat.beq r.i R.i=false:=by
    cases h:Nat.beq r.i R.i with
    | false=>rfl
    | true=>exact absurd (Q4 h) hi
   simp [ins,this]
 obtain ⟨g1,g2⟩:=ZO hlook hs
 have hkeep:∀ t,R.dst≠some t→(a.put R.dst v).tmps.getD t undef=a.tmps.getD t undef:=by
  intro t hdt
  cases hdd:R.dst with
  | none=>rfl
  | some u =>
   simp only [Act.put]
   rw [Array.getD_eq_getD_getElem?,Array.getElem?_setIfInBounds,if_neg (by intro e;subst e;exact hdt hdd),← Array.getD_eq_getD_getElem?]
 refine ⟨fun j hj i hi=>?_,fun t x hx hno=>?_,fun r hr hSr p t0 t x hp hpo hpg hpd hq0 hq1 hx=>?_,ρ',g1,?_,by rw [kx];exact hsz,by rw [Vy];exact hdf,hst.trans g2⟩
 ·simp only [ins,Bool.or_eq_true] at hj ⊢
  rcases hj with h | h
  ·exact .inl (hclo j h i hi)
  ·have:=Q4 h;subst this
   exact .inl (hpre i hi)
 ·rw [hkeep t (hno R hR (by simp [ins]))]
  exact hold t x hx fun r hr hSr=>hno r hr (by simp [ins,hSr])
 ·by_cases he:r.i=R.i
  ·have hrR:=hrec.uniq hr hR he
   subst hrR
   obtain ⟨_,_,_,h1,_⟩:=hrec.told r hr
   obtain ⟨_,y,hy,hyd⟩:=WF h1
   rw [hp] at hy;cases hy
   have hdt:r.dst=some t:=by rw [hyd];exact hpd
   have hlt:=hd.dst r hr t hdt
   have hput:(a.put r.dst v).tmps.getD t undef=v:=by
    rw [hdt]
    simp only [Act.put]
    rw [Array.getD_eq_getD_getElem?,Array.getElem?_setIfInBounds,if_pos rfl,if_pos (by rw [hsz];exact hlt)];rfl
   rw [hput,hmv p t0 hp hpo hpg]
   refine hold t0 x hx fun q hq hSq hqd=>?_
   by_cases hlt2:q.i < r.i
   ·exact hq0 q hq hlt2 hqd
   ·have hne:q.i≠r.i:=fun e=>by rw [e,hS] at hSq;cases hSq
    have hap:=hd.tmps q.i r.i (hrec.lt q hq) hRi
    obtain ⟨_,_,_,h2,_⟩:=hrec.told q hq
    obtain ⟨_,z,hz,hzd⟩:=WF h2
    simp only [YQ,Bool.or_eq_true] at hap
    rcases hap with ((h | h) | h) | h
    ·have:=hmlt r.i hRi q.i (by rw [← QC];exact h);omega
    ·have:=hclo q.i hSq r.i h
     rw [hS] at this;cases this
    ·exact absurd (Q4 h) hne
    ·rw [hz,hp] at h
     simp only [← hzd,hqd,Bool.and_eq_true,Bool.not_eq_true'] at h
     have hmem:(YW p ops).contains t0=true:=by
      rw [List.contains_iff_mem]
      unfold YW
      refine List.mem_append_left _ (List.mem_filterMap.2 ⟨.tmp t0,?_,rfl⟩)
      rw [hpo]
      simp [Op.operands]
     rw [hmem] at h
     cases h.1
  ·have hSr' : S r.i=true:=by
    simp only [ins,Bool.or_eq_true] at hSr
    rcases hSr with h | h
    ·exact h
    ·exact absurd (Q4 h) he
   have hdt:R.dst≠some t:=fun h=>he (hq1 R hR (by simp [ins]) h).symm
   rw [hkeep t hdt]
   exact hmov r hr hSr' p t0 t x hp hpo hpg hpd hq0 (fun q hq hSq=>hq1 q hq (by simp [ins,hSq])) hx
 ·intro t x hx
  rw [htl] at hx
  by_cases hdt:R.dst=some t
  ·rw [if_pos hdt] at hx
   simp only [Option.some.injEq] at hx;subst hx
   have hlt:=hd.dst R hR t hdt
   rw [hdt]
   simp only [Act.put]
   rw [Array.getD_eq_getD_getElem?,Array.getElem?_setIfInBounds,if_pos rfl,if_pos (by rw [hsz];exact hlt)]
   exact g2.vr hv
  ·rw [if_neg hdt] at hx
   have:(a.put R.dst v).tmps.getD t undef=a.tmps.getD t undef:=by
    cases hdd:R.dst with
    | none=>rfl
    | some u =>
     simp only [Act.put]
     rw [Array.getD_eq_getD_getElem?,Array.getElem?_setIfInBounds,if_neg (by intro e;subst e;exact hdt hdd),← Array.getD_eq_getD_getElem?]
   rw [this]
   exact g2.vr (ht t x hx)
theorem zJ {tm tm' : List (Nat×AV)} {o:Oper} (h:∀ t,t∈YW o ops→look tm t=look tm' t):Ue ops tm o=Ue ops tm' o:=by
 unfold Ue
 split
 ·rfl
 ·rename_i j want hg
  split
  ·rfl
  ·rename_i g hj
   split
   ·rfl
   ·rename_i d hdd
    rw [h d (by simp [YW,hg,hj,hdd])]
theorem Gc {tm tm' : List (Nat×AV)} {o:Oper} (h:∀ t,t∈YW o ops→look tm t=look tm' t):∀ x,x∈o.op.operands.toList→evA cx tm x=evA cx tm' x:=by
 intro x hx
 cases x with
 | tmp t =>
  simp only [evA]
  rw [h t (by simp only [YW,List.mem_append,List.mem_filterMap];exact .inl ⟨_,hx,rfl⟩)]
 | _=>rfl
theorem Qan (hrec:Recs cx call yc ops masks base s recs ops.toList.length) (hd:DOk ops masks base s recs) {S:Nat→Bool} {R:Rec} (hR:R∈recs) (hS:S R.i=false)
  (hclo:∀ j,S j=true→∀ i,Q3 masks i j=true→S i=true) (hpre:∀ i,Q3 masks i R.i=true→S i=true) {o:Oper} (ho:nth ops.toList R.i=some o) :
  ∀ t,t∈YW o ops→look (WM (recs.filter fun q=>Nat.blt q.i R.i)++s.tm) t=look (tmS s recs S) t:=by
 intro t ht
 refine GM recs fun r hr hrt=>?_
 by_cases he:r.i=R.i
 ·rw [he,hS]
  exact EF (by omega)
 ·have hap:=hd.tmps r.i R.i (hrec.lt r hr) (hrec.lt R hR)
  obtain ⟨_,_,_,h1,_⟩:=hrec.told r hr
  obtain ⟨_,x,hx,hxd⟩:=WF h1
  simp only [YQ,Bool.or_eq_true] at hap
  rcases hap with ((h | h) | h) | h
  ·have:=VJ hd R.i (hrec.lt R hR) r.i (by rw [← QC];exact h)
   rw [hpre r.i h]
   simpa [Nat.blt_eq] using this
  ·have hlt:=VJ hd r.i (hrec.lt r hr) R.i (by rw [← QC];exact h)
   have hSr:S r.i=false:=by
    cases hh:S r.i with
    | false=>rfl
    | true=>have:=hclo r.i hh R.i h;rw [hS] at this;cases this
   rw [hSr]
   exact EF (by omega)
  ·exact absurd (Q4 h) he
  ·rw [hx,ho] at h
   simp only [← hxd,hrt] at h
   simp only [Bool.and_eq_true,Bool.not_eq_true'] at h
   have:(YW o ops).contains t=true:=by simpa using ht
   rw [this] at h
   exact absurd h.1 (by simp)
theorem GC {R:Rec} {o:Oper} (ho:nth ops.toList R.i=some o):W6 ops R.i=qs o:=by simp [W6,ho]
theorem yD (hrec:Recs cx call yc ops masks base s recs ops.toList.length) (hd:DOk ops masks base s recs) {S:Nat→Bool} {R:Rec} (hR:R∈recs) (hS:S R.i=false)
  (hclo:∀ j,S j=true→∀ i,Q3 masks i j=true→S i=true) (hpre:∀ i,Q3 masks i R.i=true→S i=true) {o:Oper} (ho:nth ops.toList R.i=some o) {mask:Nat} (hm:nth masks R.i=some mask) (hadr:R.adr=false) :
  WV (JB masks s (recs.filter fun q=>Nat.blt q.i R.i) o mask R.fp) (hpS s recs S):=by
 intro b k hb
 unfold JB at hb
 split at hb
 case h_2=>simp [look] at hb
 rename_i htch
 have hfb:(∀ fs,R.fp=some fs→fs.contains b=true)∧look (Zy (Yu mask (recs.filter fun q=>Nat.blt q.i R.i))++s.hp) b=some k:=by
  split at hb
  ·rename_i hf;exact ⟨fun fs h=>(by rw [hf] at h;cases h),hb⟩
  ·rename_i fs hf
   obtain ⟨g1,g2⟩:=Yk fs _ b k hb
   exact ⟨fun fs' h=>(by rw [hf] at h;cases h;exact g1),g2⟩
 obtain ⟨hfb,hb⟩:=hfb
 rw [VI,List.filter_filter] at hb
 have hma:ZP masks R.i=mask:=by simp [ZP,hm]
 rw [← hb]
 refine (VY recs fun r hr hrb=>?_).symm
 -- the writers of b are the same
 have hri:=hrec.lt r hr
 have hRi:=hrec.lt R hR
 have htR:W6 ops R.i=true:=by rw [GC ho];exact htch
 by_cases hin:Q3 masks r.i R.i=true
 ·have hlt:=VJ hd R.i hRi r.i (by rw [← QC];exact hin)
  rw [hpre r.i hin]
  rw [QC,hma] at hin
  rw [hin]
  simpa [Nat.blt_eq] using hlt
 ·have hSr:S r.i=false:=by
   cases hh:S r.i with
   | false=>rfl
   | true =>
    exfalso
    have hRr:¬ Q3 masks R.i r.i=true:=fun h=>by have:=hclo r.i hh R.i h;rw [hS] at this;cases this
    have hne:r.i≠R.i:=fun e=>by rw [e,hS] at hh;cases hh
    rcases hd.names r hr b hrb with ⟨h1,h2⟩ | ⟨h1,_⟩
    ·-- r's own new block: whoever sees it comes behind r
     rcases WN recs hb with ⟨q,hq,hqp,hqb⟩ | hb'
     ·simp only [Bool.and_eq_true] at hqp
      have hqR:Q3 masks q.i R.i=true:=by rw [QC,hma];exact hqp.1
      by_cases hqr:q.i=r.i
      ·rw [hqr] at hqR;exact hin hqR
      ·rcases hd.names q hq b hqb with ⟨g1,_⟩ | ⟨g1,g2 | ⟨i,hi,g2,g3⟩ | g2⟩
       ·omega
       ·exact g2 h2
       ·have:i=r.i:=by omega
        subst this
        have hq2:=VJ hd R.i hRi q.i (by rw [← QC];exact hqR)
        have:=hd.trans R.i hRi q.i hq2 (by rw [← QC];exact hqR) r.i (by rw [← QC];exact g3)
        rw [← QC] at this
        exact hin this
       ·omega
     ·rw [h2] at hb';cases hb'
    ·have w1:=VE hrb h1
     have:=hd.blks r R hr hR
     simp only [Ur,Bool.or_eq_true,Bool.and_eq_true,Bool.not_eq_true',w1,htR,kJ hadr hrb hfb] at this
     rcases this with ((h | h) | h) | h
     ·exact hin h
     ·exact hRr h
     ·exact hne (Q4 h)
     ·simp at h
  rw [hSr]
  have:mask.testBit r.i=false:=by
   cases h:mask.testBit r.i with
   | false=>rfl
   | true=>exact absurd (by rw [QC,hma];exact h) hin
  simp [this]
theorem yE (hrec:Recs cx call yc ops masks base s recs ops.toList.length) (hd:DOk ops masks base s recs) {S:Nat→Bool} {R:Rec} (hR:R∈recs) (hS:S R.i=false)
  (hclo:∀ j,S j=true→∀ i,Q3 masks i j=true→S i=true) (hpre:∀ i,Q3 masks i R.i=true→S i=true) {o:Oper} (ho:nth ops.toList R.i=some o) {mask:Nat} (hm:nth masks R.i=some mask) {b:Nat} {k:Blk}
  (hb:look (JB masks s (recs.filter fun q=>Nat.blt q.i R.i) o mask R.fp) b=some k) (hk:boxB k=true):∃ k',look (hpS s recs S) b=some k'∧boxB k'=true:=by
 unfold JB at hb
 split at hb
 case h_2=>simp [look] at hb
 rename_i htch
 have hfb:(∀ fs,R.fp=some fs→fs.contains b=true)∧look (Zy (Yu mask (recs.filter fun q=>Nat.blt q.i R.i))++s.hp) b=some k:=by
  split at hb
  ·rename_i hf;exact ⟨fun fs h=>(by rw [hf] at h;cases h),hb⟩
  ·rename_i fs hf
   obtain ⟨g1,g2⟩:=Yk fs _ b k hb
   exact ⟨fun fs' h=>(by rw [hf] at h;cases h;exact g1),g2⟩
 obtain ⟨hfb,hb⟩:=hfb
 rw [VI,List.filter_filter] at hb
 have hma:ZP masks R.i=mask:=by simp [ZP,hm]
 have hRi:=hrec.lt R hR
 have htR:W6 ops R.i=true:=by rw [GC ho];exact htch
 have toS:∀ q:Rec,(mask.testBit q.i && Nat.blt q.i R.i)=true→S q.i=true:=fun q hq=>by
  simp only [Bool.and_eq_true] at hq
  exact hpre q.i (by rw [QC,hma];exact hq.1)
 rcases Qbk (fun r=>S r.i) b recs hrec.sorted with hnone | ⟨Q,k',hQ,hSQ,hQb,hlast⟩
 ·have e1:look (Zy (recs.filter fun r=>S r.i)++s.hp) b=look (Zy (recs.filter fun _=>false)++s.hp) b:=VY recs fun r hr hrb=>by
   cases h:S r.i with
   | false=>rfl
   | true=>exact absurd (hnone r hr h) hrb
  have e2:look (Zy (recs.filter fun q=>mask.testBit q.i && Nat.blt q.i R.i)++s.hp) b=look (Zy (recs.filter fun _=>false)++s.hp) b:=VY recs fun r hr hrb=>by
   cases h:(mask.testBit r.i && Nat.blt r.i R.i) with
   | false=>rfl
   | true=>exact absurd (hnone r hr (toS r h)) hrb
  refine ⟨k,?_,hk⟩
  show look (Zy (recs.filter fun r=>S r.i)++s.hp) b=some k
  rw [e1,← e2];exact hb
 ·have hl:look (hpS s recs S) b=some k':=Kb (p:=fun r=>S r.i) hQb hSQ recs hrec.sorted hQ hlast
  refine ⟨k',hl,?_⟩
  by_cases hin:Q3 masks Q.i R.i=true
  ·have hlt:=VJ hd R.i hRi Q.i (by rw [← QC];exact hin)
   have hpm:(mask.testBit Q.i && Nat.blt Q.i R.i)=true:=by
    rw [QC,hma] at hin
    rw [hin]
    simpa [Nat.blt_eq] using hlt
   have:=Kb (p:=fun q=>mask.testBit q.i && Nat.blt q.i R.i) (hp:=s.hp) hQb hpm recs hrec.sorted hQ (fun r hr hp hn=>hlast r hr (toS r hp) hn)
   rw [this] at hb
   cases hb
   exact hk
  ·have hRr:¬ Q3 masks R.i Q.i=true:=fun h=>by have:=hclo Q.i hSQ R.i h;rw [hS] at this;cases this
   have hne:Q.i≠R.i:=fun e=>by rw [e,hS] at hSQ;cases hSQ
   have hrb:look Q.up b≠none:=by rw [hQb];simp
   rcases hd.names Q hQ b hrb with ⟨h1,h2⟩ | ⟨h1,_⟩
   ·exfalso
    rcases WN recs hb with ⟨q,hq,hqp,hqb⟩ | hb'
    ·simp only [Bool.and_eq_true] at hqp
     have hqR:Q3 masks q.i R.i=true:=by rw [QC,hma];exact hqp.1
     by_cases hqr:q.i=Q.i
     ·rw [hqr] at hqR;exact hin hqR
     ·rcases hd.names q hq b hqb with ⟨g1,_⟩ | ⟨g1,g2 | ⟨i,hi,g2,g3⟩ | g2⟩
      ·omega
      ·exact g2 h2
      ·have:i=Q.i:=by omega
       subst this
       have hq2:=VJ hd R.i hRi q.i (by rw [← QC];exact hqR)
       have:=hd.trans R.i hRi q.i hq2 (by rw [← QC];exact hqR) Q.i (by rw [← QC];exact g3)
       rw [← QC] at this
       exact hin this
      ·have:=hrec.lt Q hQ;omega
    ·rw [h2] at hb';cases hb'
   ·have w1:=VE hrb h1
    have:=hd.blks Q R hQ hR
    simp only [Ur,Bool.or_eq_true,Bool.and_eq_true,Bool.not_eq_true',w1,htR] at this
    rcases this with ((h | h) | h) | h
    ·exact absurd h hin
    ·exact absurd h hRr
    ·exact absurd (Q4 h) hne
    ·have hm2:Xi Q R=false:=by simpa using h.1
     exact Qak (ww hQb) hm2 hfb
theorem kD (hrec:Recs cx call yc ops masks base s recs ops.toList.length) (hd:DOk ops masks base s recs) {S:Nat→Bool} {R:Rec} (hR:R∈recs) (hS:S R.i=false)
  (hclo:∀ j,S j=true→∀ i,Q3 masks i j=true→S i=true):look (hpS s recs S) (base+R.i)=none:=by
 cases h:look (hpS s recs S) (base+R.i) with
 | none=>rfl
 | some k =>
  exfalso
  rcases WN recs h with ⟨r,hr,hp,hb⟩ | hb
  ·have hne:r.i≠R.i:=fun e=>by rw [e,hS] at hp;cases hp
   rcases hd.names r hr _ hb with ⟨h1,_⟩ | ⟨h1,h2 | ⟨i,hi,h2,h3⟩ | h2⟩
   ·omega
   ·exact h2 (hd.free R.i (hrec.lt R hR))
   ·have:i=R.i:=by omega
    subst this
    have:=hclo r.i hp _ h3
    rw [hS] at this;cases this
   ·have:=hrec.lt R hR;omega
  ·rw [hd.free R.i (hrec.lt R hR)] at hb;cases hb
mutual
theorem VR.shrink {w:World} {M M2:Nat→Prop} {Hh hp' : List (Nat×Blk)} {ρ ρ' : Nat→Value} (hag:∀ b k,look Hh b=some k→look hp' b=some k∧ρ' b=ρ b) (hM:∀ r,r < w.heap.size→M2 r→M r) :
  ∀ (x:AV) (y:Value),x.inH Hh=true→VR w M hp' ρ' x y→VR w M2 Hh ρ x y
 | .d x,y,_,h=>by
  cases h with
  | d _ _ h=>exact .d _ _ (h.ext (Nat.le_refl _) (fun _ _ _=>rfl) hM)
 | .agg cs,y,hi,h=>by
  cases h with
  | agg _ ys hl hh=>exact .agg cs ys hl (VR.shrinks hag hM cs ys (by simpa [AV.inH] using hi) hh)
 | .tup cs,y,hi,h=>by
  cases h with
  | tup _ ys hl hh=>exact .tup cs ys hl (VR.shrinks hag hM cs ys (by simpa [AV.inH] using hi) hh)
 | .dptr x o,y,_,h=>by
  cases h with
  | dptr _ _ blk o' hd=>exact .dptr _ _ _ _ (hd.ext (Nat.le_refl _) (fun _ _ _=>rfl) hM)
 | .ptr b ver sz i off,y,hi,h=>by
  cases h with
  | ptr _ _ _ _ _ k _ hb hv ho hh =>
   have hn:=Wp.1 (by simpa [AV.inH] using hi:ZN Hh b=true)
   cases hl:look Hh b with
   | none=>exact absurd hl hn
   | some k' =>
    obtain ⟨h1,h2⟩:=hag b k' hl
    rw [h1] at hb;cases hb
    exact .ptr b ver sz i off k y hl hv ho fun he=>by
     obtain ⟨r,hr,hy⟩:=hh he
     exact ⟨r,by rw [← h2];exact hr,hy⟩
 | .own b ver,y,hi,h=>by
  cases h with
  | own _ _ k _ hb hv ho hh =>
   have hn:=Wp.1 (by simpa [AV.inH] using hi:ZN Hh b=true)
   cases hl:look Hh b with
   | none=>exact absurd hl hn
   | some k' =>
    obtain ⟨h1,h2⟩:=hag b k' hl
    rw [h1] at hb;cases hb
    exact .own b ver k y hl hv ho fun he=>by rw [← h2];exact hh he
 | .sub b ver sz lo n,y,hi,h=>by
  cases h with
  | sub _ _ _ _ _ k _ hb hv ho hh =>
   have hn:=Wp.1 (by simpa [AV.inH] using hi:ZN Hh b=true)
   cases hl:look Hh b with
   | none=>exact absurd hl hn
   | some k' =>
    obtain ⟨h1,h2⟩:=hag b k' hl
    rw [h1] at hb;cases hb
    exact .sub b ver sz lo n k y hl hv ho fun he=>by
     obtain ⟨r,c,hr,hy⟩:=hh he
     exact ⟨r,c,by rw [← h2];exact hr,hy⟩
 | .fn f p q,y,hi,h=>by
  cases h with
  | fn _ _ _ xs ys hl hm hh hk =>
   simp only [AV.inH,Bool.and_eq_true] at hi
   exact .fn f p q xs ys hl hm (VR.shrinks hag hM p xs hi.1 hh) (VR.shrinks hag hM q ys hi.2 hk)
 | .junk,y,_,_=>.junk y
theorem VR.shrinks {w:World} {M M2:Nat→Prop} {Hh hp' : List (Nat×Blk)} {ρ ρ' : Nat→Value} (hag:∀ b k,look Hh b=some k→look hp' b=some k∧ρ' b=ρ b) (hM:∀ r,r < w.heap.size→M2 r→M r) :
  ∀ (cs:List AV) (ys:List Value),kN Hh cs=true→(∀ (i:Nat) (c:AV) (y:Value),cs[i]?=some c→ys[i]?=some y→VR w M hp' ρ' c y) →
   ∀ (i:Nat) (c:AV) (y:Value),cs[i]?=some c→ys[i]?=some y→VR w M2 Hh ρ c y
 | [],ys,_,_=>by intro i c y hc;simp at hc
 | x::cs,ys,hi,hh=>by
  intro i c y hc hy
  simp only [kN,Bool.and_eq_true] at hi
  cases i with
  | zero =>
   simp only [List.getElem?_cons_zero,Option.some.injEq] at hc;subst hc
   exact VR.shrink hag hM x y hi.1 (hh 0 x y rfl hy)
  | succ i =>
   cases ys with
   | nil=>simp at hy
   | cons z ys=>exact VR.shrinks hag hM cs ys hi.2 (fun i c y hc hy=>hh (i+1) c y (by simpa using hc) (by simpa using hy)) i c y (by simpa using hc) (by simpa using hy)
end
theorem HSim.glue {H G:List (Nat×Blk)} {ρ ρ1:Nat→Value} {w1 w2:World} (hG:HSim cx F G ρ1 w1) (hag:∀ b k,look H b=some k→look G b=some k∧ρ1 b=ρ b)
  (hH' : HSim cx (fun r=>F r ∨ (Mut G ρ1 r∧¬ Mut H ρ r)) H ρ w2) (hx:Ext w1 (Mut H ρ) w2):HSim cx F G ρ1 w2∧Steps1 G ρ1 w1 G ρ1 w2:=by
 have hmut:∀ r,Mut H ρ r→Mut G ρ1 r:=by
  rintro r ⟨b,k,hb,hm,hr⟩
  obtain ⟨h1,h2⟩:=hag b k hb
  exact ⟨b,k,h1,hm,by rw [h2];exact hr⟩
 have hMM:∀ r,MM F G ρ1 r→MM (fun r=>F r ∨ (Mut G ρ1 r∧¬ Mut H ρ r)) H ρ r:=by
  rintro r (h | h)
  ·exact .inl (.inl h)
  ·by_cases hh:Mut H ρ r
   ·exact .inr hh
   ·exact .inl (.inr ⟨h,hh⟩)
 have hgr:Grows H G ρ ρ1:=⟨fun b k hb=>⟨k,(hag b k hb).1,Nat.le_refl _,fun _=>(hag b k hb).2⟩⟩
 have hst:Steps1 G ρ1 w1 G ρ1 w2:=⟨hx.mono hmut,fun _ _ h=>h,Grows.refl _ _⟩
 refine ⟨hG.step hst (fun b k hb=>?_) hG.inj hG.forb,hst⟩
 cases hl:look H b with
 | some k' =>
  obtain ⟨h1,h2⟩:=hag b k' hl
  rw [h1] at hb;cases hb
  right
  exact (hH'.blk b k hl).ext (Nat.le_refl _) (fun _ _ _=>rfl) (fun r _ h=>hMM r h) hgr h2 (fun _ _ _=>rfl)
 | none =>
  left
  refine ⟨hb,rfl,fun hm r hr=>?_⟩
  have hlt:=(hG.blk b k hb).root_lt hm hr
  refine hx.same r hlt ?_
  rintro ⟨b',k',hb',hm',hr'⟩
  obtain ⟨h1,h2⟩:=hag b' k' hb'
  have:=hG.inj b b' k k' r hb h1 hm hm' hr (by rw [h2];exact hr')
  subst this
  rw [hl] at hb';cases hb'
theorem HSim.gluE {H G:List (Nat×Blk)} {ρ ρ1:Nat→Value} {w1 w2:World} {E:Nat→Prop} (hG:HSim cx F G ρ1 w1) (hag:∀ b k,look H b=some k→look G b=some k∧ρ1 b=ρ b)
  (hH' : HSim cx (fun r=>(F r ∨ (Mut G ρ1 r∧¬ Mut H ρ r)) ∨ E r) H ρ w2) (hx:Ext w1 (Mut H ρ) w2) (hE:∀ r,E r→w1.heap.size≤r) :
  HSim cx (fun r=>F r ∨ E r) G ρ1 w2∧Steps1 G ρ1 w1 G ρ1 w2:=by
 have hmut:∀ r,Mut H ρ r→Mut G ρ1 r:=by
  rintro r ⟨b,k,hb,hm,hr⟩
  obtain ⟨h1,h2⟩:=hag b k hb
  exact ⟨b,k,h1,hm,by rw [h2];exact hr⟩
 have hMM:∀ r,MM (fun r=>F r ∨ E r) G ρ1 r→MM (fun r=>(F r ∨ (Mut G ρ1 r∧¬ Mut H ρ r)) ∨ E r) H ρ r:=by
  rintro r ((h | h) | h)
  ·exact .inl (.inl (.inl h))
  ·exact .inl (.inr h)
  ·by_cases hh:Mut H ρ r
   ·exact .inr hh
   ·exact .inl (.inl (.inr ⟨h,hh⟩))
 have hMG:∀ r,r < w1.heap.size→MM (fun r=>F r ∨ E r) G ρ1 r→MM F G ρ1 r:=by
  rintro r hr ((h | h) | h)
  ·exact .inl h
  ·have:=hE r h;omega
  ·exact .inr h
 have hgr:Grows H G ρ ρ1:=⟨fun b k hb=>⟨k,(hag b k hb).1,Nat.le_refl _,fun _=>(hag b k hb).2⟩⟩
 have hst:Steps1 G ρ1 w1 G ρ1 w2:=⟨hx.mono hmut,fun _ _ h=>h,Grows.refl _ _⟩
 have hc:∀ r,r < w1.heap.size→¬ MM F G ρ1 r→w2.heap[r]?=w1.heap[r]?:=fun r hr hn=>hx.same r hr fun hm=>hn (.inr (hmut r hm))
 refine ⟨⟨fun b k hb=>?_,hG.inj,fun r hr hf=>?_,fun r hr=>?_,fun g x hg=>(hG.glob g x hg).ext hx.size hc hMG⟩,hst⟩
 ·cases hl:look H b with
  | some k' =>
   obtain ⟨h1,h2⟩:=hag b k' hl
   rw [h1] at hb;cases hb
   exact (hH'.blk b k hl).ext (Nat.le_refl _) (fun _ _ _=>rfl) (fun r _ h=>hMM r h) hgr h2 (fun _ _ _=>rfl)
  | none =>
   refine (hG.blk b k hb).ext hx.size hc hMG (Grows.refl _ _) rfl fun hm r hr=>?_
   have hlt:=(hG.blk b k hb).root_lt hm hr
   refine hx.same r hlt ?_
   rintro ⟨b',k',hb',hm',hr'⟩
   obtain ⟨h1,h2⟩:=hag b' k' hb'
   have:=hG.inj b b' k k' r hb h1 hm hm' hr (by rw [h2];exact hr')
   subst this
   rw [hl] at hb';cases hb'
 ·rcases hf with hf | hf
  ·exact hG.forb r hr hf
  ·have:=hG.mut_lt hr
   have:=hE r hf
   omega
 ·rcases hr with hr | hr
  ·exact Nat.lt_of_lt_of_le (hG.bnd r hr) hx.size
  ·exact hH'.bnd r (.inr hr)
end
section
variable {cx:Cx} {F:Nat→Prop} {ρ0:Nat→Value} {w0:World} {ops:Array Oper} {masks:List Nat} {base:Nat} {s:St} {recs:List Rec} {call:YA} {yc:Vj}
theorem HSim.back {H G:List (Nat×Blk)} {ρ0 ρ1:Nat→Value} {w0 w1:World} (h:HSim cx F H ρ0 w0) (hG:HSim cx F G ρ1 w1) (hst:Steps1 H ρ0 w0 G ρ1 w1) (hsub:WV H G) :
  HSim cx (fun r=>F r ∨ (Mut G ρ1 r∧¬ Mut H ρ0 r)) H ρ0 w1∧(∀ b k,look H b=some k→look G b=some k∧ρ1 b=ρ0 b):=by
 have hag:∀ b k,look H b=some k→look G b=some k∧ρ1 b=ρ0 b:=by
  intro b k hb
  obtain ⟨k',h1,h2,h3⟩:=hst.grow.dom b k hb
  have h4:=hsub b k hb
  rw [h1] at h4;cases h4
  exact ⟨h1,h3 rfl⟩
 have hmut:∀ r,Mut H ρ0 r→Mut G ρ1 r:=by
  rintro r ⟨b,k,hb,hm,hr⟩
  obtain ⟨h1,h2⟩:=hag b k hb
  exact ⟨b,k,h1,hm,by rw [h2];exact hr⟩
 have hMM:∀ r,r < w1.heap.size→MM (fun r=>F r ∨ (Mut G ρ1 r∧¬ Mut H ρ0 r)) H ρ0 r→MM F G ρ1 r:=by
  rintro r _ ((h | h) | h)
  ·exact .inl h
  ·exact .inr h.1
  ·exact .inr (hmut r h)
 refine ⟨⟨fun b k hb=>?_,h.inj,fun r hr hf=>?_,fun r hr=>?_,fun g x hg=>?_⟩,hag⟩
 ·obtain ⟨h1,h2⟩:=hag b k hb
  have hB:=h.blk b k hb
  have hB':=hG.blk b k h1
  cases k with
  | box x =>
   obtain ⟨r,e,v,cs,q1,q2,q3,q4⟩:=hB'
   obtain ⟨_,_,v0,_,_,_,_,p4⟩:=hB
   exact ⟨r,e,v,cs,by rw [← h2];exact q1,q2,q3,VR.restrict hag hMM p4 v q4⟩
  | loop rdy tm ps as bd nt =>
   obtain ⟨l,rc,q1,q3,q4,q5,q6,q7,q8,q9,q10⟩:=hB'
   obtain ⟨_,_,_,_,_,_,_,_,_,_,p10⟩:=hB
   exact ⟨l,rc,by rw [← h2];exact q1,q3,q4,q5,q6,q7,q8,q9,fun t x hx=>VR.restrict hag hMM (p10 t x hx) _ (q10 t x hx)⟩
  | mp es =>
   obtain ⟨r,es',c,q1,q2,q3⟩:=hB'
   exact ⟨r,es',c,by rw [← h2];exact q1,q2,q3.ext (Nat.le_refl _) (fun _ _ _=>rfl) hMM⟩
  | it s p =>
   obtain ⟨r,q1,q2⟩:=hB'
   exact ⟨r,by rw [← h2];exact q1,q2⟩
  | left e =>
   obtain ⟨l,rc,q1,q3,q4⟩:=hB'
   exact ⟨l,rc,by rw [← h2];exact q1,q3,q4⟩
  | fbox x =>
   obtain ⟨r,q1,q2⟩:=hB'
   exact ⟨r,by rw [← h2];exact q1,q2.ext (Nat.le_refl _) (fun _ _ _=>rfl) hMM⟩
  | dead=>trivial
  | row ver sz es =>
   rcases hB' with ⟨q0,a0,q1⟩ | ⟨r,c,e,cap,q1,q2,q3,q4,q5,q6⟩
   ·exact .inl ⟨q0,a0,by rw [← h2];exact q1⟩
   refine .inr ⟨r,c,e,cap,by rw [← h2];exact q1,q2,q3,q4,q5,fun i d j a hd ha=>?_⟩
   obtain ⟨y,y1,y2,y3⟩:=q6 i d j a hd ha
   exact ⟨y,y1,y2,y3.ext (Nat.le_refl _) (fun _ _ _=>rfl) hMM⟩
  | frozen ver sz es =>
   simp only [BlkR] at hB' ⊢
   rw [← h2];exact hB'.ext (Nat.le_refl _) (fun _ _ _=>rfl) hMM
  | virt ver sz es =>
   simp only [BlkR] at hB' ⊢
   rw [← h2];exact hB'.ext (Nat.le_refl _) (fun _ _ _=>rfl) hMM
 ·rcases hf with hf | hf
  ·exact hG.forb r (hmut r hr) hf
  ·exact hf.2 hr
 ·rcases hr with hr | hr
  ·exact hG.bnd r hr
  ·exact hG.mut_lt hr.1
 ·exact (hG.glob g x hg).ext (Nat.le_refl _) (fun _ _ _=>rfl) hMM
theorem E3 {p q:Rec→Bool}:∀ {l:List Rec},(∀ r,r∈l→r.up=[] ∨ p r=q r)→Zy (l.filter p)=Zy (l.filter q)
 | [],_=>rfl
 | r::l,h=>by
  have ih:=E3 (l:=l) fun r hr=>h r (List.mem_cons_of_mem _ hr)
  simp only [List.filter_cons]
  rcases h r List.mem_cons_self with h1 | h1
  ·split <;> split <;> simp only [Zy,h1,List.nil_append,ih]
  ·rw [h1];split <;> simp only [Zy,ih]
theorem kO (hrec:Recs cx call yc ops masks base s recs ops.toList.length) (hd:DOk ops masks base s recs) {S:Nat→Bool} {R:Rec} (hR:R∈recs) (hS:S R.i=false)
  (hclo:∀ j,S j=true→∀ i,Q3 masks i j=true→S i=true) (hpre:∀ i,Q3 masks i R.i=true→S i=true) {mask:Nat} (hmask:nth masks R.i=some mask) (hpiv:R.piv=true) :
  Zy (Yu mask (recs.filter fun q=>Nat.blt q.i R.i))++s.hp=hpS s recs S:=by
 unfold hpS
 congr 1
 rw [VI,List.filter_filter]
 refine E3 fun q hq=>?_
 have hma:ZP masks R.i=mask:=by simp [ZP,hmask]
 have hRi:=hrec.lt R hR
 by_cases hqR:q.i=R.i
 ·right
  rw [hqR,hS]
  have:Nat.blt R.i R.i=false:=by rw [← Bool.not_eq_true];intro h;rw [Nat.blt_eq] at h;omega
  rw [this,Bool.and_false]
 ·rcases hd.pivs R hR hpiv q hq with h | h | h | h
  ·exact absurd h hqR
  ·right
   rw [hpre q.i h]
   have hlt:=VJ hd R.i hRi q.i (by rw [← QC];exact h)
   rw [QC,hma] at h
   rw [h]
   simpa [Nat.blt_eq] using hlt
  ·right
   have hSq:S q.i=false:=by
    cases hh:S q.i with
    | false=>rfl
    | true=>have:=hclo q.i hh R.i h;rw [hS] at this;cases this
   have hlt:=VJ hd q.i (hrec.lt q hq) R.i (by rw [← QC];exact h)
   have:Nat.blt q.i R.i=false:=by rw [← Bool.not_eq_true];intro h;rw [Nat.blt_eq] at h;omega
   rw [hSq,this,Bool.and_false]
  ·exact .inl h
theorem yV {H u:List (Nat×Blk)} {rc:RC} (h:QbF H rc=some u) (hs:rc.sfx=true→∀ h,rc.full=some h→∃ new,h=new++H):u++H=rc.heap H ∨ rc.full=some u:=by
 unfold QbF at h
 unfold RC.heap
 cases hf:rc.full with
 | none =>
  rw [hf] at h
  simp only [Option.some.injEq] at h
  left
  rw [← h]
 | some g =>
  cases hx:rc.sfx with
  | false=>rw [hf,hx] at h;cases h;exact .inr rfl
  | true =>
   left
   rw [hf,hx] at h
   simp only [Option.some.injEq] at h
   obtain ⟨new,hn⟩:=hs hx g hf
   rw [← h,hn]
   simp
theorem yr {rr:Option Nat} {m:Nat} {ds0:List Deferred} (hcall:zG cx call) (hcs:Gg call) (hyc:XK cx yc) (hrec:Recs cx call yc ops masks base s recs ops.toList.length) (hd:DOk ops masks base s recs) (h0:HSim cx F s.hp ρ0 w0) {S:Nat→Bool} {a:Act} {w:World}
    (hinv:DInv cx ops ds0 F ρ0 w0 masks s recs S a w) {R:Rec} (hR:R∈recs) (hS:S R.i=false) (hpre:∀ i,Q3 masks i R.i=true→S i=true) {Q:Exit→Act→World→Prop} {K:Act→World→Prop}
    (hK:∀ a' w',DInv cx ops ds0 F ρ0 w0 masks s recs (ins S R.i) a' w'→K a' w'):wpOpIn (fen rr) m cx.P ops Q R.i K a w:=by
  obtain ⟨hclo,hold,hmov,ρ,hs,ht,hsz,hdf,hst⟩:=hinv
  obtain ⟨orc,ob,o',htold,hob⟩:=hrec.told R hR
  have hidx:=WF htold
  obtain ⟨_,o,ho,hdst⟩:=hidx
  have hop:ops[R.i]?=some o:=by rw [← Y3];exact ho
  have hlk:=Qan hrec hd hR hS hclo hpre ho
  unfold wpOpIn
  rw [hop]
  simp only
  unfold Jx at htold
  rw [ho] at htold
  split at htold
  case h_2=>cases htold
  rename_i o2 mask ho2 hmask
  cases ho2
  simp only at htold
  rw [zJ hlk] at htold
  split at htold
  · cases htold
  · -- passed VW
    rename_i hwn
    rw [V5 ht hwn]
    simp only [Bool.false_eq_true,if_false]
    simp only [Option.some.injEq,Prod.mk.injEq] at htold
    obtain ⟨hRe,_,_⟩:=htold
    refine ⟨fun _ _=>trivial,hK _ _ ?_⟩
    have h1:R.up=[]:=by rw [← hRe]
    have h2:R.val=.d (.v undef):=by rw [← hRe]
    have:=wG (v:=undef) hrec hd hR hS hclo hpre hold hmov (fun p t0 hp _ hpg=>by
      rw [ho] at hp;cases hp
      simp [Ue,hpg] at hwn) (by rw [h1];exact hs) (by rw [h1];exact ht) hsz hdf (by rw [h1];exact hst) (by rw [h2];exact .d _ _ (.v _))
    rw [hdst] at this;exact this
  · rename_i hwn
    rw [V5 ht hwn]
    simp only [if_true]
    have hev:=Ep hs ht
    have hfin:∀ {R' : Rec} {up:List (Nat×Blk)} {x:AV} {ρ' : Nat→Value} {v:Value} {w' : World},R=R'→R'.up=up→HSim cx F (up++hpS s recs S) ρ' w'→Steps1 (hpS s recs S) ρ w (up++hpS s recs S) ρ' w' →
        VR w' (MM F (up++hpS s recs S) ρ') (up++hpS s recs S) ρ' R'.val v→(∀ t0,o.op=.move (.tmp t0)→v=a.eval (.tmp t0))→K (a.put o.dst v) w':=by
      intro R' up x ρ' v w' e1 e2 g1 g2 g3 g4
      subst e1;subst e2
      refine hK _ _ ?_
      have:=wG (v:=v) hrec hd hR hS hclo hpre hold hmov (fun p t0 hp hpo _=>by
        rw [ho] at hp;cases hp
        exact g4 t0 hpo) g1 (fun t x hx=>g2.vr (ht t x hx)) hsz hdf (hst.trans g2) g3
      rw [hdst] at this;exact this
    split at htold
    · -- a call
      rename_i fv args hcp
      have hevc:∀ x,x∈o.op.operands.toList→evA cx (WM (recs.filter fun q=>Nat.blt q.i R.i)++s.tm) x=evA cx (tmS s recs S) x:=Gc hlk
      obtain ⟨ats,hopc⟩:=Up hcp
      have hfv:evA cx (WM (recs.filter fun q=>Nat.blt q.i R.i)++s.tm) fv=evA cx (tmS s recs S) fv:=hevc fv (by simp [hopc,Op.operands,Call.operands])
      have hargs:args.map (evA cx (WM (recs.filter fun q=>Nat.blt q.i R.i)++s.tm))=args.map (evA cx (tmS s recs S)) :=
        List.map_congr_left fun x hx=>hevc x (by simp [hopc,Op.operands,Call.operands];exact .inr hx)
      rw [hfv,hargs] at htold
      split at htold
      · -- yield
        rename_i yb ver hyo
        split at htold
        · cases htold
        rename_i rc hrc
        have hR' : ∃ h,rc.full=some h∧R.up=h∧R.piv=true∧(∀ p,p∈rc.ob→p)∧∀ {M:Nat→Prop} {hp' : List (Nat×Blk)} {ρ' : Nat→Value} {w' : World} {v:Value},VR w' M hp' ρ' rc.val v→VR w' M hp' ρ' R.val v:=by
          split at htold
          · rename_i h hfull _
            split at htold
            case h_2=>cases htold
            rename_i y ob2 o2 hlit
            simp only [Option.some.injEq,Prod.mk.injEq] at htold
            obtain ⟨hRe,hobe,_⟩:=htold
            refine ⟨h,hfull,by rw [← hRe],by rw [← hRe],fun p hp=>hob p (by rw [← hobe];simp [hp]),fun hv=>?_⟩
            rw [← hRe]
            exact Kc hlit (fun p hp=>hob p (by rw [← hobe];simp [hp])) hv
          · rename_i h hfull _
            simp only [Option.some.injEq,Prod.mk.injEq] at htold
            obtain ⟨hRe,hobe,_⟩:=htold
            exact ⟨h,hfull,by rw [← hRe],by rw [← hRe],fun p hp=>hob p (by rw [← hobe];exact hp),fun hv=>by rw [← hRe];exact hv⟩
          · cases htold
        obtain ⟨H2,hfull,hup,hpiv,hrob,hval⟩:=hR'
        -- what has been run is just what must come before it
        have hheap:=kO hrec hd hR hS hclo hpre hmask hpiv
        rw [hheap] at hrc
        obtain ⟨l2,k2⟩:=Uk hev args
        obtain ⟨⟨k,hk,hver⟩,ly,rc0,hρ,hl,hsz',hround⟩:=hyc _ _ _ _ _ _ _ rc hrc hrob rr (m - 1) F ρ w _ hs l2 k2
        have hfvv:=hev fv
        rw [qB hyo] at hfvv
        have hv:a.eval fv=.func (.yield ly) #[] #[]:=by
          generalize a.eval fv=y at hfvv
          cases hfvv with
          | own _ _ k' _ hb hv ho h =>
            rw [hk] at hb;cases hb
            rw [h hver,hρ]
        rw [Oper.wpIn,Oper.semAt_eq _ _ _ (Z9 hcp),wa hcp hv,run_yield hl (by simpa using hsz'.symm)]
        refine ⟨fun _ _=>trivial,?_⟩
        rw [Oper.uponIn_round]
        refine ⟨fun h=>(by cases h),hround.mono ?_⟩
        rintro e w' ⟨v,rfl,ρ',g1,g2,g3⟩
        have hrch:rc.heap (hpS s recs S)=H2:=by rw [RC.heap,hfull]
        rw [hrch] at g1 g2 g3
        have hlook:∀ b,look (H2++hpS s recs S) b=look H2 b:=by
          intro b
          rw [Zn]
          cases h:look H2 b with
          | some k=>rfl
          | none =>
            simp only
            cases h2:look (hpS s recs S) b with
            | none=>rfl
            | some k =>
              obtain ⟨k',h3,_⟩:=g2.grow.dom b k h2
              rw [h] at h3;cases h3
        obtain ⟨u1,u2⟩:=ZO hlook g1
        exact hfin (R':=R) (up:=H2) (x:=R.val) rfl hup u1 (g2.trans u2) (hval (u2.vr g3)) (fun t0 h=>by rw [hopc] at h;cases h)
      split at htold
      · -- a call with effects
        split at htold
        case h_2=>cases htold
        rename_i f p q hca _
        split at htold
        case h_2=>cases htold
        rename_i rc hrc
        split at htold
        case h_2=>cases htold
        rename_i u hu
        simp only [Option.some.injEq,Prod.mk.injEq] at htold
        obtain ⟨hRe,hobe,_⟩:=htold
        have hpiv:R.piv=true:=by rw [← hRe]
        have hup:R.up=u:=by rw [← hRe]
        have hval:R.val=rc.val:=by rw [← hRe]
        have hheap:=kO hrec hd hR hS hclo hpre hmask hpiv
        rw [hheap] at hrc hu
        obtain ⟨xs,ys,hv,l1,l3,k1,k3⟩:=Yb hca (hev fv)
        obtain ⟨l2,k2⟩:=Uk hev args
        obtain ⟨l4,k4⟩:=G9 l1 l2 l3 k1 k2 k3
        have:=hcall _ _ _ _ _ _ _ rc hrc (fun p hp=>hob p (by rw [← hobe];exact hp)) F ρ w _ hs l4 k4
        have hheq:=yV hu (hcs _ _ _ _ _ _ _ rc hrc)
        rw [Oper.wpIn,Oper.semAt_eq _ _ _ (Z9 hcp),XC hcp hv]
        refine ⟨fun _ _=>trivial,?_⟩
        rcases this with ⟨v,r1,hf,hu',r4⟩ | ⟨r1,r2⟩
        · rw [r1]
          simp only [Oper.uponIn]
          have hu0:rc.heap (hpS s recs S)=hpS s recs S:=by rw [RC.heap,hf,hu'];rfl
          have hheq:=hheq.resolve_right (by rw [hf];simp)
          rw [hu0] at hheq
          have hu1:u=[]:=by
            have:=congrArg List.length hheq
            simp only [List.length_append] at this
            exact List.length_eq_zero_iff.1 (by omega)
          refine hfin (R':=R) (up:=u) (x:=R.val) (ρ':=ρ) rfl hup ?_ ?_ ?_ (fun t0 h=>by rw [hopc] at h;cases h)
          · rw [hheq];exact hs
          · rw [hheq];exact Steps1.refl _ _ _
          · rw [hheq,hval];exact r4
        · rw [r1]
          simp only [Oper.uponIn]
          refine ⟨fun h=>(by cases h),zq rr (r2.mono ?_)⟩
          rintro e w' ⟨v,rfl,ρ',g1,g2,g3⟩
          rcases hheq with hheq | hfull
          case inr =>
            have hrch:rc.heap (hpS s recs S)=u:=by rw [RC.heap,hfull]
            rw [hrch] at g1 g2 g3
            have hlook:∀ b,look (u++hpS s recs S) b=look u b:=by
              intro b
              rw [Zn]
              cases h:look u b with
              | some k=>rfl
              | none =>
                simp only
                cases h2:look (hpS s recs S) b with
                | none=>rfl
                | some k =>
                  obtain ⟨k',h3,_⟩:=g2.grow.dom b k h2
                  rw [h] at h3;cases h3
            obtain ⟨u1,u2⟩:=ZO hlook g1
            exact hfin (R':=R) (up:=u) (x:=R.val) rfl hup u1 (g2.trans u2) (by rw [hval];exact u2.vr g3) (fun t0 h=>by rw [hopc] at h;cases h)
          rw [← hheq] at g1 g2 g3
          exact hfin (R':=R) (up:=u) (x:=R.val) rfl hup g1 g2 (by rw [hval];exact g3) (fun t0 h=>by rw [hopc] at h;cases h)
      split at htold
      · cases htold
      rename_i f p q hca
      split at htold
      case h_2=>cases htold
      rename_i rc hin hrc
      obtain ⟨xs,ys,hv,l1,l3,k1,k3⟩:=Yb hca (hev fv)
      obtain ⟨l2,k2⟩:=Uk hev args
      obtain ⟨l4,k4⟩:=G9 l1 l2 l3 k1 k2 k3
      have hRp:R.piv=false:=by
        split at htold
        · split at htold
          case h_2=>cases htold
          simp only [Option.some.injEq,Prod.mk.injEq] at htold
          rw [← htold.1]
        · simp only [Option.some.injEq,Prod.mk.injEq] at htold
          rw [← htold.1]
        · obtain ⟨_,_,_,hR,_⟩:=Yn htold
          rw [hR]
        · cases htold
      have hfn:R.fp=none:=by
        split at htold
        · split at htold
          case h_2=>cases htold
          simp only [Option.some.injEq,Prod.mk.injEq] at htold
          rw [← htold.1]
        · simp only [Option.some.injEq,Prod.mk.injEq] at htold
          rw [← htold.1]
        · obtain ⟨_,_,_,hR,_⟩:=Yn htold
          rw [hR]
        · cases htold
      have hra:R.adr=false:=by
        split at htold
        · split at htold
          case h_2=>cases htold
          simp only [Option.some.injEq,Prod.mk.injEq] at htold
          rw [← htold.1]
        · simp only [Option.some.injEq,Prod.mk.injEq] at htold
          rw [← htold.1]
        · obtain ⟨_,_,_,hR,_⟩:=Yn htold
          rw [hR]
        · cases htold
      -- what was there at the region's head is unwritten so far,or nothing is seen of it
      have hHc:∃ H,JO s (recs.filter fun q=>Nat.blt q.i R.i) mask=H∧HSim cx (fun r=>F r ∨ (Mut (hpS s recs S) ρ r∧¬ Mut H ρ0 r)) H ρ0 w∧(∀ b k,look H b=some k→look (hpS s recs S) b=some k∧ρ b=ρ0 b):=by
       cases hany:((Yu mask (recs.filter fun q=>Nat.blt q.i R.i)).any fun r=>r.up.any fun p=>ZN s.hp p.1) with
       | true =>
        have he:JO s (recs.filter fun q=>Nat.blt q.i R.i) mask=[]:=by unfold JO;rw [hany]
        refine ⟨[],he,⟨fun b k hb=>(by cases hb),fun b b' k k' r hb=>(by cases hb),fun r hr=>?_,fun r hr=>?_,fun g x hg=>?_⟩,fun b k hb=>(by cases hb)⟩
        · obtain ⟨b,k,hb,_⟩:=hr;cases hb
        · rcases hr with hr | hr
          · exact hs.bnd r hr
          · exact hs.mut_lt hr.1
        · refine (hs.glob g x hg).ext (Nat.le_refl _) (fun _ _ _=>rfl) ?_
          rintro r _ ((h | h) | ⟨b,k,hb,_⟩)
          · exact .inl h
          · exact .inr h.1
          · cases hb
       | false =>
        have he:JO s (recs.filter fun q=>Nat.blt q.i R.i) mask=s.hp:=by unfold JO;rw [hany]
        have hcalls:∀ r,r∈recs→(∃ b,look r.up b≠none∧look s.hp b≠none)→Q3 masks r.i R.i=false:=by
          rintro r hr ⟨b,hb1,hb2⟩
          cases hm:Q3 masks r.i R.i with
          | false=>rfl
          | true =>
            exfalso
            have hlt:=VJ hd R.i (hrec.lt R hR) r.i (by rw [← QC];exact hm)
            have hma:ZP masks R.i=mask:=by simp [ZP,hmask]
            rw [QC,hma] at hm
            obtain ⟨k,hk⟩:=Y5 hb1
            have h1:(r.up.any fun p=>ZN s.hp p.1)=true:=List.any_eq_true.2 ⟨_,hk,Wp.2 hb2⟩
            have h2:((Yu mask (recs.filter fun q=>Nat.blt q.i R.i)).any fun r=>r.up.any fun p=>ZN s.hp p.1)=true:=by
              refine List.any_eq_true.2 ⟨r,?_,h1⟩
              rw [VI]
              exact List.mem_filter.2 ⟨List.mem_filter.2 ⟨hr,by simpa [Nat.blt_eq] using hlt⟩,hm⟩
            rw [hany] at h2;cases h2
        refine ⟨s.hp,he,h0.back hs hst ?_⟩
        intro b k hb
        have:look (Zy (recs.filter fun r=>S r.i)++s.hp) b=look (Zy (recs.filter fun _=>false)++s.hp) b:=by
          refine VY recs fun r hr hrb=>?_
          cases hh:S r.i with
          | false=>rfl
          | true =>
            exfalso
            have hne:r.i≠R.i:=fun e=>by rw [e,hS] at hh;cases hh
            have hbo:b≠base+r.i:=fun e=>by rw [e,hd.free r.i (hrec.lt r hr)] at hb;cases hb
            have w1:=VE hrb hbo
            have hnc:=hcalls r hr ⟨b,hrb,by rw [hb];simp⟩
            have htR:W6 ops R.i=true:=by rw [GC ho];simp [qs,hopc]
            have:=hd.blks r R hr hR
            simp only [Ur,Bool.or_eq_true,Bool.and_eq_true,Bool.not_eq_true',w1,htR,kJ (q:=R) hra hrb (fun fs hf=>by rw [hfn] at hf;cases hf)] at this
            rcases this with ((h | h) | h) | h
            · rw [hnc] at h;cases h
            · have:=hclo r.i hh R.i h;rw [hS] at this;cases this
            · exact hne (Q4 h)
            · simp at h
        have h2:(recs.filter fun _=>false)=[]:=by simp
        show look (Zy (recs.filter fun r=>S r.i)++s.hp) b=some k
        rw [this,h2];exact hb
      obtain ⟨H,hHe,hb1,hag⟩:=hHc
      rw [hHe] at hin hrc
      have hMM:∀ r,r < w.heap.size→MM (fun r=>F r ∨ (Mut (hpS s recs S) ρ r∧¬ Mut H ρ0 r)) H ρ0 r→MM F (hpS s recs S) ρ r:=by
        rintro r _ ((h | h) | ⟨b,k,hb,hm,hr⟩)
        · exact .inl h
        · exact .inr h.1
        · obtain ⟨h1,h2⟩:=hag b k hb
          exact .inr ⟨b,k,h1,hm,by rw [h2];exact hr⟩
      have k5:=VR.shrinks hag hMM _ _ hin k4
      have hres:∀ (hrob:∀ p,p∈rc.ob→p),rc.full=none→rc.up=[]→(∀ {y:AV} {v:Value} {w' : World} {ρ' : Nat→Value},HSim cx F (hpS s recs S) ρ w'→Steps1 (hpS s recs S) ρ w (hpS s recs S) ρ w' →
          VR w' (MM F (hpS s recs S) ρ) (hpS s recs S) ρ rc.val v→K (a.put o.dst v) w')→o.wpIn (fen rr) m cx.P a w K Q:=by
        intro hrob hfull hup hk
        have:=hcall _ _ _ _ _ _ _ rc hrc hrob _ ρ0 w _ hb1 l4 k5
        have hheap:rc.heap H=H:=by rw [RC.heap,hfull,hup];rfl
        have hgr:Grows H (hpS s recs S) ρ0 ρ:=⟨fun b k hb=>⟨k,(hag b k hb).1,Nat.le_refl _,fun _=>(hag b k hb).2⟩⟩
        have hMM2:∀ r,MM F (hpS s recs S) ρ r→MM (fun r=>F r ∨ (Mut (hpS s recs S) ρ r∧¬ Mut H ρ0 r)) H ρ0 r:=by
          rintro r (h | h)
          · exact .inl (.inl h)
          · by_cases hh:Mut H ρ0 r
            · exact .inr hh
            · exact .inl (.inr ⟨h,hh⟩)
        rw [Oper.wpIn,Oper.semAt_eq _ _ _ (Z9 hcp),XC hcp hv]
        refine ⟨fun _ _=>trivial,?_⟩
        rcases this with ⟨v,r1,_,_,r4⟩ | ⟨r1,r2⟩
        · rw [r1]
          simp only [Oper.uponIn]
          exact hk (y:=rc.val) (ρ':=ρ) hs (Steps1.refl _ _ _) (r4.ext (Nat.le_refl _) (fun _ _ _=>rfl) (fun r _ h=>hMM2 r h) hgr)
        · rw [r1]
          simp only [Oper.uponIn]
          refine ⟨fun h=>(by cases h),zq rr (r2.mono ?_)⟩
          rintro e w' ⟨v,rfl,ρ',g1,g2,g3⟩
          rw [hheap] at g1 g2 g3
          -- the names of the head stand for what they stood
          have hρ:∀ b k,look H b=some k→ρ' b=ρ0 b:=fun b k hb=>by
            obtain ⟨k',h1,_,h3⟩:=g2.grow.dom b k hb
            rw [hb] at h1;cases h1
            exact h3 rfl
          have hgr0:Grows H H ρ' ρ0:=⟨fun b k hb=>⟨k,hb,Nat.le_refl _,fun _=>(hρ b k hb).symm⟩⟩
          have hmm:∀ r,Mut H ρ0 r↔Mut H ρ' r:=fun r=>by
            constructor
            · rintro ⟨b,k,hb,hm,hr⟩;exact ⟨b,k,hb,hm,by rw [hρ b k hb];exact hr⟩
            · rintro ⟨b,k,hb,hm,hr⟩;exact ⟨b,k,hb,hm,by rw [← hρ b k hb];exact hr⟩
          have hst0:Steps1 H ρ' w' H ρ0 w':=⟨Ext.refl _ _,fun r _ hm=>(hmm r).1 hm,hgr0⟩
          have g1':=g1.step hst0 (fun b k hb=>.inl ⟨hb,(hρ b k hb).symm,fun _ _ _=>rfl⟩)
            (fun b b' k k' r h1 h2 m1 m2 r1 r2=>g1.inj b b' k k' r h1 h2 m1 m2 (by rw [hρ b k h1];exact r1) (by rw [hρ b' k' h2];exact r2)) (fun r hr=>g1.forb r ((hmm r).1 hr))
          obtain ⟨q1,q2⟩:=hs.glue hag g1' g2.ext
          have g3':=hst0.vr g3
          exact hk (y:=rc.val) (ρ':=ρ) q1 q2 (g3'.ext (Nat.le_refl _) (fun _ _ _=>rfl) (fun r _ h=>hMM2 r h) hgr)
      split at htold
      · rename_i hfull hup _
        split at htold
        case h_2=>cases htold
        rename_i y ob2 o2 hlit
        simp only [Option.some.injEq,Prod.mk.injEq] at htold
        obtain ⟨hRe,hobe,_⟩:=htold
        refine hres (fun p hp=>hob p (by rw [← hobe];simp [hp])) hfull hup fun {_ v w' ρ'} q1 q2 q3=>?_
        exact hfin (up:=[]) (x:=y) hRe.symm rfl q1 q2 (Kc hlit (fun p hp=>hob p (by rw [← hobe];simp [hp])) q3) (fun t0 h=>by rw [hopc] at h;cases h)
      · rename_i hfull hup _
        simp only [Option.some.injEq,Prod.mk.injEq] at htold
        obtain ⟨hRe,hobe,_⟩:=htold
        refine hres (fun p hp=>hob p (by rw [← hobe];exact hp)) hfull hup fun {_ v w' ρ'} q1 q2 q3=>?_
        exact hfin (up:=[]) (x:=rc.val) hRe.symm rfl q1 q2 q3 (fun t0 h=>by rw [hopc] at h;cases h)
      · -- a row that the call has made
        rename_i p0 hfull hup _
        obtain ⟨b,k0,v0,hRe,hp0,hval,hobe,hbH,hfk⟩:=Yn htold
        rw [hHe] at hbH
        have:=hcall _ _ _ _ _ _ _ rc hrc (fun p hp=>hob p (by rw [hobe];exact hp)) _ ρ0 w _ hb1 l4 k5
        have hheap:rc.heap H=(b,k0)::H:=by rw [RC.heap,hfull,hup,hp0];rfl
        have hnn:look (hpS s recs S) (base+R.i)=none:=kD hrec hd hR hS hclo
        rw [Oper.wpIn,Oper.semAt_eq _ _ _ (Z9 hcp),XC hcp hv]
        refine ⟨fun _ _=>trivial,?_⟩
        rcases this with ⟨v,r1,_,hu,_⟩ | ⟨r1,r2⟩
        · rw [hup] at hu;cases hu
        · rw [r1]
          simp only [Oper.uponIn]
          refine ⟨fun h=>(by cases h),zq rr (r2.mono ?_)⟩
          rintro e w' ⟨v,rfl,ρ',g1,g2,g3⟩
          rw [hheap] at g1 g2 g3
          have hne:∀ b' k,look H b'=some k→b'≠b:=fun b' k hb' e=>by rw [e,hbH] at hb';cases hb'
          have hagH:∀ b' k,look H b'=some k→look ((b,k0)::H) b'=some k∧ρ' b'=ρ0 b':=fun b' k hb'=>by
            have h1:look ((b,k0)::H) b'=some k:=by rw [Qb _ _ (Ne.symm (hne b' k hb'))];exact hb'
            obtain ⟨k',h2,_,h3⟩:=g2.grow.dom b' k hb'
            rw [h1] at h2;cases h2
            exact ⟨h1,h3 rfl⟩
          have hE:∀ r,QA (ρ' b)=some r→Mut ((b,k0)::H) ρ' r∧w.heap.size≤r:=by
            intro r hr
            have hm:Mut ((b,k0)::H) ρ' r:=⟨b,_,Qd _ _ _,Um hfk,hr⟩
            refine ⟨hm,?_⟩
            rcases Nat.lt_or_ge r w.heap.size with hlt | hge
            · exfalso
              obtain ⟨b',k',hb',hm',hr'⟩:=g2.mt r hlt hm
              obtain ⟨h1,h2⟩:=hagH b' k' hb'
              have:=g1.inj b' b k' _ r h1 (Qd _ _ _) hm' (Um hfk) (by rw [h2];exact hr') hr
              exact hne b' k' hb' this
            · exact hge
          have g1':=hb1.restrictE g1 hagH g2.ext hE
          obtain ⟨q1,q2⟩:=hs.gluE hag g1' g2.ext (fun r hr=>(hE r hr).2)
          have hrow:FreshV w' (MM (fun r=>F r ∨ QA (ρ' b)=some r) (hpS s recs S) ρ) (ρ' b) (stamp k0):=by
            have h0:FreshV w' (MM (fun r=>F r ∨ (Mut (hpS s recs S) ρ r∧¬ Mut H ρ0 r)) ((b,k0)::H) ρ') (ρ' b) k0:=Ga hfk (g1.blk b _ (Qd _ _ _))
            refine h0.stamp.sub ?_
            rintro r _ ((h | h) | h)
            · exact .inl (.inl h)
            · exact .inr (hE r h).1
            · by_cases hh:Mut H ρ0 r
              · obtain ⟨b',k',hb',hm',hr'⟩:=hh
                obtain ⟨h1,h2⟩:=hagH b' k' hb'
                exact .inr ⟨b',k',h1,hm',by rw [h2];exact hr'⟩
              · exact .inl (.inr ⟨h,hh⟩)
          have q3:=q1.name (nm:=base+R.i) hnn (fun r h=>h) (fun r hr hf=>by
            have h1:=hs.bnd r hf
            have h2:=(hE r hr).2
            omega) hrow
          have q4:Steps1 (hpS s recs S) ρ w ((base+R.i,stamp k0)::hpS s recs S) (Z1 ρ (base+R.i) (ρ' b)) w':=by
            refine ⟨q2.ext,fun r hr hm=>?_,⟨fun n k hn=>?_⟩⟩
            · obtain ⟨n,k',hn,hm',hr'⟩:=hm
              by_cases hnb:n=base+R.i
              · subst hnb
                rw [Qj] at hr'
                have:=(hE r hr').2
                omega
              · rw [Qb _ _ (Ne.symm hnb)] at hn;rw [Qr _ _ hnb] at hr';exact ⟨n,k',hn,hm',hr'⟩
            · have hnb:n≠base+R.i:=fun e=>by rw [e,hnn] at hn;cases hn
              exact ⟨k,by rw [Qb _ _ (Ne.symm hnb)];exact hn,Nat.le_refl _,fun _=>Qr _ _ hnb⟩
          refine hfin (R':=R) (up:=[(base+R.i,stamp k0)]) (x:=R.val) rfl (by rw [hRe]) q3 q4 ?_ (fun t0 h=>by rw [hopc] at h;cases h)
          have hRv:R.val=v0:=by rw [hRe]
          rw [hRv]
          refine jh (Qd _ _ _) rfl (Qd _ _ _) (Qj _ _ _) ?_ hval g3
          rintro r _ (h | ⟨n,k',hn,hm',hr'⟩)
          · exact .inl (.inl h)
          · have hn:look ((base+R.i,stamp k0)::hpS s recs S) n=some k':=hn
            by_cases hnb:n=base+R.i
            · subst hnb
              rw [Qj] at hr'
              exact .inr (hE r hr').1
            · rw [Qb _ _ (Ne.symm hnb)] at hn;rw [Qr _ _ hnb] at hr'
              by_cases hh:Mut H ρ0 r
              · obtain ⟨b',k'',hb',hm'',hr''⟩:=hh
                obtain ⟨h1,h2⟩:=hagH b' k'' hb'
                exact .inr ⟨b',k'',h1,hm'',by rw [h2];exact hr''⟩
              · exact .inl (.inr ⟨⟨n,k',hn,hm',hr'⟩,hh⟩)
      · cases htold
    · -- another operation
      rename_i hcp
      have hlenfin:∀ {t ty:Nat} {rest:List TypeId} {args:Array Operand} {ats:Array TypeId} {el:TypeId} {b ver:Nat} {es:List D},o.op=.call { callee:=.builtin .len,args,argTypes:=ats }→args.toList=[.tmp t]→ats.toList=ty::rest→cx.P.underlying ty=some (.slice el) →
          VL s.hp (.own b ver)=some es→VR w0 (MM F s.hp ρ0) s.hp ρ0 (.own b ver) (a.tmps.getD t undef)→({ i:=R.i,dst:=o.dst,val:=.d (.v (.int .i64 es.length)),up:=[],fp:=some [] }:Rec)=R→o.wpIn (fen rr) m cx.P a w K Q:=by
        intro t ty rest args ats el b ver es hopl hal hatl hu hes hvr hRe
        obtain ⟨ax,cx',hv⟩:=Xt h0 hes hvr
        have hat:ats=(ty::rest).toArray:=by rw [← hatl]
        have hargs:args=#[.tmp t]:=by rw [← Array.toArray_toList (xs:=args),hal]
        have h1:=Qh hu w
        have hrun:(execOp a.eval o).run cx.P w=.ok (.value (.int .i64 es.length)) w:=by
          have hav:a.eval (.tmp t)=.slice ax es.length cx':=hv
          subst hargs;subst hat
          simp only [execOp,hopl,resolve]
          simp only [List.map_toArray,List.map_cons,List.map_nil,hav]
          show (do pure (Next.value (← Builtin.len_ (ty::rest).toArray o.type #[.slice ax es.length cx']))).run cx.P w=_
          simp [Builtin.len_,h1,goInt]
        unfold Oper.wpIn
        rw [Oper.semAt_eq _ _ _ (fun c hc=>by rw [hopl] at hc;cases hc)]
        refine ⟨fun _ _=>trivial,?_⟩
        rw [hrun]
        exact hfin (up:=[]) (x:=R.val) hRe.symm (by rw [← hRe]) hs (Steps1.refl _ _ _) (.d _ _ (.v _)) (fun t0 h=>by rw [hopl] at h;cases h)
      -- who writes to the operand of this operation comes before it
      have hwr:∀ {t:Nat},(.tmp t)∈o.op.operands.toList→∀ r,r∈recs→S r.i=true→r.dst=some t→r.i < R.i:=by
        intro t hmem0 r hr hSr hdt
        by_cases hlt:r.i < R.i
        · exact hlt
        · exfalso
          have hne:r.i≠R.i:=fun e=>by rw [e,hS] at hSr;cases hSr
          have hap:=hd.tmps r.i R.i (hrec.lt r hr) (hrec.lt R hR)
          obtain ⟨_,_,_,h1,_⟩:=hrec.told r hr
          obtain ⟨_,x,hx,hxd⟩:=WF h1
          simp only [YQ,Bool.or_eq_true] at hap
          rcases hap with ((h | h) | h) | h
          · have:=VJ hd R.i (hrec.lt R hR) r.i (by rw [← QC];exact h);omega
          · have:=hclo r.i hSr R.i h
            rw [hS] at this;cases this
          · exact absurd (Q4 h) hne
          · rw [hx,ho] at h
            simp only [← hxd,hdt,Bool.and_eq_true,Bool.not_eq_true'] at h
            have hmem:(YW o ops).contains t=true:=by
              rw [List.contains_iff_mem]
              unfold YW
              exact List.mem_append_left _ (List.mem_filterMap.2 ⟨.tmp t,hmem0,rfl⟩)
            rw [hmem] at h
            cases h.1
      split at htold
      · -- the length of what was there
        rename_i k hlen
        simp only [Option.some.injEq,Prod.mk.injEq] at htold
        obtain ⟨hRe,_,_⟩:=htold
        unfold uH at hlen
        split at hlen
        case h_2=>cases hlen
        rename_i args ats hopl
        split at hlen
        case h_2=>cases hlen
        rename_i t ty rest hal hatl
        split at hlen
        case h_2=>cases hlen
        rename_i el b ver hu htm hall
        split at hlen
        case h_2=>cases hlen
        rename_i es hes
        simp only [Option.some.injEq] at hlen
        subst hlen
        have hno:∀ r,r∈recs→S r.i=true→r.dst≠some t:=by
          intro r hr hSr hdt
          have hlt:=hwr (by rw [hopl];simp [Op.operands,Call.operands,hal]) r hr hSr hdt
          simp only [List.all_eq_true] at hall
          have:=hall r (List.mem_filter.2 ⟨hr,by simpa [Nat.blt_eq] using hlt⟩)
          rw [hdt] at this
          simp at this
        exact hlenfin hopl hal hatl hu hes (hold t _ htm hno) hRe
      split at htold
      · -- ... through a copy
        rename_i k hlen
        simp only [Option.some.injEq,Prod.mk.injEq] at htold
        obtain ⟨hRe,_,_⟩:=htold
        unfold Qbj at hlen
        split at hlen
        case h_2=>cases hlen
        rename_i args ats hopl
        split at hlen
        case h_2=>cases hlen
        rename_i t ty rest hal hatl
        split at hlen
        case h_2=>cases hlen
        rename_i el r hu hmr
        split at hlen
        case h_2=>cases hlen
        rename_i p hp
        split at hlen
        case h_2=>cases hlen
        rename_i t0 hpo hpg
        split at hlen
        case h_2=>cases hlen
        rename_i b ver htm hall
        split at hlen
        case h_2=>cases hlen
        rename_i es hes
        simp only [Option.some.injEq] at hlen
        subst hlen
        simp only [Bool.and_eq_true,List.all_eq_true,Bool.or_eq_true,Bool.not_eq_true'] at hall
        obtain ⟨⟨hm1,hm2⟩,hm3⟩:=hall
        obtain ⟨hrm,hrd⟩:=qS hmr
        have hrr:=(List.mem_filter.1 hrm).1
        have hrlt:r.i < R.i:=by simpa [Nat.blt_eq] using (List.mem_filter.1 hrm).2
        have hpd:p.dst=some t:=by
          obtain ⟨_,_,_,h1,_⟩:=hrec.told r hrr
          obtain ⟨_,y,hy,hyd⟩:=WF h1
          rw [hp] at hy;cases hy
          rw [← hyd,hrd]
        have hvr:=hmov r hrr (hpre r.i hm1) p t0 t _ hp hpo hpg hpd
          (fun q hq hlt hqd=>by
            rcases hm3 q (List.mem_filter.2 ⟨hq,by rw [Nat.blt_eq];omega⟩) with h | h
            · rw [show Nat.blt q.i r.i=true by rw [Nat.blt_eq];exact hlt] at h;cases h
            · rw [EC.2 hqd] at h;cases h)
          (fun q hq hSq hqd=>by
            have hlt:=hwr (by rw [hopl];simp [Op.operands,Call.operands,hal]) q hq hSq hqd
            rcases hm2 q (List.mem_filter.2 ⟨hq,by rw [Nat.blt_eq];omega⟩) with h | h
            · rw [EC.2 hqd] at h;cases h
            · exact Q4 h) htm
        exact hlenfin hopl hal hatl hu hes hvr hRe
      split at htold
      · cases htold
      rename_i r hr
      rw [QaG (Gc hlk)] at hr
      have hfp:zl (evA cx (WM (recs.filter fun q=>Nat.blt q.i R.i)++s.tm)) o=R.fp:=by
        split at htold
        · split at htold
          case h_2=>cases htold
          simp only [Option.some.injEq,Prod.mk.injEq] at htold
          rw [← htold.1]
        · simp only [Option.some.injEq,Prod.mk.injEq] at htold
          rw [← htold.1]
      have had:adrB (JB masks s (recs.filter fun q=>Nat.blt q.i R.i) o mask (zl (evA cx (WM (recs.filter fun q=>Nat.blt q.i R.i)++s.tm)) o)) (JR (evA cx (WM (recs.filter fun q=>Nat.blt q.i R.i)++s.tm)) o)=R.adr:=by
        split at htold
        · split at htold
          case h_2=>cases htold
          simp only [Option.some.injEq,Prod.mk.injEq] at htold
          rw [← htold.1]
        · simp only [Option.some.injEq,Prod.mk.injEq] at htold
          rw [← htold.1]
      rw [hfp] at hr had
      have hr2:aop cx s.sym orc (hpS s recs S) (base+R.i) (evA cx (tmS s recs S)) o=some r:=by
        cases ha:R.adr with
        | false=>exact QbM (yD hrec hd hR hS hclo hpre ho hmask ha) (kD hrec hd hR hS hclo) hr
        | true =>
          rw [ha] at had
          have hae:JR (evA cx (WM (recs.filter fun q=>Nat.blt q.i R.i)++s.tm)) o=JR (evA cx (tmS s recs S)) o:=by
            unfold JR
            split
            · rename_i hopx
              rw [Gc hlk _ (by rw [hopx];simp [Op.operands])]
            · rename_i hopx
              rw [Gc hlk _ (by rw [hopx];simp [Op.operands])]
            · rfl
          rw [hae] at had
          unfold adrB at had
          split at had
          case h_2=>cases had
          rename_i b hab
          split at had
          case h_2=>cases had
          rename_i k hkb
          obtain ⟨k',g1,g2⟩:=yE hrec hd hR hS hclo hpre ho hmask hkb had
          refine QbN hab (fun v hv=>?_) hr
          unfold Kj at hv ⊢
          rw [hkb] at hv
          rw [g1]
          have hz:∀ {k:Blk},boxB k=true→k.ver=0:=fun {k} h=>by cases k <;> first | rfl | cases h
          simp only [hz had] at hv
          simp only [hz g2]
          exact hv
      have key:(∀ p,p∈r.ob→p)→(∀ {ρ' : Nat→Value} {v:Value} {w' : World},HSim cx F (r.up++hpS s recs S) ρ' w'→Steps1 (hpS s recs S) ρ w (r.up++hpS s recs S) ρ' w' →
          VR w' (MM F (r.up++hpS s recs S) ρ') (r.up++hpS s recs S) ρ' r.val v→(∀ t0,o.op=.move (.tmp t0)→v=a.eval (.tmp t0))→K (a.put o.dst v) w')→o.wpIn (fen rr) m cx.P a w K Q:=by
        intro hrob hk
        obtain ⟨v,w',hrun,ρ',g1,g2,g3⟩:=wP hs (fun _=>rfl) hev hr2 hrob
        have:=hk g1 g2 g3 (fun t0 h=>by
          have he:(execOp a.eval o).run cx.P w=.ok (.value (a.eval (.tmp t0))) w:=by simp only [execOp,h];rfl
          rcases hrun with hrun | ⟨hrun,_⟩
          · rw [he] at hrun;cases hrun;rfl
          · rw [he] at hrun;cases hrun)
        unfold Oper.wpIn
        rw [Oper.semAt_eq _ _ _ (qi hr2)]
        refine ⟨fun _ _=>trivial,?_⟩
        rcases hrun with hrun | ⟨hrun,rfl⟩
        · rw [hrun];exact this
        · rw [hrun];exact this
      split at htold
      · split at htold
        case h_2=>cases htold
        rename_i y ob2 o2 hlit
        simp only [Option.some.injEq,Prod.mk.injEq] at htold
        obtain ⟨hRe,hobe,_⟩:=htold
        refine key (fun p hp=>hob p (by rw [← hobe];simp [hp])) fun {ρ' v w'} g1 g2 g3 g4=>?_
        exact hfin (x:=y) hRe.symm rfl g1 g2 (Kc hlit (fun p hp=>hob p (by rw [← hobe];simp [hp])) g3) g4
      · simp only [Option.some.injEq,Prod.mk.injEq] at htold
        obtain ⟨hRe,hobe,_⟩:=htold
        refine key (fun p hp=>hob p (by rw [← hobe];exact hp)) fun {ρ' v w'} g1 g2 g3 g4=>?_
        exact hfin (x:=r.val) hRe.symm rfl g1 g2 g3 g4
def lst (listed:Array Bool):Nat→Bool:=fun i=>listed.getD i false
theorem uE {listed:Array Bool} {j:Nat} (hj:j < listed.size):lst (listed.setIfInBounds j true)=ins (lst listed) j:=by
 funext i
 simp only [lst,ins,Array.getD_eq_getD_getElem?,Array.getElem?_setIfInBounds]
 by_cases h:j=i
 ·subst h
  rw [if_pos rfl,if_pos hj]
  have:Nat.beq j j=true:=Nat.beq_refl j
  simp [this]
 ·rw [if_neg h]
  have:Nat.beq i j=false:=by
   cases hb:Nat.beq i j with
   | false=>rfl
   | true=>exact absurd (Q4 hb).symm h
  simp [this]
def unl (n:Nat) (listed:Array Bool):List Nat:=(List.range n).filter fun i=>!(lst listed i)
theorem QbU {n:Nat} {listed:Array Bool} {j k:Nat} (hj:j < n) (hjs:j < listed.size) (hl:lst listed j=false) (hk:(unl n listed).length=k+1):(unl n (listed.setIfInBounds j true)).length=k:=by
 have hmem:j∈unl n listed:=by simp [unl,hj,hl]
 have hnd:(unl n listed).Nodup:=List.Pairwise.filter _ List.nodup_range
 have he:unl n (listed.setIfInBounds j true)=(unl n listed).erase j:=by
  rw [List.Nodup.erase_eq_filter hnd]
  simp only [unl,List.filter_filter]
  refine List.filter_congr fun i _=>?_
  rw [uE hjs]
  simp only [ins]
  by_cases h:i=j
  ·subst h
   have:Nat.beq i i=true:=Nat.beq_refl i
   simp [this]
  ·have:Nat.beq i j=false:=by
    cases hb:Nat.beq i j with
    | false=>rfl
    | true=>exact absurd (Q4 hb) h
   simp [this,h]
 rw [he,List.length_erase_of_mem hmem,hk]
 rfl
theorem QaH {rr:Option Nat} {m:Nat} {ds0:List Deferred} (hcall:zG cx call) (hcs:Gg call) (hyc:XK cx yc) (hrec:Recs cx call yc ops masks base s recs ops.toList.length) (hd:DOk ops masks base s recs) (h0:HSim cx F s.hp ρ0 w0) {Q:Exit→Act→World→Prop}
  (hq:∀ ρ' a' w',HSim cx F (Zy recs++s.hp) ρ' w'→TSim F (WM recs++s.tm) (Zy recs++s.hp) ρ' a' w'→a'.tmps.size=s.nt→a'.defers=ds0→Steps1 s.hp ρ0 w0 (Zy recs++s.hp) ρ' w'→Q .normal a' w') :
  ∀ (fuel:Nat) (listed:Array Bool) (a:Act) (w:World),listed.size=ops.size→(unl ops.size listed).length=fuel→DInv cx ops ds0 F ρ0 w0 masks s recs (lst listed) a w→wpAnyIn (fen rr) m cx.P .any ops Q fuel listed a w:=by
 have hn:ops.toList.length=ops.size:=by simp
 have hdone:∀ (listed:Array Bool) (a:Act) (w:World),(∀ i,i < ops.size→lst listed i=true)→DInv cx ops ds0 F ρ0 w0 masks s recs (lst listed) a w→Q .normal a w:=by
  intro listed a w hall hinv
  obtain ⟨_,_,_,ρ,h1,h2,h3,h4,h5⟩:=hinv
  have hf:(recs.filter fun r=>lst listed r.i)=recs:=List.filter_eq_self.2 fun r hr=>hall r.i (by have:=hrec.lt r hr;omega)
  simp only [hpS,tmS,hf] at h1 h2 h5
  exact hq ρ a w h1 h2 h3 h4 h5
 have hready:∀ (listed:Array Bool),listed.size=ops.size→∀ i,i∈Region.ready .any ops listed↔i < ops.size∧lst listed i=false∧∃ o,ops[i]?=some o∧∀ e,e∈o.after.toList→Region.binds .any e=true→lst listed e.on=true:=by
  intro listed hsz i
  simp only [Region.ready,List.mem_filter,List.mem_range,Bool.and_eq_true,Bool.not_eq_true']
  constructor
  ·rintro ⟨h1,h2,h3⟩
   refine ⟨h1,?_,?_⟩
   ·simp only [lst]
    rw [Array.getD_eq_getD_getElem?] at h2 ⊢
    have:i < listed.size:=by omega
    simp [this] at h2 ⊢;exact h2
   ·cases ho:ops[i]? with
    | none=>rw [ho] at h3;simp at h3
    | some o =>
     rw [ho] at h3
     simp only [Option.map_some,Option.getD_some,Array.all_eq_true'] at h3
     refine ⟨o,rfl,fun e he hb=>?_⟩
     have:=h3 e (by simpa using he)
     rw [hb] at this
     simpa [lst] using this
  ·rintro ⟨h1,h2,o,ho,h3⟩
   refine ⟨h1,?_,?_⟩
   ·simp only [lst] at h2
    rw [Array.getD_eq_getD_getElem?] at h2 ⊢
    have:i < listed.size:=by omega
    simp [this] at h2 ⊢;exact h2
   ·rw [ho]
    simp only [Option.map_some,Option.getD_some,Array.all_eq_true']
    intro e he
    by_cases hb:Region.binds .any e=true
    ·have:=h3 e (by simpa using he) hb
     simp only [lst] at this
     rw [hb];simpa using this
    ·simp only [Bool.not_eq_true] at hb
     rw [hb];rfl
 intro fuel
 induction fuel with
 | zero =>
  intro listed a w hsz hcnt hinv
  have hall:∀ i,i < ops.size→lst listed i=true:=by
   intro i hi
   have:unl ops.size listed=[]:=List.length_eq_zero_iff.1 hcnt
   cases h:lst listed i with
   | true=>rfl
   | false =>
    have hm:i∈unl ops.size listed:=by simp [unl,hi,h]
    rw [this] at hm;simp at hm
  refine ⟨?_,hdone listed a w hall hinv⟩
  cases hr:Region.ready .any ops listed with
  | nil=>rfl
  | cons i l =>
   have hm:i∈Region.ready .any ops listed:=by rw [hr];exact List.mem_cons_self
   obtain ⟨h1,h2,_⟩:=(hready listed hsz i).1 hm
   rw [hall i h1] at h2;cases h2
 | succ fuel ih =>
  intro listed a w hsz hcnt hinv
  refine ⟨fun hnil=>hdone listed a w (fun i=>?_) hinv,fun j hj=>?_⟩
  ·induction i using Nat.strongRecOn with
   | _ i ihi =>
    intro hi
    cases h:lst listed i with
    | true=>rfl
    | false =>
     exfalso
     have:i∈Region.ready .any ops listed:=by
      rw [hready listed hsz i]
      refine ⟨hi,h,ops[i],by simp [hi],fun e he hb=>?_⟩
      have hlt:=(hd.spec i ops[i] (by rw [Y3];simp [hi])).2 e he hb
      exact ihi e.on hlt (by omega)
     rw [hnil] at this;simp at this
  ·obtain ⟨h1,h2,o,ho,h3⟩:=(hready listed hsz j).1 hj
   obtain ⟨R,hR,rfl⟩:=hrec.all j (by omega)
   have hpre:=yO hd hinv.clo (by rw [Y3];exact ho) h3
   refine yr hcall hcs hyc hrec hd h0 hinv hR h2 hpre fun a' w' hinv'=>?_
   refine ih _ a' w' (by simp [hsz]) (QbU h1 (by omega) h2 hcnt) ?_
   rw [uE (by omega)];exact hinv'
theorem yW {rr:Option Nat} (hm:cx.P.follows .mixedOrders=true) (hcall:zG cx call) (hcs:Gg call) (hyc:XK cx yc) {ob:List Prop} {orc:List Orc} (hrun:YJ cx call yc ops masks base s (List.range ops.toList.length) [] s.ob s.orc=some (recs,ob,orc))
  (hok:jz ops masks base s recs=true) (ho:∀ p,p∈ob→p) {a:Act} {ρ:Nat→Value} {w:World} (hs:Sim cx F s ρ a w) {Q:Exit→Act→World→Prop} {id:Nat}
  (hq:∀ ρ' a' w',HSim cx F (Zy recs++s.hp) ρ' w'→TSim F (WM recs++s.tm) (Zy recs++s.hp) ρ' a' w'→a'.tmps.size=s.nt→a'.defers=a.defers→Steps1 s.hp ρ w (Zy recs++s.hp) ρ' w'→Q .normal a' w') :
  wpR rr cx.P (Code.region id ops true) Q a w∧∀ p,p∈s.ob→p:=by
 have hd:=kV hok
 rw [List.range_eq_range'] at hrun
 obtain ⟨hrec,hob⟩:=Xw _ 0 [] recs s.ob ob s.orc orc hrun ho ⟨List.Pairwise.nil,fun r hr=>by simp at hr,fun j hj=>by omega,fun r hr=>by simp at hr⟩
 rw [Nat.zero_add] at hrec
 refine ⟨fun m=>wpIn_region_any hm ?_,hob⟩
 show wpAnyIn (fen rr) m cx.P .any ops Q ops.size (Array.replicate ops.size false) a w.drew
 obtain ⟨d1,d2⟩:=hs.hs.drew
 have hl:lst (Array.replicate ops.size false)=fun _=>false:=by
  funext i
  simp only [lst,Array.getD_eq_getD_getElem?,Array.getElem?_replicate]
  split <;> rfl
 refine QaH hcall hcs hyc hrec hd hs.hs hq ops.size _ a w.drew (by simp) ?_ ?_
 ·simp only [unl,hl,Bool.not_false]
  rw [List.filter_eq_self.2 (fun _ _=>rfl)];simp
 ·rw [hl]
  have hff:(recs.filter fun _=>false)=[]:=List.filter_eq_nil_iff.2 (fun _ _ h=>by cases h)
  refine ⟨(fun j hj=>by cases hj),fun t x hx _=>hs.ts t x hx,(fun r _ hr=>by cases hr),ρ,?_,?_,hs.nt,rfl,?_⟩
  ·simp only [hpS,hff];exact d1
  ·simp only [hpS,tmS,hff];exact fun t x hx=>d2.vr (hs.ts t x hx)
  ·simp only [hpS,hff];exact d2
end
end Go.SX
