/- Every operation but the calls of functions. -/
import Derived.Test.YtljabneifpkbjaaGreatDoorSxNine
set_option linter.unusedSimpArgs false
set_option linter.unusedVariables false
namespace Go.SX
section
variable {cx:Cx} {F:Nat→Prop} {hp:List (Nat×Blk)} {ρ:Nat→Value} {w:World} {re:Operand→Value} {ev:Operand→AV} {sym:Bool} {orc:List Orc} {r:R}
theorem kg {P:Program} {s:Sem Value} {v:Value} {w w' : World} (h:s.run P w=.ok v w'):(do pure (Next.value (← s)):Sem Next).run P w=.ok (.value v) w':=by
 simp only [Sem.run_bind,h,Result.andThen_ok,Sem.run_pure]
theorem Good.of {s:Sem Value} (h:∃ v w',s.run cx.P w=.ok v w'∧OpOK cx F hp ρ w r.up r.val v w'):Good cx F hp ρ w r (do pure (.value (← s))):=by
 obtain ⟨v,w',h1,h2⟩:=h
 exact ⟨v,w',.inl (kg h1),h2⟩
theorem Good.of1 {s:Sem Value} (h:∃ v,s.run cx.P w=.ok v w∧OpOK cx F hp ρ w r.up r.val v w):Good cx F hp ρ w r (do pure (.value (← s))):=by
 obtain ⟨v,h1,h2⟩:=h
 exact ⟨v,w,.inl (kg h1),h2⟩
theorem Good.val1 (h:HSim cx F hp ρ w) {x:AV} {v:Value} {s:Sem Value} (hr:val1 x orc=some r) (hs:s.run cx.P w=.ok v w) (hx:VR w (MM F hp ρ) hp ρ x v):Good cx F hp ρ w r (do pure (.value (← s))):=by
 simp only [SX.val1,jIj] at hr;subst hr
 exact Good.of1 ⟨v,hs,OpOK.quiet h hx⟩
theorem Good.pure1 (h:HSim cx F hp ρ w) {x:AV} {v:Value} (hr:SX.val1 x orc=some r) (hx:VR w (MM F hp ρ) hp ρ x v):Good cx F hp ρ w r (pure (.value v)):=by
 simp only [SX.val1,jIj] at hr;subst hr
 exact ⟨v,w,.inl rfl,OpOK.quiet h hx⟩
theorem wc {n:Int} (h:Qh n):IntKind.i64.wrap n=n:=by
 rw [IntKind.wrap_i64];unfold Qh at h;omega
theorem GM {P:Program} {w:World} {f:TypeId→Value→Value→Option Bool} {g:TypeId→Value→Value→Sem Bool} (hf:∀ t a b p,f t a b=some p→(g t a b).run P w=.ok p w) (xs ys:Array Value) :
  ∀ (l:List Field) (b:Bool),Gh P f xs ys l=some b →
   (forIn l (none,()) fun (fd:Field) (_:Option Bool×Unit)=>(if fd.name≠ "_" then do
     let a ← part fd.type xs fd.offset
     let c ← part fd.type ys fd.offset
     let r ← g fd.type a c
     if (!r)=true then pure (ForInStep.done (some false,())) else pure (ForInStep.yield (none,()))
    else pure (ForInStep.yield (none,())):Sem (ForInStep (Option Bool×Unit)))).run P w=.ok (if b then (none,()) else (some false,())) w
 | [],b,h=>by
  simp only [Gh,jIj] at h;subst h
  simp [Sem.run_pure]
 | fd::l,b,h=>by
  unfold Gh at h
  rw [List.forIn_cons,Sem.run_bind]
  split at h
  ·rename_i hn
   have hn' : fd.name= "_":=by simpa using hn
   simp only [hn',ne_eq,not_true_eq_false,if_false,Sem.run_pure,Result.andThen_ok]
   exact GM hf xs ys l b h
  ·rename_i hn
   have hn' : fd.name≠ "_":=by simpa using hn
   split at h
   case h_2=>cases h
   rename_i a c ha hc
   split at h
   case h_2=>cases h
   rename_i p q hp hq
   simp only [jIj] at h;subst h
   rw [jTj hn']
   simp only [Sem.run_bind,Vd ha w,Vd hc w,hf _ _ _ _ hp,Result.andThen_ok]
   cases p with
   | true =>
    simp only [Bool.not_true,Bool.false_eq_true,if_false,Sem.run_pure,Result.andThen_ok,Bool.true_and]
    exact GM hf xs ys l q hq
   | false=>simp [Sem.run_pure,Result.andThen_ok]
theorem zK {P:Program} {w:World} {f:TypeId→Value→Value→Option Bool} {g:TypeId→Value→Value→Sem Bool} (hf:∀ t a b p,f t a b=some p→(g t a b).run P w=.ok p w) (xs ys:Array Value) (t:TypeId) (n:Nat) :
  ∀ (l:List Nat) (b:Bool),qb P f xs ys t n l=some b →
   (forIn l (none,()) fun (i:Nat) (_:Option Bool×Unit)=>(do
     let a ← part t xs (i * n)
     let c ← part t ys (i * n)
     let r ← g t a c
     if (!r)=true then pure (ForInStep.done (some false,())) else pure (ForInStep.yield (none,())):Sem (ForInStep (Option Bool×Unit)))).run P w=.ok (if b then (none,()) else (some false,())) w
 | [],b,h=>by
  simp only [qb,jIj] at h;subst h
  simp [Sem.run_pure]
 | i::l,b,h=>by
  unfold qb at h
  rw [List.forIn_cons,Sem.run_bind]
  split at h
  case h_2=>cases h
  rename_i a c ha hc
  split at h
  case h_2=>cases h
  rename_i p q hp hq
  simp only [jIj] at h;subst h
  simp only [Sem.run_bind,Vd ha w,Vd hc w,hf _ _ _ _ hp,Result.andThen_ok]
  cases p with
  | true =>
   simp only [Bool.not_true,Bool.false_eq_true,if_false,Sem.run_pure,Result.andThen_ok,Bool.true_and]
   exact zK hf xs ys t n l q hq
  | false=>simp [Sem.run_pure,Result.andThen_ok]
theorem wk (w:World):∀ (d D:Nat) (t:TypeId) (x y:Value) (b:Bool),d≤D→eqA cx.P d t x y=some b→(Op.equalIn D t x y).run cx.P w=.ok b w
 | 0,_,_,_,_,_,_,h=>by simp [eqA] at h
 | d+1,0,_,_,_,_,hd,_=>by omega
 | d+1,D+1,t,x,y,b,hd,h=>by
  unfold eqA at h
  unfold Op.equalIn
  split at h
  ·rename_i hu
   simp only [jIj] at h;subst h
   simp only [Sem.run_bind,Qn hu w,Result.andThen_ok,Sem.run_pure]
  ·rename_i hu
   split at h
   ·rename_i hk
    simp only [jIj] at h;subst h
    simp only [Sem.run_bind,Qn hu w,Result.andThen_ok,of_decide_eq_true hk,if_true,Sem.run_pure]
   ·cases h
  ·rename_i hu
   simp only [jIj] at h;subst h
   simp only [Sem.run_bind,Qn hu w,Result.andThen_ok,Sem.run_pure]
  ·rename_i hu
   split at h
   ·rename_i hk
    simp only [jIj] at h;subst h
    simp only [Sem.run_bind,Qn hu w,Result.andThen_ok,of_decide_eq_true hk,if_true,Sem.run_pure]
   ·cases h
  ·rename_i fields xs ys hu
   split at h
   ·cases h
   rename_i hst
   have:=GM (g:=Op.equalIn D) (fun t a b p hp=>wk w d D t a b p (by omega) hp) xs ys _ _ h
   simp only [Sem.run_bind,Qn hu w,run_program,Result.andThen_ok,hst,Bool.false_eq_true,if_false]
   rw [← Array.forIn_toList,this]
   cases b <;> simp [Result.andThen_ok,Sem.run_pure]
  ·rename_i len elem xs ys hu
   split at h
   case h_2=>cases h
   rename_i i hi
   have hsz:cx.sz elem=some i.size:=by unfold Cx.sz;rw [hi]
   have:=zK (g:=Op.equalIn D) (fun t a b p hp=>wk w d D t a b p (by omega) hp) xs ys _ _ _ _ h
   simp only [Sem.run_bind,Qn hu w,Zc hsz w,Result.andThen_ok]
   rw [Std.Legacy.Range.forIn_eq_forIn_range']
   simp only [Std.Legacy.Range.size,Nat.sub_zero,Nat.add_sub_cancel,Nat.div_one]
   rw [this]
   cases b <;> simp [Result.andThen_ok,Sem.run_pure]
  ·cases h
theorem zJ {op:BinOp} {t:TypeId} {x y:Operand} {xs ys:Array Value} (h:cx.P.eqGuardType cx.P.depth t=false) (w:World):(eqGuard op t x y (.agg xs) (.agg ys)).run cx.P w=.ok () w:=by
 unfold eqGuard
 split <;> simp [Sem.run_bind,run_program,Result.andThen_ok,h,Sem.run_pure]
theorem JN (h:HSim cx F hp ρ w) {op:BinOp} (hop:op=.add ∨ op=.sub ∨ op=.mul ∨ op=.quo) {t:TypeId} {x y:Operand} {k k' : FloatKind} {a b:Nat} {q:D} {ob:List Prop} (hr:kY op k k' a b=some (q,ob)) (ho:∀ p,p∈ob→p) :
  ∃ v,(do eqGuard op t x y (.float k a) (.float k' b);binOp op t (.float k a) (.float k' b):Sem Value).run cx.P w=.ok v w∧VR w (MM F hp ρ) hp ρ (.d q) v:=by
 unfold kY at hr
 split at hr
 case h_2=>cases hr
 rename_i hk
 have hk:=of_decide_eq_true hk
 subst hk
 simp only [jIj,jPj] at hr;obtain ⟨rfl,rfl⟩:=hr
 have h1:=ho _ jMj
 obtain ⟨r,h2⟩:=Option.isSome_iff_exists.1 h1
 refine ⟨_,?_,.d _ _ (.v _)⟩
 rw [h2]
 rcases hop with rfl | rfl | rfl | rfl <;> simp only [fop] at h2 <;> simp [eqGuard,binOp,Op.floatArith,h2]
theorem Qak (h:HSim cx F hp ρ w) {s t:TypeId} {a:Value} {q:D} {ob:List Prop} (hr:QcT cx sym s t a=some (q,ob)) (ho:∀ p,p∈ob→p) :
  ∃ v,(convert s t a:Sem Value).run cx.P w=.ok v w∧VR w (MM F hp ρ) hp ρ (.d q) v:=by
 unfold QcT at hr
 split at hr
 ·rename_i k j b hs ht
  simp only [jIj,jPj] at hr;obtain ⟨rfl,rfl⟩:=hr
  have h1:=ho _ jMj
  obtain ⟨r,h2⟩:=Option.isSome_iff_exists.1 h1
  refine ⟨_,?_,.d _ _ (.v _)⟩
  rw [h2]
  simp only [convert,Sem.run_bind,Qn hs w,Qn ht w,Result.andThen_ok]
  unfold f2f at h2
  unfold Conv.floatToFloat
  split at h2
  ·rename_i e;simp only [jIj] at h2;subst h2;rw [jTj e];rfl
  ·rename_i e;rw [jFj e]
   revert h2
   cases j.decode b with
   | nan s t=>intro h2;cases h2
   | infinity s=>intro h2;simp only [jIj] at h2;subst h2;rfl
   | number s m e' =>
    intro h2
    simp only at h2 ⊢
    split at h2
    ·cases h2
    ·rename_i e2;simp only [jIj] at h2;subst h2;rw [jFj e2];rfl
 ·rename_i k j b hs ht
  simp only [jIj,jPj] at hr;obtain ⟨rfl,rfl⟩:=hr
  have h1:=ho _ jMj
  obtain ⟨r,h2⟩:=Option.isSome_iff_exists.1 h1
  refine ⟨_,?_,.d _ _ (.v _)⟩
  rw [h2]
  simp only [convert,Sem.run_bind,Qn hs w,Qn ht w,Result.andThen_ok]
  unfold f2i at h2
  unfold Conv.floatToInt
  split at h2
  ·rename_i n hn
   rw [hn]
   split at h2
   ·rename_i e;simp only [jIj] at h2;subst h2;simp only [jTj e];rfl
   ·cases h2
  ·cases h2
 ·split at hr
  ·rename_i v hv
   simp only [jIj,jPj] at hr;obtain ⟨rfl,rfl⟩:=hr
   exact ⟨v,Vd hv w,JW _ _ _ _ _⟩
  ·cases hr
theorem QbW {x:D} {b:UInt8} (h:QaV x=some b):∃ n:Int,x=.v (.int .u8 n)∧b=UInt8.ofNat n.toNat:=by
 unfold QaV at h
 split at h <;> try cases h
 split at h <;> try cases h
 split at h <;> try cases h
 exact ⟨_,rfl,rfl⟩
theorem kR:∀ {ds:jVj} {l:List UInt8},qV ds=some l→∃ ns:List Int,ds=ns.map (fun n=>.v (.int .u8 n))∧l=ns.map fun n=>UInt8.ofNat n.toNat
 | [],l,h=>by cases h;exact ⟨[],rfl,rfl⟩
 | x::ds,l,h=>by
  unfold qV at h
  split at h
  case h_2=>cases h
  rename_i b bs hb hbs
  cases h
  obtain ⟨n,rfl,rfl⟩:=QbW hb
  obtain ⟨ns,rfl,rfl⟩:=kR hbs
  exact ⟨n::ns,rfl,rfl⟩
theorem wA:∀ (ns:List Int) (s:jSj),ns.foldl (fun r n=>r.push (UInt8.ofNat n.toNat)) s=⟨s.data++(ns.map fun n=>UInt8.ofNat n.toNat).toArray⟩
 | [],s=>by simp
 | n::ns,s=>by
  rw [List.foldl_cons,wA ns]
  simp [ByteArray.push]
theorem zG {P:Program} {w:World} (f:Value→jSj→Sem (ForInStep jSj)) (hf:∀ (n:Int) (r:jSj),(f (.int .u8 n) r).run P w=.ok (.yield (r.push (UInt8.ofNat n.toNat))) w) :
  ∀ (l:List Int) (s:jSj),(forIn (l.map (Value.int .u8)) s f).run P w=.ok (l.foldl (fun r n=>r.push (UInt8.ofNat n.toNat)) s) w
 | [],s=>by simp [Sem.run_pure]
 | n::l,s=>by
  simp only [jCj,List.forIn_cons,Sem.run_bind,hf,Result.andThen_ok,List.foldl_cons]
  exact zG f hf l _
theorem QbB {w:World} {s t e:TypeId} (hs:cx.P.underlying s=some (.slice e)) (ht:cx.P.underlying t=some .string) (he:cx.P.underlying e=some (.int .u8)) {xa:Option Addr} {xc:Nat} {ns:List Int}
  (h:(Builtin.firstCells 1 ns.length (.slice xa ns.length xc)).run cx.P w=.ok (ns.map (Value.int .u8)).toArray w) :
  (convert s t (.slice xa ns.length xc)).run cx.P w=.ok (.string ⟨(ns.map fun n=>UInt8.ofNat n.toNat).toArray⟩) w:=by
 have h1:(convert s t (.slice xa ns.length xc)).run cx.P w=(Conv.bytesToString (.slice xa ns.length xc)).run cx.P w:=by
  simp [convert,Qn hs,Qn ht,Qn he]
 rw [h1]
 cases xa with
 | none =>
  have:ns=[]:=by
   simp [Builtin.firstCells] at h
   cases ns with
   | nil=>rfl
   | cons a l=>simp at h
  subst this
  simp [Conv.bytesToString];rfl
 | some a =>
  have h2:(loadCells a ns.length).run cx.P w=.ok (ns.map (Value.int .u8)).toArray w:=by simpa [Builtin.firstCells] using h
  unfold Conv.bytesToString
  simp only [Sem.run_bind,h2,Result.andThen_ok,List.forIn_toArray]
  rw [zG _ (by intro n r;simp [Sem.run_pure]),wA]
  simp [Sem.run_pure,ByteArray.empty,ByteArray.emptyWithCapacity]
  rfl
theorem ud (h:HSim cx F hp ρ w) {s t:TypeId} {x:AV} {v:Value} (hr:ue cx sym orc hp s t x=some r) (ho:∀ p,p∈r.ob→p) (hx:VR w (MM F hp ρ) hp ρ x v) :
  Good cx F hp ρ w r (do pure (.value (← convert s t v))):=by
 have key:∀ {e:TypeId} {ds:jVj} {fs:List Nat} {l:List UInt8},cx.P.underlying s=some (.slice e)→cx.P.underlying t=some .string→cx.P.underlying e=some (.int .u8)→YR hp x=some (1,ds,fs)→qV ds=some l →
   (convert s t v).run cx.P w=.ok (.string (ByteArray.mk l.toArray)) w:=by
  intro e ds fs l hs ht he ha hb
  obtain ⟨ns,rfl,rfl⟩:=kR hb
  obtain ⟨xa,xc,news,rfl,hnl,hn2,n3,hn4,hn5⟩:=Ui h ha (.inl rfl) hx
  rw [List.length_map] at hnl hn2 ⊢
  refine QbB hs ht he ?_
  rw [hn2 w rfl]
  congr 2
  apply List.ext_getElem?
  intro i
  by_cases hi:i < ns.length
  ·obtain ⟨y,y1,_,y3⟩:=hn5 i (.v (.int .u8 ns[i])) 0 (.v (.int .u8 ns[i])) (by simp [hi]) rfl
   rw [Nat.mul_one,Nat.add_zero] at y1
   rw [y1]
   cases y3
   simp [hi]
  ·rw [List.getElem?_eq_none (by omega),List.getElem?_eq_none (by simp;omega)]
 unfold ue at hr
 split at hr
 case h_2=>cases hr
 rename_i e ds fs hs ht ha
 split at hr
 ·rename_i b o' he _
  simp only [jIj] at hr;subst hr
  have h1:=ho _ jMj
  obtain ⟨l,h2,rfl⟩:=Option.map_eq_some_iff.1 h1
  exact Good.of1 ⟨_,key hs ht he ha h2,OpOK.quiet h (.d _ _ (.v _))⟩
 ·rename_i o' he _
  split at hr
  case h_2=>cases hr
  rename_i l hl
  simp only [jIj] at hr;subst hr
  exact Good.of1 ⟨_,key hs ht he ha hl,OpOK.quiet h (.d _ _ (.v _))⟩
 ·cases hr
theorem Qa5 (h:HSim cx F hp ρ w) {op:BinOp} {t:TypeId} {x y:Operand} {a b:Value} {q:D} {ob:List Prop} (hr:abin cx sym op t x y a b=some (q,ob)) (ho:∀ p,p∈ob→p) :
  ∃ v,(do eqGuard op t x y a b;binOp op t a b:Sem Value).run cx.P w=.ok v w∧VR w (MM F hp ρ) hp ρ (.d q) v:=by
 unfold abin at hr
 split at hr
 ·simp only [jIj,jPj] at hr;obtain ⟨rfl,rfl⟩:=hr
  refine ⟨_,?_,.d _ _ (.v _)⟩
  have:=wc (ho _ jMj)
  simp [eqGuard,binOp,Op.intArith,this]
 ·simp only [jIj,jPj] at hr;obtain ⟨rfl,rfl⟩:=hr
  refine ⟨_,?_,.d _ _ (.v _)⟩
  have:=wc (ho _ jMj)
  simp [eqGuard,binOp,Op.intArith,this]
 ·simp only [jIj,jPj] at hr;obtain ⟨rfl,rfl⟩:=hr
  refine ⟨_,?_,.d _ _ (.v _)⟩
  have:=wc (ho _ jMj)
  simp [eqGuard,binOp,Op.intArith,this]
 ·simp only [jIj,jPj] at hr;obtain ⟨rfl,rfl⟩:=hr
  refine ⟨_,?_,.d _ _ (.v _)⟩
  have h1:=ho _ jMj
  have h2:=wc (ho _ (List.mem_cons_of_mem _ jMj))
  simp [eqGuard,binOp,Op.intDiv,h1,h2]
 ·simp only [jIj,jPj] at hr;obtain ⟨rfl,rfl⟩:=hr
  refine ⟨_,?_,.d _ _ (.v _)⟩
  have h1:=ho _ jMj
  simp [eqGuard,binOp,Op.intDiv,h1]
 ·exact JN h (Or.inl rfl) hr ho
 ·exact JN h (Or.inr (Or.inl rfl)) hr ho
 ·exact JN h (Or.inr (Or.inr (Or.inl rfl))) hr ho
 ·exact JN h (Or.inr (Or.inr (Or.inr rfl))) hr ho
 ·rename_i a b
  simp only [jIj,jPj] at hr;obtain ⟨rfl,rfl⟩:=hr
  refine ⟨_,?_,.d _ _ (.v _)⟩
  have h1:a.size+b.size≤9223372036854775807:=ho _ jMj
  have h2:¬ (((a.size+b.size:Nat):Int) > IntKind.i64.max):=by
   have:IntKind.i64.max=9223372036854775807:=by decide
   rw [this];omega
  simp only [eqGuard,binOp,Op.stringOp,Sem.run_bind,Result.andThen_ok,h2,if_false]
  rfl
 ·split at hr
  case h_2=>cases hr
  rename_i b hg hb
  simp only [jIj,jPj] at hr;obtain ⟨rfl,rfl⟩:=hr
  refine ⟨.bool b,?_,.d _ _ (.v _)⟩
  have h1:=wk w 12 Op.maxDepth _ _ _ _ (by decide) hb
  simp only [Sem.run_bind,zJ hg w,Result.andThen_ok,binOp,Op.equal,h1,Sem.run_pure]
 ·split at hr
  case h_2=>cases hr
  rename_i b hg hb
  simp only [jIj,jPj] at hr;obtain ⟨rfl,rfl⟩:=hr
  refine ⟨.bool !b,?_,.d _ _ (.v _)⟩
  have h1:=wk w 12 Op.maxDepth _ _ _ _ (by decide) hb
  simp only [Sem.run_bind,zJ hg w,Result.andThen_ok,binOp,Op.equal,h1,Sem.run_pure]
 ·split at hr
  ·rename_i v hv
   simp only [jIj,jPj] at hr;obtain ⟨rfl,rfl⟩:=hr
   exact ⟨v,Vd hv w,JW _ _ _ _ _⟩
  ·cases hr
theorem wg (h:HSim cx F hp ρ w) {s:Sem Value} (hr:(match QV cx.P s with | some x=>SX.val1 (.d (ofV x)) orc | none=>none)=some r):Good cx F hp ρ w r (do pure (.value (← s))):=by
 split at hr
 ·rename_i x hx
  exact Good.val1 h hr (Vd hx w) (JW _ _ _ _ _)
 ·cases hr
theorem JC (hev:∀ x,VR w (MM F hp ρ) hp ρ (ev x) (re x)) (l:List Operand) :
  (l.map ev).length=(l.map re).length∧∀ (i:Nat) (c:AV) (y:Value),(l.map ev)[i]?=some c→(l.map re)[i]?=some y→VR w (MM F hp ρ) hp ρ c y:=by
 refine ⟨by simp,fun i c y hc hy=>?_⟩
 simp only [List.getElem?_map] at hc hy
 cases hx:l[i]? with
 | none=>rw [hx] at hc;cases hc
 | some x =>
  rw [hx] at hc hy
  simp only [Option.map_some,jIj] at hc hy
  subst hc;subst hy;exact hev x
theorem GW:∀ (l:List AV) (ys vs:List Value),allV l=some vs→l.length=ys.length→(∀ (i:Nat) (c:AV) (y:Value),l[i]?=some c→ys[i]?=some y→VR w (MM F hp ρ) hp ρ c y)→ys=vs
 | [],ys,vs,h,hl,_=>by simp only [allV,jIj] at h;subst h;cases ys <;> simp_all
 | x::l,ys,vs,h,hl,hh=>by
  simp only [allV] at h
  split at h <;> simp only [jIj,reduceCtorEq] at h
  rename_i v vs' h1 h2;subst h
  cases ys with
  | nil=>simp at hl
  | cons y ys =>
   rw [KH h1 (hh 0 x y rfl rfl),GW l ys vs' h2 (by simpa using hl) (fun i c z hc hz=>hh (i+1) c z (by simpa using hc) (by simpa using hz))]
theorem qe (h:HSim cx F hp ρ w) {x:AV} {v:Value} {es:jVj} (he:Ug hp x=some es) (hx:VR w (MM F hp ρ) hp ρ x v):∃ a c,v=.slice a es.length c:=by
 unfold Ug at he
 split at he
 ·simp only [jIj] at he;subst he
  cases hx with
  | d _ _ hx=>cases hx;exact ⟨_,_,rfl⟩
 ·rename_i b ver
  cases hx with
  | own _ _ k _ hb hv hone hh =>
  rw [hb] at he
  cases k with
  | box _=>simp at he
  | loop _ _ _ _ _ _=>simp at he
  | mp _=>simp at he
  | it _ _=>simp at he
  | fbox _=>simp at he
  | left _=>simp at he
  | dead=>simp at he
  | row ver' sz es' =>
   simp only at he
   split at he <;> simp only [jIj,reduceCtorEq] at he
   rename_i hc;have:=ZZ hc;subst this;subst he
   rcases h.blk b _ hb with ⟨q0,_,q1⟩ | ⟨_,_,_,_,q1,_⟩
   ·rw [hh rfl,q1,q0];exact ⟨_,_,rfl⟩
   ·rw [hh rfl,q1];exact ⟨_,_,rfl⟩
  | frozen ver' sz es' =>
   simp only at he
   split at he <;> simp only [jIj,reduceCtorEq] at he
   rename_i hc;have:=ZZ hc;subst this;subst he
   rw [hh rfl]
   have:=h.blk b _ hb
   simp only [BlkR] at this
   generalize ρ b=bv at this ⊢
   cases this;exact ⟨_,_,rfl⟩
  | virt ver' sz es' =>
   simp only at he
   split at he <;> simp only [jIj,reduceCtorEq] at he
   rename_i hc;have:=ZZ hc;subst this;subst he
   rw [hh rfl]
   have:=h.blk b _ hb
   simp only [BlkR] at this
   generalize ρ b=bv at this ⊢
   cases this;exact ⟨_,_,rfl⟩
 ·rename_i b ver sz lo n
  split at he <;> simp only [jIj,reduceCtorEq] at he
  rename_i hc;subst he
  cases hx with
  | sub _ _ _ _ _ k _ hb hv hone hh =>
   unfold GQ at hc
   rw [hb] at hc
   obtain ⟨r0,c0,_,rfl⟩:=hh (Nat.eq_of_beq_eq_true hc)
   exact ⟨some ⟨r0,lo * sz,none⟩,c0,by rw [List.length_replicate]⟩
 ·cases he
theorem jt (h:HSim cx F hp ρ w) (hev:∀ x,VR w (MM F hp ρ) hp ρ (ev x) (re x)) {name:Nat} {b:Builtin} {ats:Array TypeId} {ty:TypeId} {args:Array Operand} {consts:Array Bool}
  (hr:Gr cx sym orc hp name b ats ty (args.toList.map ev)=some r) (ho:∀ q,q∈r.ob→q):Good cx F hp ρ w r (builtin b ats ty consts (args.map re)):=by
 obtain ⟨l1,l2⟩:=JC hev args.toList
 have hargs:(args.map re).toList=args.toList.map re:=by simp
 unfold Gr at hr
 split at hr
 ·split at hr
  case h_2=>cases hr
  rename_i t t2 rest s x hats hl
  rw [hl] at l1 l2
  have h2:∃ sv xv,args.toList.map re=[sv,xv]:=by
   match hm:args.toList.map re,l1 with
   | [a,b],_=>exact ⟨a,b,rfl⟩
  obtain ⟨sv,xv,h2⟩:=h2
  rw [h2] at l2
  have ha:args.map re=#[sv,xv]:=by rw [← Array.toArray_toList (xs:=args.map re),hargs,h2]
  have hat:ats=(t::t2::rest).toArray:=by rw [← hats]
  rw [ha,hat]
  split at hr
  ·rename_i ht2
   exact Good.of (jP h ht2 hr ho (l2 0 _ _ rfl rfl) (l2 1 _ _ rfl rfl))
  ·exact Good.of (QaJ h hr ho (l2 0 _ _ rfl rfl) (l2 1 _ _ rfl rfl))
 ·split at hr
  case h_2=>cases hr
  rename_i t rest d s hats hl
  rw [hl] at l1 l2
  have h2:∃ sv xv,args.toList.map re=[sv,xv]:=by
   match hm:args.toList.map re,l1 with
   | [a,b],_=>exact ⟨a,b,rfl⟩
  obtain ⟨sv,xv,h2⟩:=h2
  rw [h2] at l2
  have ha:args.map re=#[sv,xv]:=by rw [← Array.toArray_toList (xs:=args.map re),hargs,h2]
  have hat:ats=(t::rest).toArray:=by rw [← hats]
  rw [ha,hat]
  exact Good.of (QaT h hr (l2 0 _ _ rfl rfl) (l2 1 _ _ rfl rfl))
 ·split at hr
  case h_2=>cases hr
  rename_i x hl
  rw [hl] at l1 l2
  have h2:∃ xv,args.toList.map re=[xv]:=by
   match hm:args.toList.map re,l1 with
   | [a],_=>exact ⟨a,rfl⟩
  obtain ⟨xv,h2⟩:=h2
  rw [h2] at l2
  have ha:args.map re=#[xv]:=by rw [← Array.toArray_toList (xs:=args.map re),hargs,h2]
  rw [ha]
  have hx:=l2 0 _ _ rfl rfl
  split at hr
  ·rename_i es hes
   split at hr
   case h_2=>cases hr
   rename_i t rest hats
   split at hr
   case h_2=>cases hr
   rename_i e hu
   have hat:ats=(t::rest).toArray:=by rw [← hats]
   obtain ⟨a,c,rfl⟩:=qe h hes hx
   refine Good.val1 h hr (v:=.int .i64 es.length) ?_ (.d _ _ (.v _))
   have h1:=Qn hu w
   rw [hat]
   simp [Builtin.len_,h1,goInt]
  ·split at hr
   case h_2=>cases hr
   rename_i v hv
   rw [KH hv hx]
   exact wg h hr
 ·split at hr
  case h_2=>cases hr
  rename_i vs hvs
  have:=GW _ _ vs hvs l1 l2
  have ha:args.map re=vs.toArray:=by rw [← Array.toArray_toList (xs:=args.map re),hargs,this]
  rw [ha]
  exact wg h hr
 ·split at hr
  case h_2=>cases hr
  rename_i vs hvs
  have:=GW _ _ vs hvs l1 l2
  have ha:args.map re=vs.toArray:=by rw [← Array.toArray_toList (xs:=args.map re),hargs,this]
  rw [ha]
  exact wg h hr
 ·split at hr
  case h_2=>cases hr
  rename_i fz es t rest hl hats
  split at hr
  case h_2=>cases hr
  rename_i e hu
  rw [hl] at l1 l2
  have h2:∃ xv,args.toList.map re=[xv]:=by
   match hm:args.toList.map re,l1 with
   | [a],_=>exact ⟨a,rfl⟩
  obtain ⟨xv,h2⟩:=h2
  rw [h2] at l2
  have ha:args.map re=#[xv]:=by rw [← Array.toArray_toList (xs:=args.map re),hargs,h2]
  rw [ha]
  have hx:=l2 0 _ _ rfl rfl
  have hat:ats=(t::rest).toArray:=by rw [← hats]
  rw [hat]
  cases hx with
  | d _ _ hx =>
   cases hx with
   | lst _ _ _ a cap blk off ys hf hc hb hs' hw hd' =>
    refine Good.val1 h hr (v:=.int .i64 es.length) ?_ (.d _ _ (.v _))
    have h1:=Qn hu w
    simp [Builtin.cap_,h1,goInt,hf rfl]
 ·split at hr
  case h_2=>cases hr
  rename_i x t rest hl hats
  rw [hl] at l1 l2
  have h2:∃ xv,args.toList.map re=[xv]:=by
   match hm:args.toList.map re,l1 with
   | [a],_=>exact ⟨a,rfl⟩
  obtain ⟨xv,h2⟩:=h2
  rw [h2] at l2
  have ha:args.map re=#[xv]:=by rw [← Array.toArray_toList (xs:=args.map re),hargs,h2]
  have hat:ats=(t::rest).toArray:=by rw [← hats]
  rw [ha,hat]
  exact Good.of (Qae h hr ho (l2 0 _ _ rfl rfl))
 ·cases hr
theorem QcI {cx:Cx} (w:World) (d:Nat) (t e:TypeId) (a:Addr) (l c:Nat) (h:cx.P.underlying t=some (.slice e)):(Op.equalIn (d+1) t (.slice (some a) l c) (.slice none 0 0)).run cx.P w=.ok false w:=by
 simp [Op.equalIn,Sem.run_bind,Qn h w,Result.andThen_ok,Sem.run_pure]
theorem kL {cx:Cx} (w:World) (t e:TypeId) (a:Addr) (l c:Nat) (h:cx.P.underlying t=some (.slice e)):(Op.equal t (.slice (some a) l c) (.slice none 0 0)).run cx.P w=.ok false w:=QcI w 9999 t e a l c h
theorem yA {M:Nat→Prop} (hcst:∀ v,re (.const v)=v) {op:BinOp} {t:TypeId} {x:AV} {xo y:Operand} {v:Value} {q:D} {ob:List Prop} (hr:Xl cx op t x y=some (q,ob)) (ho:∀ p,p∈ob→p) (hx:VR w M hp ρ x v) :
  ∃ u,(do eqGuard op t xo y v (re y);binOp op t v (re y):Sem Value).run cx.P w=.ok u w∧VR w (MM F hp ρ) hp ρ (.d q) u:=by
 unfold Xl at hr
 have key:∀ (elem:TypeId) (full:Bool) (sz:Nat) (es:List SX.D),cx.P.underlying t=some (.slice elem)→x=.d (.lst full sz es)→es≠[]→∃ a n c,v=.slice (some a) n c:=by
  intro elem full sz es _ hxe hne
  subst hxe
  cases hx with
  | d _ _ hx =>
   cases hx with
   | lst _ _ _ a cap blk off ys hf hc ha hs' hw hd' =>
    obtain ⟨g1,_⟩:=ha hne
    subst g1
    exact ⟨_,_,_,rfl⟩
 split at hr
 ·rename_i hu
  simp only [jIj,jPj] at hr;obtain ⟨rfl,rfl⟩:=hr
  obtain ⟨a,n,c,rfl⟩:=key _ _ _ _ hu rfl (ho _ jMj)
  rw [hcst]
  refine ⟨.bool false,?_,.d _ _ (.v _)⟩
  have h1:=kL w t _ a n c hu
  simp [eqGuard,binOp,h1]
 ·rename_i hu
  simp only [jIj,jPj] at hr;obtain ⟨rfl,rfl⟩:=hr
  obtain ⟨a,n,c,rfl⟩:=key _ _ _ _ hu rfl (ho _ jMj)
  rw [hcst]
  refine ⟨.bool true,?_,.d _ _ (.v _)⟩
  have h1:=kL w t _ a n c hu
  simp [eqGuard,binOp,h1]
 ·cases hr
theorem QcH {cx:Cx} (w:World) (d:Nat) (t e:TypeId) (a:Addr) (h:cx.P.underlying t=some (.pointer e)):(Op.equalIn (d+1) t (.pointer (some a)) (.pointer none)).run cx.P w=.ok false w:=by
 simp [Op.equalIn,Sem.run_bind,Qn h w,Result.andThen_ok,Sem.run_pure]
theorem kK {cx:Cx} (w:World) (t e:TypeId) (a:Addr) (h:cx.P.underlying t=some (.pointer e)):(Op.equal t (.pointer (some a)) (.pointer none)).run cx.P w=.ok false w:=QcH w 9999 t e a h
theorem wR {M:Nat→Prop} {x:AV} {v:Value} (h:qN hp x=true) (hx:VR w M hp ρ x v):∃ a,v=.pointer (some a):=by
 cases x with
 | ptr b ver sz i off =>
  cases hx with
  | ptr _ _ _ _ _ k _ hb hv ho hh =>
   simp only [qN,hb] at h
   obtain ⟨r,_,hy⟩:=hh (Nat.eq_of_beq_eq_true h).symm
   exact ⟨_,hy⟩
 | dptr y o =>
  cases hx with
  | dptr _ _ blk o' hd=>exact ⟨_,rfl⟩
 | _=>cases h
theorem jC {M:Nat→Prop} (hcst:∀ v,re (.const v)=v) {op:BinOp} {t:TypeId} {x:AV} {xo y:Operand} {v:Value} {q:D} {ob:List Prop} (hr:YI hp cx op t x y=some (q,ob)) (hx:VR w M hp ρ x v) :
  ∃ u,(do eqGuard op t xo y v (re y);binOp op t v (re y):Sem Value).run cx.P w=.ok u w∧VR w (MM F hp ρ) hp ρ (.d q) u:=by
 unfold YI at hr
 split at hr
 ·rename_i hu hp'
  simp only [jIj,jPj] at hr;obtain ⟨rfl,rfl⟩:=hr
  obtain ⟨a,rfl⟩:=wR hp' hx
  rw [hcst]
  refine ⟨.bool false,?_,.d _ _ (.v _)⟩
  have h1:=kK w t _ a hu
  simp [eqGuard,binOp,h1]
 ·rename_i hu hp'
  simp only [jIj,jPj] at hr;obtain ⟨rfl,rfl⟩:=hr
  obtain ⟨a,rfl⟩:=wR hp' hx
  rw [hcst]
  refine ⟨.bool true,?_,.d _ _ (.v _)⟩
  have h1:=kK w t _ a hu
  simp [eqGuard,binOp,h1]
 ·cases hr
theorem QbR {k:Blk} {x:SX.D} (h:QcE k=some x):k=.fbox x:=by
 cases k <;> first | (cases h;rfl) | cases h
theorem Qbw (h:HSim cx F hp ρ w) {x:AV} {y:Value} (hv:VR w (MM F hp ρ) hp ρ x y):VR w (MM F hp ρ) hp ρ (unf hp x) y:=by
 cases x with
 | ptr b ver sz i off =>
  show VR w (MM F hp ρ) hp ρ (ya hp b ver sz i off) y
  unfold ya
  cases hl:Ea hp b with
  | none=>exact hv
  | some x =>
   unfold Ea at hl
   cases hb:look hp b with
   | none=>rw [hb] at hl;cases hl
   | some k =>
    rw [hb] at hl
    have hk:=QbR hl
    subst hk
    simp only
    cases hc:Nat.beq ver 0 && Nat.beq i 0 with
    | false=>exact hv
    | true =>
     simp only [jAj] at hc
     have h1:=ZZ hc.1
     have h2:=ZZ hc.2
     subst h1;subst h2
     cases hv with
     | ptr _ _ _ _ _ k' _ hb' _ _ hh =>
      rw [hb] at hb';cases hb'
      obtain ⟨r,hr,hy⟩:=hh rfl
      obtain ⟨r',q1,q2⟩:=h.blk b _ hb
      rw [q1] at hr
      have:r'=r:=by simpa [Q9] using hr
      subst this
      rw [hy,Nat.zero_mul]
      exact .dptr x off _ 0 q2
 | d _=>exact hv
 | agg _=>exact hv
 | tup _=>exact hv
 | dptr _ _=>exact hv
 | own _ _=>exact hv
 | sub _ _ _ _ _=>exact hv
 | fn _ _ _=>exact hv
 | junk=>exact hv
theorem kU (h:HSim cx F hp ρ w) (hcst:∀ v,re (.const v)=v) (hev:∀ x,VR w (MM F hp ρ) hp ρ (ev x) (re x)) {name:Nat} {o:Oper} (hr:aop cx sym orc hp name ev o=some r) (ho:∀ q,q∈r.ob→q) :
  Good cx F hp ρ w r (execOp re o):=by
 cases hop:o.op with
 | move x=>simp only [aop,hop] at hr;simp only [execOp,hop];exact Good.pure1 h hr (hev x)
 | assign x=>simp only [aop,hop] at hr;simp only [execOp,hop];exact Good.pure1 h hr (hev x)
 | pick c a b =>
  simp only [aop,hop] at hr;simp only [execOp,hop]
  have hc:=hev c
  split at hr
  ·rename_i e
   rw [e] at hc
   rw [jy hc]
   exact Good.pure1 (v:=re a) h hr (hev a)
  ·rename_i e
   rw [e] at hc
   rw [jy hc]
   exact Good.pure1 (v:=re b) h hr (hev b)
  ·cases hr
 | alloc elem =>
  simp only [aop,hop] at hr;simp only [execOp,hop]
  split at hr
  case h_2=>cases hr
  rename_i z hz hn
  split at hr
  case h_2=>cases hr
  rename_i cs hcs
  simp only [jIj] at hr;subst hr
  refine Good.of ⟨_,_,?_,GH h hn hcs (JW _ _ _ _ z) elem⟩
  have h1:=Y4 hz w
  simp [Instr.alloc,h1,newVar,newRow]
 | box elem x =>
  simp only [aop,hop] at hr;simp only [execOp,hop]
  split at hr
  case h_2=>cases hr
  rename_i cs hcs hn
  simp only [jIj] at hr;subst hr
  exact Good.of ⟨_,_,rfl,GH h hn hcs (hev x) elem⟩
 | build t parts =>
  simp only [aop,hop] at hr;simp only [execOp,hop]
  split at hr
  case h_2=>cases hr
  rename_i y hy
  obtain ⟨v,v1,v2⟩:=Qaf hev hy
  exact Good.val1 h hr v1 v2
 | buildSlice t len parts =>
  simp only [aop,hop] at hr;simp only [execOp,hop]
  split at hr
  ·rename_i hpe
   exact Good.of (yr h hev hpe hr)
  split at hr
  case h_2=>cases hr
  rename_i elem hu
  split at hr
  case h_2=>cases hr
  rename_i s z hs hz
  split at hr
  case h_2=>cases hr
  rename_i es fs hl
  split at hr
  case h_2=>cases hr
  rename_i hc
  simp only [jAj] at hc
  simp only [jIj] at hr;subst hr
  exact Good.of (qW h hev hu hs hz hl (Nat.le_of_ble_eq_true hc.1) (ZZ hc.2))
 | load t a =>
  simp only [aop,hop] at hr;simp only [execOp,hop]
  have ha:=Qbw h (hev a)
  split at hr
  ·rename_i s g b ver sz i off hs hg e
   rw [e] at ha
   split at hr
   case h_2=>cases hr
   rename_i x ob o' hbl
   split at hr
   case h_2=>cases hr
   rename_i y hy
   simp only [jIj] at hr;subst hr
   obtain ⟨v,v1,v2⟩:=wK h ha hs hg hbl ho hy
   exact Good.of1 ⟨v,v1,OpOK.quiet h v2⟩
  ·rename_i s g x off hs hg e
   rw [e] at ha
   split at hr
   case h_2=>cases hr
   rename_i y hy
   obtain ⟨v,v1,v2⟩:=uZ (hp:=hp) ha hs hg hy
   exact Good.val1 h hr v1 v2
  ·cases hr
 | store t a x =>
  simp only [aop,hop] at hr;simp only [execOp,hop]
  obtain ⟨w',h1,h2⟩:=um h (hev a) (hev x) hr ho
  exact ⟨undef,w',.inr ⟨by simp only [Sem.run_bind,h1,Result.andThen_ok,Sem.run_pure],rfl⟩,h2⟩
 | nilCheck x =>
  simp only [aop,hop] at hr;simp only [execOp,hop]
  have hx:=hev x
  split at hr
  ·rename_i b v s i f e
   rw [e] at hx
   split at hr
   case h_2=>cases hr
   rename_i hcu
   generalize re x=xv at hx ⊢
   cases hx with
   | ptr _ _ _ _ _ kk _ hb hv hone hh =>
    obtain ⟨r0,hr0,rfl⟩:=hh (JG hcu hb)
    exact Good.pure1 (orc:=orc) (v:=.pointer (some ⟨r0,i * s+f,none⟩)) h hr (.ptr b v s i f kk _ hb hv hone fun _=>⟨r0,hr0,rfl⟩)
  ·rename_i y f e
   rw [e] at hx
   generalize re x=xv at hx ⊢
   cases hx with
   | dptr _ _ blk o hd=>exact Good.pure1 (orc:=orc) h hr (.dptr y f blk o hd)
  ·rename_i g a b e
   rw [e] at hx
   generalize re x=xv at hx ⊢
   cases hx with
   | fn _ _ _ xs ys hl hm hh hk=>exact Good.pure1 (orc:=orc) h hr (.fn _ a b xs ys hl hm hh hk)
  ·rename_i g a b e
   rw [e] at hx
   generalize re x=xv at hx ⊢
   cases hx with
   | d _ _ hx =>
    cases hx with
    | fn _ _ _ xs ys hl hm hh hk=>exact Good.pure1 (orc:=orc) h hr (.d _ _ (.fn _ a b xs ys hl hm hh hk))
  ·cases hr
 | binOp op t x y yt =>
  simp only [aop,hop] at hr;simp only [execOp,hop]
  split at hr
  case h_2 =>
   split at hr
   ·rename_i q ob hq
    simp only [jIj] at hr;subst hr
    obtain ⟨v,v1,v2⟩:=jC hcst hq (hev x)
    exact Good.of1 ⟨v,v1,OpOK.quiet h v2⟩
   split at hr
   case h_2=>cases hr
   rename_i q ob hq
   simp only [jIj] at hr;subst hr
   obtain ⟨v,v1,v2⟩:=yA hcst hq ho (hev x)
   exact Good.of1 ⟨v,v1,OpOK.quiet h v2⟩
  rename_i a b ha hb
  split at hr
  case h_2=>cases hr
  rename_i q ob hq
  simp only [jIj] at hr;subst hr
  rw [KH ha (hev x),KH hb (hev y)]
  obtain ⟨v,v1,v2⟩:=Qa5 h hq ho
  exact Good.of1 ⟨v,v1,OpOK.quiet h v2⟩
 | unOp op t x =>
  simp only [aop,hop] at hr;simp only [execOp,hop]
  split at hr
  case h_2=>cases hr
  rename_i a ha
  rw [KH ha (hev x)]
  exact wg h hr
 | convert s t x =>
  simp only [aop,hop] at hr;simp only [execOp,hop]
  split at hr
  case h_2=>exact ud h hr ho (hev x)
  rename_i a ha
  split at hr
  case h_2=>cases hr
  rename_i q ob hq
  simp only [jIj] at hr;subst hr
  rw [KH ha (hev x)]
  obtain ⟨v,v1,v2⟩:=Qak h hq ho
  exact Good.of1 ⟨v,v1,OpOK.quiet h v2⟩
 | makeFunc f first cap =>
  simp only [aop,hop] at hr;simp only [execOp,hop]
  obtain ⟨a1,a2⟩:=JC hev first.toList
  obtain ⟨b1,b2⟩:=JC hev cap.toList
  refine Good.val1 h hr (v:=.func f (first.map re) (cap.map re)) rfl (Yn ?_)
  have:=VR.fn (w:=w) (M:=MM F hp ρ) (hp:=hp) (ρ:=ρ) f _ _ _ _ a1 b1 a2 b2
  have e1:(first.toList.map re).toArray=first.map re:=by rw [← Array.toList_map]
  have e2:(cap.toList.map re).toArray=cap.map re:=by rw [← Array.toList_map]
  rw [e1,e2] at this
  exact this
 | makeSlice t l c =>
  simp only [aop,hop] at hr;simp only [execOp,hop]
  have hl:=hev l
  have hc:=hev c
  split at hr
  case h_2=>cases hr
  rename_i elem kn n km m hu el ec hn
  rw [el] at hl;rw [ec] at hc
  split at hr
  case h_2=>cases hr
  rename_i s z b hs hz hb
  split at hr
  case h_2=>cases hr
  rename_i ob o' how hok
  simp only [jIj] at hr;subst hr
  rw [jy hl,jy hc]
  exact Good.of (zR h hu hs hz hb hn hok (Wo how ho))
 | slice t x lo hi mx =>
  simp only [aop,hop] at hr;simp only [execOp,hop]
  split at hr
  ·rename_i b ver sz i off hex
   have hx:=hev x
   rw [hex] at hx
   obtain ⟨hw,hg⟩:=wt h hr hx
   simp only [jAj,Option.isNone_iff_eq_none] at hw
   obtain ⟨⟨rfl,rfl⟩,rfl⟩:=hw
   exact Good.of1 hg
  ·split at hr
   ·rename_i q hq
    simp only [jIj] at hr;subst hr
    exact Good.of1 (jM h hev hq ho)
   ·split at hr
    ·rename_i q hq
     simp only [jIj] at hr;subst hr
     exact Good.of1 (QaX h hev hq ho)
    ·exact Good.of1 (yU h hev hr ho)
 | fieldAddr s x f =>
  simp only [aop,hop] at hr;simp only [execOp,hop]
  have hx:=hev x
  split at hr
  case h_2=>cases hr
  rename_i fd hfd
  split at hr
  case h_2=>cases hr
  rename_i n hn
  obtain ⟨fields,hu,hf⟩:=zI hfd
  have h1:=Qn hu w
  have h2:=Zc hn w
  split at hr
  ·rename_i b v sz i off hz e
   rw [e] at hx
   split at hr
   case h_2=>cases hr
   rename_i hcu
   have hn0:n≠0:=fun e=>by subst e;cases hz
   generalize re x=xv at hx ⊢
   cases hx with
   | ptr _ _ _ _ _ kk _ hb hv hone hh =>
    obtain ⟨r0,hr0,rfl⟩:=hh (JG hcu hb)
    refine Good.val1 (v:=.pointer (some ⟨r0,i * sz+(off+fd.offset),none⟩)) h hr ?_ (.ptr b v sz i _ kk _ hb hv rfl fun _=>⟨r0,hr0,rfl⟩)
    simp [Instr.fieldAt,h1,hf,Instr.sureAddr,fieldPlace,h2,hn0,add_at,Nat.add_assoc]
  ·rename_i y off hz e
   rw [e] at hx
   have hn0:n≠0:=fun e=>by subst e;cases hz
   generalize re x=xv at hx ⊢
   cases hx with
   | dptr _ _ blk o hd =>
    refine Good.val1 (v:=.pointer (some ⟨blk,o+(off+fd.offset),none⟩)) h hr ?_ (.dptr y _ blk o hd)
    simp [Instr.fieldAt,h1,hf,Instr.sureAddr,fieldPlace,h2,hn0,add_at,Nat.add_assoc]
  ·cases hr
 | field s x f =>
  simp only [aop,hop] at hr;simp only [execOp,hop]
  have hx:=hev x
  split at hr
  case h_2=>cases hr
  rename_i fd hfd
  obtain ⟨fields,hu,hf⟩:=zI hfd
  have h1:=Qn hu w
  split at hr
  ·rename_i n g cs hn hg e
   rw [e] at hx
   split at hr
   case h_2=>cases hr
   rename_i y hy
   obtain ⟨C,hC⟩:=za rfl hx
   rw [hC] at hx ⊢
   obtain ⟨v,v1,v2⟩:=Ew hn hg hx hy
   refine Good.val1 (v:=v) h hr ?_ v2
   simp [Instr.field,h1,hf,asAgg,v1]
  ·rename_i n g cs hn hg e
   rw [e] at hx
   split at hr
   case h_2=>cases hr
   rename_i y hy
   obtain ⟨C,hC⟩:=za rfl hx
   rw [hC] at hx ⊢
   obtain ⟨v,v1,v2⟩:=Ew hn hg hx hy
   refine Good.val1 (v:=v) h hr ?_ v2
   simp [Instr.field,h1,hf,asAgg,v1]
  ·cases hr
 | indexAddr t x ix =>
  simp only [aop,hop] at hr;simp only [execOp,hop]
  have hi:=hev ix
  split at hr
  case h_2=>cases hr
  rename_i k i e
  rw [e] at hi
  rw [jy hi]
  exact Good.of1 (qZ h hr ho (hev x))
 | index t x ix =>
  simp only [aop,hop] at hr;simp only [execOp,hop]
  split at hr
  case h_2=>cases hr
  rename_i i hi
  exact Good.of1 (ua h hr ho (hev x) (KH hi (hev ix)))
 | extract x i =>
  simp only [aop,hop] at hr;simp only [execOp,hop]
  have hx:=hev x
  split at hr
  ·rename_i vs e
   rw [e] at hx
   split at hr
   case h_2=>cases hr
   rename_i y hy
   rw [ZR] at hy
   generalize re x=xv at hx ⊢
   cases hx with
   | tup _ ys hl hh =>
    have hlt:i < ys.length:=by rw [← hl];exact (jGj hy).1
    refine Good.val1 (v:=ys[i]) h hr ?_ (hh i y _ hy (by simp [hlt]))
    simp [Instr.extract,hlt]
  ·rename_i vs e
   rw [e] at hx
   split at hr
   case h_2=>cases hr
   rename_i y hy
   rw [ZR] at hy
   generalize re x=xv at hx ⊢
   cases hx with
   | d _ _ hx =>
   cases hx with
   | tup _ ys hl hh =>
    have hlt:i < ys.length:=by rw [← hl];exact (jGj hy).1
    refine Good.val1 (v:=ys[i]) h hr ?_ (.d _ _ (hh i y _ hy (by simp [hlt])))
    simp [Instr.extract,hlt]
  ·cases hr
 | call c =>
  obtain ⟨callee,args,ats⟩:=c
  cases callee with
  | builtin b =>
   simp only [aop,hop] at hr;simp only [execOp,hop]
   have:=jt (consts:=args.map fun | .const _=>true | _=>false) h hev hr ho
   simp only [resolve,pure_bind,invoke]
   exact this
  | _=>simp only [aop,hop] at hr;cases hr
 | makeMap t q =>
  simp only [aop,hop] at hr;simp only [execOp,hop]
  split at hr
  case h_2=>cases hr
  rename_i hn
  simp only [jIj] at hr;subst hr
  exact Good.of (jE h t hn)
 | mapUpdate t m k x =>
  simp only [aop,hop] at hr;simp only [execOp,hop]
  obtain ⟨w',h1,h2⟩:=G0 h hr ho (hev m) (hev k) (hev x)
  exact ⟨undef,w',.inr ⟨by simp only [Sem.run_bind,h1,Result.andThen_ok,Sem.run_pure],rfl⟩,h2⟩
 | insert t m k x =>
  simp only [aop,hop] at hr;simp only [execOp,hop]
  obtain ⟨w',h1,h2⟩:=G0 h hr ho (hev m) (hev k) (hev x)
  exact ⟨undef,w',.inr ⟨by simp only [Sem.run_bind,h1,Result.andThen_ok,Sem.run_pure],rfl⟩,h2⟩
 | lookup t m k ok =>
  simp only [aop,hop] at hr;simp only [execOp,hop]
  exact Good.of1 (yF h hr ho (hev m) (hev k))
 | range t x =>
  simp only [aop,hop] at hr;simp only [execOp,hop]
  exact Good.of (uz h hr (hev x))
 | next x isS =>
  simp only [aop,hop] at hr;simp only [execOp,hop]
  cases isS with
  | false=>cases hr
  | true=>exact Good.of (QaA h hr ho (hev x))
 | _=>simp only [aop,hop] at hr;cases hr
end
end Go.SX
