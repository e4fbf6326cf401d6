/- Own texts. -/
import Derived.Test.YthdghjjahodkaaaGreatDoorSxNine
import Derived.Scope
import Derived.Orders
import Derived.OrdersIn
import Derived.RangeFuncLeaves
import Derived.RangeFuncRecord
import Derived.RangeFuncCalls
set_option linter.unusedSimpArgs false
set_option linter.unusedVariables false
set_option linter.unusedSectionVars false
namespace Go.SX
variable [DrawMode]
section
variable {cx:Cx}{F:Nat->Prop}{hp:List (Nat×Blk)}{ρ:Nat->Value}{w:World}{re:Operand->Value}{ev:Operand->AV}{sym:Bool}{orc:List Orc}{r:R}
theorem Qa6 {P:Program}{s:Sem Value}{v:Value}{w w' : World}(h:s.run P w=.ok v w'):(do pure (Next.value (<-s)):Sem Next).run P w=.ok (.value v) w':=by simp only[Sem.run_bind,h,Result.andThen_ok,Sem.run_pure]
theorem Good.of {s:Sem Value}(h:∃v w',s.run cx.P w=.ok v w'/\OpOK cx F hp ρ w r.up r.val v w'):Good cx F hp ρ w r (do pure (.value (<-s))):=by obtain⟨v,w',a,b⟩:=h;exact⟨v,w',.inl (Qa6 a),b⟩
theorem Good.of1 {s:Sem Value}(h:∃v,s.run cx.P w=.ok v w/\OpOK cx F hp ρ w r.up r.val v w):Good cx F hp ρ w r (do pure (.value (<-s))):=by obtain⟨v,a,b⟩:=h;exact⟨v,w,.inl (Qa6 a),b⟩
theorem Good.val1 (h:HSim cx F hp ρ w){x:AV}{v:Value}{s:Sem Value}(a:val1 x orc=some r)(b:s.run cx.P w=.ok v w)(c:VR w (MM F hp ρ) hp ρ x v):Good cx F hp ρ w r (do pure (.value (<-s))):=by simp only[SX.val1,jIj] at a;subst a;exact Good.of1 ⟨v,b,OpOK.quiet h c⟩
theorem Good.pure1 (h:HSim cx F hp ρ w){x:AV}{v:Value}(a:SX.val1 x orc=some r)(b:VR w (MM F hp ρ) hp ρ x v):Good cx F hp ρ w r (pure (.value v)):=by simp only[SX.val1,jIj] at a;subst a;exact⟨v,w,.inl rfl,OpOK.quiet h b⟩
theorem yJ {n:Int}(h:Qg n):IntKind.i64.wrap n=n:=by rw[IntKind.wrap_i64];unfold Qg at h;omega
theorem Ef {P:Program}{w:World}{f:TypeId->Value->Value->Option Bool}{g:TypeId->Value->Value->Sem Bool}(e:∀t a b p,f t a b=some p->(g t a b).run P w=.ok p w)(xs ys:Array Value) :
  ∀(l:List Field) (b:Bool),Xv P f xs ys l=some b ->
   (forIn l (none,()) fun(fd:Field) (_:Option Bool×Unit)=>(if fd.name≠ "_" then do
     let a <-part fd.type xs fd.offset;let c <-part fd.type ys fd.offset;let r <-g fd.type a c;if(!r)=true then pure (ForInStep.done (some false,())) else pure (ForInStep.yield (none,()))
    else pure (ForInStep.yield (none,())):Sem (ForInStep (Option Bool×Unit)))).run P w=.ok (if b then(none,()) else(some false,())) w
 | [],b,h=>by simp only[Xv,jIj] at h;subst h;simp[Sem.run_pure]
 | fd::l,b,h=>by
  unfold Xv at h;rw[List.forIn_cons,Sem.run_bind];split at h
  ·rename_i i;have d : fd.name= "_":=by simpa using i
   simp only[d,ne_eq,not_true_eq_false,if_false,Sem.run_pure,Result.andThen_ok];exact Ef e xs ys l b h
  ·rename_i i;have d : fd.name≠ "_":=by simpa using i
   split at h;case h_2=>cases h
   rename_i a c j hc;split at h;case h_2=>cases h
   rename_i p q hp k;simp only[jIj] at h;subst h;rw[jTj d];simp only[Sem.run_bind,VP j w,VP hc w,e _ _ _ _ hp,Result.andThen_ok];cases p with
   | true =>
    simp only[Bool.not_true,Bool.false_eq_true,if_false,Sem.run_pure,Result.andThen_ok,Bool.true_and];exact Ef e xs ys l q k
   | false=>simp[Sem.run_pure,Result.andThen_ok]
theorem yi {P:Program}{w:World}{f:TypeId->Value->Value->Option Bool}{g:TypeId->Value->Value->Sem Bool}(d:∀t a b p,f t a b=some p->(g t a b).run P w=.ok p w)(xs ys:Array Value)(t:TypeId)(n:Nat) :
  ∀(l:List Nat) (b:Bool),wT P f xs ys t n l=some b ->
   (forIn l (none,()) fun(i:Nat) (_:Option Bool×Unit)=>(do
     let a <-part t xs (i*n);let c <-part t ys (i*n);let r <-g t a c;if(!r)=true then pure (ForInStep.done (some false,())) else pure (ForInStep.yield (none,())):Sem (ForInStep (Option Bool×Unit)))).run P w=.ok (if b then(none,()) else(some false,())) w
 | [],b,h=>by simp only[wT,jIj] at h;subst h;simp[Sem.run_pure]
 | i::l,b,h=>by
  unfold wT at h;rw[List.forIn_cons,Sem.run_bind];split at h;case h_2=>cases h
  rename_i a c e hc;split at h;case h_2=>cases h
  rename_i p q hp j;simp only[jIj] at h;subst h;simp only[Sem.run_bind,VP e w,VP hc w,d _ _ _ _ hp,Result.andThen_ok];cases p with
  | true =>
   simp only[Bool.not_true,Bool.false_eq_true,if_false,Sem.run_pure,Result.andThen_ok,Bool.true_and];exact yi d xs ys t n l q j
  | false=>simp[Sem.run_pure,Result.andThen_ok]
theorem yQ (w:World):∀(d D:Nat) (t:TypeId) (x y:Value) (b:Bool),d<=D->eqA cx.P d t x y=some b->(Op.equalIn D t x y).run cx.P w=.ok b w
 | 0,_,_,_,_,_,_,h=>by simp[eqA] at h
 | d+1,0,_,_,_,_,hd,_=>by omega
 | d+1,D+1,t,x,y,b,hd,h=>by
  unfold eqA at h;unfold Op.equalIn;split at h
  ·rename_i c;simp only[jIj] at h;subst h;simp only[Sem.run_bind,Qk c w,Result.andThen_ok,Sem.run_pure]
  ·rename_i c;split at h
   ·rename_i f;simp only[jIj] at h;subst h;simp only[Sem.run_bind,Qk c w,Result.andThen_ok,of_decide_eq_true f,if_true,Sem.run_pure]
   ·cases h
  ·rename_i c;simp only[jIj] at h;subst h;simp only[Sem.run_bind,Qk c w,Result.andThen_ok,Sem.run_pure]
  ·rename_i c;split at h
   ·rename_i f;simp only[jIj] at h;subst h;simp only[Sem.run_bind,Qk c w,Result.andThen_ok,of_decide_eq_true f,if_true,Sem.run_pure]
   ·cases h
  ·rename_i fields xs ys c;split at h
   ·cases h
   rename_i j;have:=Ef (g:=Op.equalIn D) (fun t a b p hp=>yQ w d D t a b p (by omega) hp) xs ys _ _ h;simp only[Sem.run_bind,Qk c w,run_program,Result.andThen_ok,j,Bool.false_eq_true,if_false];rw[<-Array.forIn_toList,this];cases b<;>simp[Result.andThen_ok,Sem.run_pure]
  ·rename_i len e xs ys c;split at h;case h_2=>cases h
   rename_i i l;have k:cx.sz e=some i.size:=by unfold Cx.sz;rw[l]
   have:=yi (g:=Op.equalIn D) (fun t a b p hp=>yQ w d D t a b p (by omega) hp) xs ys _ _ _ _ h;simp only[Sem.run_bind,Qk c w,Q7 k w,Result.andThen_ok];rw[Std.Legacy.Range.forIn_eq_forIn_range'];simp only[Std.Legacy.Range.size,Nat.sub_zero,Nat.add_sub_cancel,Nat.div_one];rw[this];cases b<;>simp[Result.andThen_ok,Sem.run_pure]
  ·cases h
theorem yh {a:BinOp}{t:TypeId}{x y:Operand}{xs ys:Array Value}(h:cx.P.eqGuardType cx.P.depth t=false)(w:World):(eqGuard a t x y (.agg xs) (.agg ys)).run cx.P w=.ok () w:=by unfold eqGuard;split<;>simp[Sem.run_bind,run_program,Result.andThen_ok,h,Sem.run_pure]
theorem G3 (h:HSim cx F hp ρ w){c:BinOp}(i:c=.add\/c=.sub\/c=.mul\/c=.quo){t:TypeId}{x y:Operand}{k j : FloatKind}{a b:Nat}{q:D}{ob:List Prop}(e:QbN c k j a b=some (q,ob))(m:∀p,p∈ob->p) :
  ∃v,(do eqGuard c t x y (.float k a) (.float j b);binOp c t (.float k a) (.float j b):Sem Value).run cx.P w=.ok v w/\VR w (MM F hp ρ) hp ρ (.d q) v:=by
 unfold QbN at e;split at e;case h_2=>cases e
 rename_i g;have g:=of_decide_eq_true g;subst g;simp only[jIj,jPj] at e;obtain⟨rfl,rfl⟩:=e;have l:=m _ jMj;obtain⟨r,f⟩:=Option.isSome_iff_exists.1 l;refine⟨_,?_,.d _ _ (.v _)⟩;rw[f];obtain rfl|rfl|rfl|rfl:=i<;>simp only[fop] at f<;>simp[eqGuard,binOp,Op.floatArith,f]
theorem Qek (h:HSim cx F hp ρ w){s t:TypeId}{a:Value}{q:D}{ob:List Prop}(f:QiD cx sym s t a=some (q,ob))(o:∀p,p∈ob->p) :
  ∃v,(convert s t a:Sem Value).run cx.P w=.ok v w/\VR w (MM F hp ρ) hp ρ (.d q) v:=by
 unfold QiD at f;split at f
 ·rename_i k j b i l;simp only[jIj,jPj] at f;obtain⟨rfl,rfl⟩:=f;have g:=o _ jMj;obtain⟨r,c⟩:=Option.isSome_iff_exists.1 g;refine⟨_,?_,.d _ _ (.v _)⟩;rw[c];simp only[convert,Sem.run_bind,Qk i w,Qk l w,Result.andThen_ok];unfold f2f at c;unfold Conv.floatToFloat;split at c
  ·rename_i e;simp only[jIj] at c;subst c;rw[jTj e];rfl
  ·rename_i e;rw[jFj e];revert c;cases j.decode b with
   | nan s t=>intro c;cases c
   | infinity s=>intro c;simp only[jIj] at c;subst c;rfl
   | number s m e' =>
    intro c;simp only at c ⊢;split at c
    ·cases c
    ·rename_i u;simp only[jIj] at c;subst c;rw[jFj u];rfl
 ·rename_i k j b i l;simp only[jIj,jPj] at f;obtain⟨rfl,rfl⟩:=f;have g:=o _ jMj;obtain⟨r,c⟩:=Option.isSome_iff_exists.1 g;refine⟨_,?_,.d _ _ (.v _)⟩;rw[c];simp only[convert,Sem.run_bind,Qk i w,Qk l w,Result.andThen_ok];unfold f2i at c;unfold Conv.floatToInt;split at c
  ·rename_i n x;rw[x];split at c
   ·rename_i e;simp only[jIj] at c;subst c;simp only[jTj e];rfl
   ·cases c
  ·cases c
 ·split at f
  ·rename_i v y;simp only[jIj,jPj] at f;obtain⟨rfl,rfl⟩:=f;exact⟨v,VP y w,G7 _ _ _ _ _⟩
  ·cases f
theorem Qg0 {x:D}{b:UInt8}(h:Qe9 x=some b):∃n:Int,x=.v (.int .u8 n)/\b=UInt8.ofNat n.toNat:=by
 unfold Qe9 at h;split at h<;>try cases h
 split at h<;>try cases h
 split at h<;>try cases h
 exact⟨_,rfl,rfl⟩
theorem QbG:∀{ds:jVj} {l:List UInt8},ku ds=some l->∃ns:List Int,ds=ns.map (fun n=>.v (.int .u8 n))/\l=ns.map fun n=>UInt8.ofNat n.toNat
 | [],l,h=>by cases h;exact⟨[],rfl,rfl⟩
 | x::ds,l,h=>by
  unfold ku at h;split at h;case h_2=>cases h
  rename_i b d c a;cases h;obtain⟨n,rfl,rfl⟩:=Qg0 c;obtain⟨ns,rfl,rfl⟩:=QbG a;exact⟨n::ns,rfl,rfl⟩
theorem uo:∀(ns:List Int) (s:jSj),ns.foldl (fun r n=>r.push (UInt8.ofNat n.toNat)) s=⟨s.data++(ns.map fun n=>UInt8.ofNat n.toNat).toArray⟩
 | [],s=>by simp
 | n::ns,s=>by rw[List.foldl_cons,uo ns];simp[ByteArray.push]
theorem ye {P:Program}{w:World}(f:Value->jSj->Sem (ForInStep jSj))(a:∀(n:Int) (r:jSj),(f (.int .u8 n) r).run P w=.ok (.yield (r.push (UInt8.ofNat n.toNat))) w) :
  ∀(l:List Int) (s:jSj),(forIn (l.map (Value.int .u8)) s f).run P w=.ok (l.foldl (fun r n=>r.push (UInt8.ofNat n.toNat)) s) w
 | [],s=>by simp[Sem.run_pure]
 | n::l,s=>by simp only[jCj,List.forIn_cons,Sem.run_bind,a,Result.andThen_ok,List.foldl_cons];exact ye f a l _
theorem Qgs {w:World}{s t e:TypeId}(f:cx.P.underlying s=some (.slice e))(g:cx.P.underlying t=some .string)(d:cx.P.underlying e=some (.int .u8)){xa:Option Addr}{xc:Nat}{ns:List Int}
  (h:(Builtin.firstCells 1 ns.length (.slice xa ns.length xc)).run cx.P w=.ok (ns.map (Value.int .u8)).toArray w) :
  (convert s t (.slice xa ns.length xc)).run cx.P w=.ok (.string ⟨(ns.map fun n=>UInt8.ofNat n.toNat).toArray⟩) w:=by
 have b:(convert s t (.slice xa ns.length xc)).run cx.P w=(Conv.bytesToString (.slice xa ns.length xc)).run cx.P w:=by simp[convert,Qk f,Qk g,Qk d]
 rw[b];cases xa with
 | none =>
  have:ns=[]:=by
   simp[Builtin.firstCells] at h;cases ns with
   | nil=>rfl
   | cons a l=>simp at h
  subst this;simp[Conv.bytesToString];rfl
 | some a =>
  have c:(loadCells a ns.length).run cx.P w=.ok (ns.map (Value.int .u8)).toArray w:=by simpa[Builtin.firstCells] using h
  unfold Conv.bytesToString;simp only[Sem.run_bind,c,Result.andThen_ok,List.forIn_toArray];rw[ye _ (by intro n r;simp[Sem.run_pure]),uo];simp[Sem.run_pure,ByteArray.empty,ByteArray.emptyWithCapacity];rfl
theorem QcL (h:HSim cx F hp ρ w){s t:TypeId}{x:AV}{v:Value}(a:QcM cx sym orc hp s t x=some r)(K:∀p,p∈r.ob->p)(L:VR w (MM F hp ρ) hp ρ x v) :
  Good cx F hp ρ w r (do pure (.value (<-convert s t v))):=by
 have g:∀{e:TypeId} {ds:jVj} {n:List Nat} {l:List UInt8},cx.P.underlying s=some (.slice e)->cx.P.underlying t=some .string->cx.P.underlying e=some (.int .u8)->UL hp x=some (1,ds,n)->ku ds=some l ->
   (convert s t v).run cx.P w=.ok (.string (ByteArray.mk l.toArray)) w:=by
  intro e ds n l k m c j G;obtain⟨ns,rfl,rfl⟩:=QbG G;obtain⟨xa,xc,z,rfl,q,f,N,J,o⟩:=Kh h j (.inl rfl) L;rw[jlj] at q f ⊢;refine Qgs k m c ?_;rw[f w rfl];congr 2
  apply List.ext_getElem?;intro i;by_cases u:i<ns.length
  ·obtain⟨y,A,_,M⟩:=o i (.v (.int .u8 ns[i])) 0 (.v (.int .u8 ns[i])) (by simp[u]) rfl;rw[Nat.mul_one,Nat.add_zero] at A;rw[A];cases M;simp[u]
  ·rw[List.getElem?_eq_none (by omega),List.getElem?_eq_none (by simp;omega)]
 unfold QcM at a;split at a;case h_2=>cases a
 rename_i e ds n k m j;split at a
 ·rename_i b o' c _;simp only[jIj] at a;subst a;have C:=K _ jMj;obtain⟨l,E,rfl⟩:=Option.map_eq_some_iff.1 C;exact Good.of1 ⟨_,g k m c j E,OpOK.quiet h (.d _ _ (.v _))⟩
 ·rename_i o' c _;split at a;case h_2=>cases a
  rename_i l H;simp only[jIj] at a;subst a;exact Good.of1 ⟨_,g k m c j H,OpOK.quiet h (.d _ _ (.v _))⟩
 ·cases a
theorem Qhg {M:Nat->Prop}{x:D}{y:Value}(h:DR w M x y):DR w M (wk1 x) y:=by
 cases h with
 | lst f sz es a cap blk off ys g d m n p q =>
  cases es with
  | nil=>exact .lst false 1 [] a cap blk off ys (fun h=>by cases h) d m (fun i e h=>by simp at h) (fun i e j c h=>by simp at h) (fun i e j c h=>by simp at h)
  | cons x l=>exact .lst false sz (x::l) a cap blk off ys (fun h=>by cases h) d m n p q
 | v=>exact .v _
 | agg cs ys hl h=>exact .agg cs ys hl h
 | tup cs ys hl h=>exact .tup cs ys hl h
 | fn f a b xs ys hl hm h k=>exact .fn f a b xs ys hl hm h k
 | ref x off blk o ys hm hb hw h=>exact .ref x off blk o ys hm hb hw h
 | nan k b h=>exact .nan k b h
 | mp es vs r es' c g d hw hl hv hk h=>exact .mp es vs r es' c g d hw hl hv hk h
theorem QaW (e:D):(wk1 e).cells=e.cells\/(e.cells=[e]/\(wk1 e).cells=[wk1 e]):=by
 cases e with
 | lst f s l =>
  cases l with
  | nil=>exact .inr ⟨by simp[D.cells],by simp[wk1,D.cells]⟩
  | cons x l=>exact .inr ⟨by simp[D.cells],by simp[wk1,D.cells]⟩
 | _=>exact .inl rfl
theorem QjO {M:Nat->Prop}{f:Bool}{sz:Nat}{es:jVj}{y:Value}(h:DR w M (.lst f sz es) y):DR w M (.lst f sz (es.map wk1)) y:=by
 cases h with
 | lst _ _ _ a cap blk off ys s t u p v x =>
  have l:∀(i:Nat) (e:D) (j:Nat) (c:D),(es.map wk1)[i]?=some e->e.cells[j]?=some c->∃(b k : D),es[i]?=some b/\b.cells[j]?=some k/\∀y,DR w M k y->DR w M c y:=by
   intro i e j c g d;rw[List.getElem?_map] at g;obtain⟨b,k1,rfl⟩:=Option.map_eq_some_iff.1 g;obtain q|⟨n,o⟩:=QaW b
   ·rw[q] at d;exact⟨b,c,k1,d,fun y h=>h⟩
   ·rw[o] at d;cases j with
    | zero =>
     simp only[jzj,jIj] at d;subst d;exact⟨b,b,k1,by rw[n];rfl,fun y h=>Qhg h⟩
    | succ j=>simp at d
  have r:=DR.lst (w:=w) (M:=M) f sz (es.map wk1) a cap blk off ys (fun h=>by rw[jlj];exact s h) (by rw[jlj];exact t) (fun h=>u fun e=>h (by rw[e];rfl))
   (fun i e g=>by
    rw[List.getElem?_map] at g;obtain⟨b,k1,rfl⟩:=Option.map_eq_some_iff.1 g;obtain q|⟨n,o⟩:=QaW b
    ·rw[q];exact p i b k1
    ·have:=p i b k1;rw[n] at this;rw[o];exact this)
   (fun i e j c g d=>by obtain⟨b,k,k1,m,_⟩:=l i e j c g d;exact v i b j k k1 m)
   (fun i e j c g d=>by obtain⟨b,k,k1,m,z⟩:=l i e j c g d;exact z _ (x i b j k k1 m))
  rwa [jlj] at r
theorem QjP {M:Nat->Prop}{x:AV}{y:Value}(h:VR w M hp ρ x y):VR w M hp ρ (wkA x) y:=by
 unfold wkA;split
 ·cases h with
  | d _ _ h =>
   split
   ·cases h with
    | agg cs ys e h =>
     refine .d _ _ (.agg _ ys (by simpa using e) fun i c v hc f=>?_);rw[List.getElem?_map] at hc;obtain⟨a,b,rfl⟩:=Option.map_eq_some_iff.1 hc;exact Qhg (h i a v b f)
   ·exact .d _ _ h
 ·exact h
theorem Qfl (h:HSim cx F hp ρ w){k:BinOp}{t:TypeId}{x y:Operand}{a b:Value}{q:D}{ob:List Prop}(c:abin cx sym k t x y a b=some (q,ob))(e:∀p,p∈ob->p) :
  ∃v,(do eqGuard k t x y a b;binOp k t a b:Sem Value).run cx.P w=.ok v w/\VR w (MM F hp ρ) hp ρ (.d q) v:=by
 unfold abin at c;split at c
 ·simp only[jIj,jPj] at c;obtain⟨rfl,rfl⟩:=c;refine⟨_,?_,.d _ _ (.v _)⟩;have:=yJ (e _ jMj);simp[eqGuard,binOp,Op.intArith,this]
 ·simp only[jIj,jPj] at c;obtain⟨rfl,rfl⟩:=c;refine⟨_,?_,.d _ _ (.v _)⟩;have:=yJ (e _ jMj);simp[eqGuard,binOp,Op.intArith,this]
 ·simp only[jIj,jPj] at c;obtain⟨rfl,rfl⟩:=c;refine⟨_,?_,.d _ _ (.v _)⟩;have:=yJ (e _ jMj);simp[eqGuard,binOp,Op.intArith,this]
 ·simp only[jIj,jPj] at c;obtain⟨rfl,rfl⟩:=c;refine⟨_,?_,.d _ _ (.v _)⟩;have f:=e _ jMj;have g:=yJ (e _ (jmj _ jMj));simp[eqGuard,binOp,Op.intDiv,f,g]
 ·simp only[jIj,jPj] at c;obtain⟨rfl,rfl⟩:=c;refine⟨_,?_,.d _ _ (.v _)⟩;have f:=e _ jMj;simp[eqGuard,binOp,Op.intDiv,f]
 ·exact G3 h (Or.inl rfl) c e
 ·exact G3 h (Or.inr (Or.inl rfl)) c e
 ·exact G3 h (Or.inr (Or.inr (Or.inl rfl))) c e
 ·exact G3 h (Or.inr (Or.inr (Or.inr rfl))) c e
 ·rename_i a b;simp only[jIj,jPj] at c;obtain⟨rfl,rfl⟩:=c;refine⟨_,?_,.d _ _ (.v _)⟩;have f:a.size+b.size<=9223372036854775807:=e _ jMj;have g:¬(((a.size+b.size:Nat):Int)>IntKind.i64.max):=by
   have:IntKind.i64.max=9223372036854775807:=by decide
   rw[this];omega
  simp only[eqGuard,binOp,Op.stringOp,Sem.run_bind,Result.andThen_ok,g,if_false];rfl
 ·rename_i a b;simp only[jIj,jPj] at c;obtain⟨rfl,rfl⟩:=c;refine⟨_,?_,.d _ _ (.v _)⟩;have f:0<=b:=e _ jMj;have g:¬b<0:=by omega
  simp only[eqGuard,binOp,Op.shift,jFj g,IntKind.bits];rfl
 ·rename_i a b;simp only[jIj,jPj] at c;obtain⟨rfl,rfl⟩:=c;refine⟨_,?_,.d _ _ (.v _)⟩;have f:0<=b:=e _ jMj;have g:¬b<0:=by omega
  simp only[eqGuard,binOp,Op.shift,jFj g,IntKind.bits];rfl
 ·split at c;case h_2=>cases c
  rename_i b j i;simp only[jIj,jPj] at c;obtain⟨rfl,rfl⟩:=c;refine⟨.bool b,?_,.d _ _ (.v _)⟩;have f:=yQ w 12 Op.maxDepth _ _ _ _ (by decide) i;simp only[Sem.run_bind,yh j w,Result.andThen_ok,binOp,Op.equal,f,Sem.run_pure]
 ·split at c;case h_2=>cases c
  rename_i b j i;simp only[jIj,jPj] at c;obtain⟨rfl,rfl⟩:=c;refine⟨.bool !b,?_,.d _ _ (.v _)⟩;have f:=yQ w 12 Op.maxDepth _ _ _ _ (by decide) i;simp only[Sem.run_bind,yh j w,Result.andThen_ok,binOp,Op.equal,f,Sem.run_pure]
 ·split at c
  ·rename_i v l;simp only[jIj,jPj] at c;obtain⟨rfl,rfl⟩:=c;exact⟨v,VP l w,G7 _ _ _ _ _⟩
  ·cases c
theorem yN (h:HSim cx F hp ρ w){s:Sem Value}(a:(match Zu cx.P s with|some x=>SX.val1 (.d (ofV x)) orc|none=>none)=some r):Good cx F hp ρ w r (do pure (.value (<-s))):=by
 split at a
 ·rename_i x b;exact Good.val1 h a (VP b w) (G7 _ _ _ _ _)
 ·cases a
theorem GT (hev:∀x,VR w (MM F hp ρ) hp ρ (ev x) (re x))(l:List Operand) :
  (l.map ev).length=(l.map re).length/\∀(i:Nat) (c:AV) (y:Value),(l.map ev)[i]?=some c->(l.map re)[i]?=some y->VR w (MM F hp ρ) hp ρ c y:=by
 refine⟨by simp,fun i c y hc a=>?_⟩;simp only[List.getElem?_map] at hc a;cases hx:l[i]? with
 | none=>rw[hx] at hc;cases hc
 | some x =>
  rw[hx] at hc a;simp only[Option.map_some,jIj] at hc a;subst hc;subst a;exact hev x
theorem Er:∀(l:List AV) (ys vs:List Value),allV l=some vs->l.length=ys.length->(∀(i:Nat) (c:AV) (y:Value),l[i]?=some c->ys[i]?=some y->VR w (MM F hp ρ) hp ρ c y)->ys=vs
 | [],ys,vs,h,hl,_=>by simp only[allV,jIj] at h;subst h;cases ys<;>simp_all
 | x::l,ys,vs,h,hl,hh=>by
  simp only[allV] at h;split at h<;>simp only[jIj,reduceCtorEq] at h;rename_i v a b d;subst h;cases ys with
  | nil=>simp at hl
  | cons y ys =>
   rw[JZ b (hh 0 x y rfl rfl),Er l ys a d (by simpa using hl) (fun i c z hc e=>hh (i+1) c z (by simpa using hc) (by simpa using e))]
theorem wV (h:HSim cx F hp ρ w){x:AV}{v:Value}{es:jVj}(e:Ka hp x=some es)(j:VR w (MM F hp ρ) hp ρ x v):∃a c,v=.slice a es.length c:=by
 unfold Ka at e;split at e
 ·simp only[jIj] at e;subst e;cases j with
  | d _ _ j=>cases j;exact⟨_,_,rfl⟩
 ·rename_i b ver;cases j with
  | own _ _ k _ f o i g =>
  rw[f] at e;cases k with
  | box _=>simp at e
  | loop _ _ _ _ _ _=>simp at e
  | mp _=>simp at e
  | it _ _=>simp at e
  | fbox _=>simp at e
  | left _=>simp at e
  | dead=>simp at e
  | row ver' sz es' =>
   simp only at e;split at e<;>simp only[jIj,reduceCtorEq] at e;rename_i hc;have:=Z1 hc;subst this;subst e;obtain⟨q,_,l⟩|⟨_,_,_,_,l,_⟩:=h.blk b _ f
   ·rw[g rfl,l,q];exact⟨_,_,rfl⟩
   ·rw[g rfl,l];exact⟨_,_,rfl⟩
  | frozen ver' sz es' =>
   simp only at e;split at e<;>simp only[jIj,reduceCtorEq] at e;rename_i hc;have:=Z1 hc;subst this;subst e;rw[g rfl];have:=h.blk b _ f;simp only[BlkR] at this;generalize ρ b=bv at this ⊢;cases this;exact⟨_,_,rfl⟩
  | virt ver' sz es' =>
   simp only at e;split at e<;>simp only[jIj,reduceCtorEq] at e;rename_i hc;have:=Z1 hc;subst this;subst e;rw[g rfl];have:=h.blk b _ f;simp only[BlkR] at this;generalize ρ b=bv at this ⊢;cases this;exact⟨_,_,rfl⟩
 ·rename_i b ver sz p n;split at e<;>simp only[jIj,reduceCtorEq] at e;rename_i hc;subst e;cases j with
  | sub _ _ _ _ _ k _ f o i g =>
   unfold El at hc;rw[f] at hc;obtain⟨s,m,_,rfl⟩:=g (jqj hc);exact⟨some ⟨s,p*sz,none⟩,m,by rw[List.length_replicate]⟩
 ·cases e
theorem Qkh {M:Nat->Prop}{x:AV}{v:Value}(h:VR w M hp ρ x v):VR w M hp ρ (emp x) v:=by
 unfold emp;split
 ·rename_i a c;rw[wu h];exact .d _ _ (.lst false 0 [] a c 0 0 (fun _=>undef) (fun h=>by cases h) (Nat.zero_le _) (fun h=>absurd rfl h) (fun i e h=>by simp at h) (fun i e j c h=>by simp at h) (fun i e j c h=>by simp at h))
 ·exact h
theorem Qau (h:HSim cx F hp ρ w)(hev:∀x,VR w (MM F hp ρ) hp ρ (ev x) (re x)){name:Nat}{b:Builtin}{ats:Array TypeId}{ty:TypeId}{f:Array Operand}{consts:Array Bool}
  (g:XI cx sym orc hp name b ats ty (f.toList.map ev)=some r) (E:∀q,q∈r.ob->q):Good cx F hp ρ w r (builtin b ats ty consts (f.map re)):=by
 obtain⟨p,l2⟩:=GT hev f.toList;have i:(f.map re).toList=f.toList.map re:=by simp
 unfold XI at g;split at g
 ·split at g;case h_2=>cases g
  rename_i t t2 k s x j u;rw[u] at p l2;have l:∃z n,f.toList.map re=[z,n]:=by
   match hm:f.toList.map re,p with
   | [a,b],_=>exact⟨a,b,rfl⟩
  obtain⟨z,n,l⟩:=l;rw[l] at l2;have o:f.map re=#[z,n]:=by rw[<-Array.toArray_toList (xs:=f.map re),i,l]
  have m:ats=(t::t2::k).toArray:=by rw[<-j]
  rw[o,m];split at g
  ·rename_i C;split at g
   ·exact Good.of (Qfh h C g E (l2 0 _ _ rfl rfl) (l2 1 _ _ rfl rfl))
   ·exact Good.of (QaU h C g E (l2 0 _ _ rfl rfl) (Qkh (l2 1 _ _ rfl rfl)))
  ·exact Good.of (QeS h g E (l2 0 _ _ rfl rfl) (l2 1 _ _ rfl rfl))
 ·split at g;case h_2=>cases g
  rename_i t k d s j u;rw[u] at p l2;have l:∃z n,f.toList.map re=[z,n]:=by
   match hm:f.toList.map re,p with
   | [a,b],_=>exact⟨a,b,rfl⟩
  obtain⟨z,n,l⟩:=l;rw[l] at l2;have o:f.map re=#[z,n]:=by rw[<-Array.toArray_toList (xs:=f.map re),i,l]
  have m:ats=(t::k).toArray:=by rw[<-j]
  rw[o,m];exact Good.of (Qe7 h g (l2 0 _ _ rfl rfl) (l2 1 _ _ rfl rfl))
 ·split at g;case h_2=>cases g
  rename_i x u;rw[u] at p l2;have l:∃n,f.toList.map re=[n]:=by
   match hm:f.toList.map re,p with
   | [a],_=>exact⟨a,rfl⟩
  obtain⟨n,l⟩:=l;rw[l] at l2;have o:f.map re=#[n]:=by rw[<-Array.toArray_toList (xs:=f.map re),i,l]
  rw[o];have A:=l2 0 _ _ rfl rfl;split at g
  ·rename_i es H;split at g;case h_2=>cases g
   rename_i t k j;split at g;case h_2=>cases g
   rename_i e J;have m:ats=(t::k).toArray:=by rw[<-j]
   obtain⟨a,c,rfl⟩:=wV h H A;refine Good.val1 h g (v:=.int .i64 es.length) ?_ (.d _ _ (.v _));have G:=Qk J w;rw[m];simp[Builtin.len_,G,goInt]
  ·split at g;case h_2=>cases g
   rename_i v N;rw[JZ N A];exact yN h g
 ·split at g;case h_2=>cases g
  rename_i vs y;have:=Er _ _ vs y p l2;have o:f.map re=vs.toArray:=by rw[<-Array.toArray_toList (xs:=f.map re),i,this]
  rw[o];exact yN h g
 ·split at g;case h_2=>cases g
  rename_i vs y;have:=Er _ _ vs y p l2;have o:f.map re=vs.toArray:=by rw[<-Array.toArray_toList (xs:=f.map re),i,this]
  rw[o];exact yN h g
 ·split at g;case h_2=>cases g
  rename_i fz es t k u j;split at g;case h_2=>cases g
  rename_i e J;rw[u] at p l2;have l:∃n,f.toList.map re=[n]:=by
   match hm:f.toList.map re,p with
   | [a],_=>exact⟨a,rfl⟩
  obtain⟨n,l⟩:=l;rw[l] at l2;have o:f.map re=#[n]:=by rw[<-Array.toArray_toList (xs:=f.map re),i,l]
  rw[o];have A:=l2 0 _ _ rfl rfl;have m:ats=(t::k).toArray:=by rw[<-j]
  rw[m];cases A with
  | d _ _ A =>
   cases A with
   | lst _ _ _ a cap blk off ys L hc O M P K =>
    refine Good.val1 h g (v:=.int .i64 es.length) ?_ (.d _ _ (.v _));have G:=Qk J w;simp[Builtin.cap_,G,goInt,L rfl]
 ·split at g;case h_2=>cases g
  rename_i x t k u j;rw[u] at p l2;have l:∃n,f.toList.map re=[n]:=by
   match hm:f.toList.map re,p with
   | [a],_=>exact⟨a,rfl⟩
  obtain⟨n,l⟩:=l;rw[l] at l2;have o:f.map re=#[n]:=by rw[<-Array.toArray_toList (xs:=f.map re),i,l]
  have m:ats=(t::k).toArray:=by rw[<-j]
  rw[o,m];exact Good.of (Qeb h g E (l2 0 _ _ rfl rfl))
 ·cases g
theorem Qio {cx:Cx}(w:World)(d:Nat)(t e:TypeId)(a:Addr)(l c:Nat)(h:cx.P.underlying t=some (.slice e)):(Op.equalIn (d+1) t (.slice (some a) l c) (.slice none 0 0)).run cx.P w=.ok false w:=by simp[Op.equalIn,Sem.run_bind,Qk h w,Result.andThen_ok,Sem.run_pure]
theorem Qbx {cx:Cx}(w:World)(t e:TypeId)(a:Addr)(l c:Nat)(h:cx.P.underlying t=some (.slice e)):(Op.equal t (.slice (some a) l c) (.slice none 0 0)).run cx.P w=.ok false w:=Qio w 9999 t e a l c h
theorem QgU {cx:Cx}(w:World)(d:Nat)(t e:TypeId)(h:cx.P.underlying t=some (.slice e)):(Op.equalIn (d+1) t (.slice none 0 0) (.slice none 0 0)).run cx.P w=.ok true w:=by simp[Op.equalIn,Sem.run_bind,Qk h w,Result.andThen_ok,Sem.run_pure]
theorem QeX {cx:Cx}(w:World)(t e:TypeId)(h:cx.P.underlying t=some (.slice e)):(Op.equal t (.slice none 0 0) (.slice none 0 0)).run cx.P w=.ok true w:=QgU w 9999 t e h
theorem QiQ (w:World)(M:Nat->Prop)(hp:List (Nat×Blk))(ρ:Nat->Value):∀z:Value,VR w M hp ρ (rawA z) z:=by
 intro z;cases z with
 | agg cs =>
  show VR w M hp ρ (.agg (cs.toList.map fun c=>.d (.v c))) (.agg cs);have:=VR.agg (w:=w) (M:=M) (hp:=hp) (ρ:=ρ) (cs.toList.map fun c=>.d (.v c)) cs.toList (by simp) fun i c y hc a=>by rw[List.getElem?_map,a] at hc;cases hc;exact .d _ _ (.v _)
  simpa using this
 | _=>exact .d _ _ (.v _)
theorem Qcc {M:Nat->Prop}(b:∀v,re (.const v)=v){m:BinOp}{t:TypeId}{x:AV}{E y:Operand}{v:Value}{q:D}{ob:List Prop}(e:E5 cx m t x y=some (q,ob))(o:∀p,p∈ob->p)(h:VR w M hp ρ x v) :
  ∃u,(do eqGuard m t E y v (re y);binOp m t v (re y):Sem Value).run cx.P w=.ok u w/\VR w (MM F hp ρ) hp ρ (.d q) u:=by
 unfold E5 at e;have j:∀(f:TypeId) (full:Bool) (sz:Nat) (es:List SX.D),cx.P.underlying t=some (.slice f)->x=.d (.lst full sz es)->es≠[]->∃a n c,v=.slice (some a) n c:=by
  intro f full sz es _ l k;subst l;cases h with
  | d _ _ h =>
   cases h with
   | lst _ _ _ a cap blk off ys G hc z C H A =>
    obtain⟨s,_⟩:=z k;subst s;exact⟨_,_,_,rfl⟩
 split at e
 ·rename_i g;simp only[jIj,jPj] at e;obtain⟨rfl,rfl⟩:=e;obtain⟨a,n,c,rfl⟩:=j _ _ _ _ g rfl (o _ jMj);rw[b];refine⟨.bool false,?_,.d _ _ (.v _)⟩;have i:=Qbx w t _ a n c g;simp[eqGuard,binOp,i]
 ·rename_i g;simp only[jIj,jPj] at e;obtain⟨rfl,rfl⟩:=e;obtain⟨a,n,c,rfl⟩:=j _ _ _ _ g rfl (o _ jMj);rw[b];refine⟨.bool true,?_,.d _ _ (.v _)⟩;have i:=Qbx w t _ a n c g;simp[eqGuard,binOp,i]
 ·rename_i g;simp only[jIj,jPj] at e;obtain⟨rfl,rfl⟩:=e;cases h with
  | d _ _ h =>
   cases h;rw[b];refine⟨.bool true,?_,.d _ _ (.v _)⟩;have i:=QeX w t _ g;simp[eqGuard,binOp,i]
 ·cases e
theorem Qin {cx:Cx}(w:World)(d:Nat)(t e:TypeId)(a:Addr)(h:cx.P.underlying t=some (.pointer e)):(Op.equalIn (d+1) t (.pointer (some a)) (.pointer none)).run cx.P w=.ok false w:=by simp[Op.equalIn,Sem.run_bind,Qk h w,Result.andThen_ok,Sem.run_pure]
theorem Qbw {cx:Cx}(w:World)(t e:TypeId)(a:Addr)(h:cx.P.underlying t=some (.pointer e)):(Op.equal t (.pointer (some a)) (.pointer none)).run cx.P w=.ok false w:=Qin w 9999 t e a h
theorem uI {M:Nat->Prop}{x:AV}{v:Value}(h:jR hp x=true)(c:VR w M hp ρ x v):∃a,v=.pointer (some a):=by
 cases x with
 | ptr b ver sz i off =>
  cases c with
  | ptr _ _ _ _ _ k _ d l j e =>
   simp only[jR,d] at h;obtain⟨r,_,f⟩:=e (jqj h).symm;exact⟨_,f⟩
 | dptr y o =>
  cases c with
  | dptr _ _ blk o' g=>exact⟨_,rfl⟩
 | _=>cases h
theorem QaH {M:Nat->Prop}(b:∀v,re (.const v)=v){h:BinOp}{t:TypeId}{x:AV}{j y:Operand}{v:Value}{q:D}{ob:List Prop}(e:Uh hp cx h t x y=some (q,ob))(i:VR w M hp ρ x v) :
  ∃u,(do eqGuard h t j y v (re y);binOp h t v (re y):Sem Value).run cx.P w=.ok u w/\VR w (MM F hp ρ) hp ρ (.d q) u:=by
 unfold Uh at e;split at e
 ·rename_i g c;simp only[jIj,jPj] at e;obtain⟨rfl,rfl⟩:=e;obtain⟨a,rfl⟩:=uI c i;rw[b];refine⟨.bool false,?_,.d _ _ (.v _)⟩;have f:=Qbw w t _ a g;simp[eqGuard,binOp,f]
 ·rename_i g c;simp only[jIj,jPj] at e;obtain⟨rfl,rfl⟩:=e;obtain⟨a,rfl⟩:=uI c i;rw[b];refine⟨.bool true,?_,.d _ _ (.v _)⟩;have f:=Qbw w t _ a g;simp[eqGuard,binOp,f]
 ·cases e
theorem QgR {k:Blk}{x:SX.D}(h:Qim k=some x):k=.fbox x:=by cases k<;>first|(cases h;rfl)|cases h
theorem Qgi (h:HSim cx F hp ρ w){x:AV}{y:Value}(a:VR w (MM F hp ρ) hp ρ x y):VR w (MM F hp ρ) hp ρ (unf hp x) y:=by
 cases x with
 | ptr b ver sz i off =>
  show VR w (MM F hp ρ) hp ρ (unfP hp b ver sz i off) y;unfold unfP;cases hl:zA hp b with
  | none=>exact a
  | some x =>
   unfold zA at hl;cases hb:look hp b with
   | none=>rw[hb] at hl;cases hl
   | some k =>
    rw[hb] at hl;have l:=QgR hl;subst l;simp only;cases hc:Nat.beq ver 0&&Nat.beq i 0 with
    | false=>exact a
    | true =>
     simp only[jAj] at hc;have f:=Z1 hc.1;have g:=Z1 hc.2;subst f;subst g;cases a with
     | ptr _ _ _ _ _ q _ c _ _ j =>
      rw[hb] at c;cases c;obtain⟨r,e,m⟩:=j rfl;obtain⟨p,n,o⟩:=h.blk b _ hb;rw[n] at e;have:p=r:=by simpa[QX] using e
      subst this;rw[m,Nat.zero_mul];exact .dptr x off _ 0 o
 | d _=>exact a
 | agg _=>exact a
 | tup _=>exact a
 | dptr _ _=>exact a
 | own _ _=>exact a
 | sub _ _ _ _ _=>exact a
 | fn _ _ _=>exact a
 | junk=>exact a
theorem QeF {n u v:Nat}(f:v<8388607)(e:n=u*2147483648+2139095041+v):(Ieee.single.read n).isNaN=true:=by
 have d:n % 2147483648=2139095041+v:=by omega
 unfold Ieee.Format.read;have a:Ieee.single.signWeight=2147483648:=by decide
 have b:Ieee.single.binade=8388608:=by decide
 have c:Ieee.single.infRung=2139095040:=by decide
 simp only[a,b,c,d];rw[jFj (by omega),jFj (by omega),jFj (by omega)];rfl
theorem QeG {n u v:Nat}(f:v<4503599627370495)(e:n=u*9223372036854775808+9218868437227405313+v):(Ieee.double.read n).isNaN=true:=by
 have d:n % 9223372036854775808=9218868437227405313+v:=by omega
 unfold Ieee.Format.read;have a:Ieee.double.signWeight=9223372036854775808:=by decide
 have b:Ieee.double.binade=4503599627370496:=by decide
 have c:Ieee.double.infRung=9218868437227405312:=by decide
 simp only[a,b,c,d];rw[jFj (by omega),jFj (by omega),jFj (by omega)];rfl
theorem QdB (k:FloatKind)(t:Nat):(k.decode (match k with
  | .f32=>(t % 2)*2 ^ 31+0x7f800000+1+(t / 2) % (2 ^ 23 - 1)
  | .f64=>(t % 2)*2 ^ 63+0x7ff0000000000000+1+(t / 2) % (2 ^ 52 - 1))).isNaN=true:=by
 cases k with
 | f32 =>
  refine QeF (u:=t % 2) (v:=(t / 2) % (2 ^ 23 - 1)) (Nat.mod_lt _ (by decide)) ?_;show(t % 2)*2 ^ 31+0x7f800000+1+(t / 2) % (2 ^ 23 - 1)=_;generalize (t / 2) % (2 ^ 23 - 1)=v;omega
 | f64 =>
  refine QeG (u:=t % 2) (v:=(t / 2) % (2 ^ 52 - 1)) (Nat.mod_lt _ (by decide)) ?_;show(t % 2)*2 ^ 63+0x7ff0000000000000+1+(t / 2) % (2 ^ 52 - 1)=_;generalize (t / 2) % (2 ^ 52 - 1)=v;omega
theorem QhP (k:FloatKind)(x y t:Nat):(k.decode ((Question.nanBits k x y).cut t)).isNaN=true:=by have:=QdB k t;cases k<;>exact this
theorem QgB (k:FloatKind)(x t:Nat):(k.decode ((Question.nanConv k x).cut t)).isNaN=true:=by have:=QdB k t;cases k<;>exact this
theorem Qd2 (h:HSim cx F hp ρ w){k:FloatKind}{b:Nat}(a:(k.decode b).isNaN=true):OpOK cx F hp ρ w [] (.d (.nan k)) (.float k b) w.drew :=
 ⟨ρ,h.drew.1,h.drew.2,.d _ _ (.nan k b a)⟩
theorem Qce (h:HSim cx F hp ρ w){e:BinOp}{t:TypeId}{m n:Operand}{x y:AV}{u v:Value}(c:QeH e x y orc=some r)(i:∀p,p∈r.ob->p)(j:VR w (MM F hp ρ) hp ρ x u)(l:VR w (MM F hp ρ) hp ρ y v) :
  Good cx F hp ρ w r (do pure (.value (<-(do eqGuard e t m n u v;binOp e t u v:Sem Value)))):=by
 unfold QeH at c;split at c;case h_2=>cases c
 rename_i k a o b;split at c;case h_2=>cases c
 rename_i d;have d:=of_decide_eq_true d;subst d;simp only[jIj] at c;subst c;rw[wu j,wu l];have f:k.format.mul a b=none:=i _ jMj;refine Good.of ⟨_,_,?_,Qd2 h (QhP k a b (w.tape w.drawn (.nanBits k a b)))⟩;have g:(Question.nanBits k a b).forced=false:=rfl;simp[eqGuard,binOp,Op.floatArith,f,g]
theorem QdD (h:HSim cx F hp ρ w){i:BinOp}{t:TypeId}{m n:Operand}{x y:AV}{u v:Value}(c:QfJ i x y orc=some r)(f:VR w (MM F hp ρ) hp ρ x u)(g:VR w (MM F hp ρ) hp ρ y v) :
  Good cx F hp ρ w r (do pure (.value (<-(do eqGuard i t m n u v;binOp i t u v:Sem Value)))):=by
 unfold QfJ at c;split at c;case h_2=>cases c
 rename_i k p;split at c;case h_2=>cases c
 rename_i e;have e:=of_decide_eq_true e;subst e;cases f with
 | d _ _ f =>
 cases g with
 | d _ _ g =>
 cases f with
 | nan _ a j =>
 cases g with
 | nan _ b o =>
 refine Good.val1 (v:=.bool true) h c ?_ (.d _ _ (.v _));have l:k.format.order a b=none:=by unfold Ieee.Format.order;change(k.format.read a).isNaN=true at j;generalize k.format.read a=q at *;cases q<;>first|rfl|cases j
 simp[eqGuard,binOp,Op.floatCmp,l]
theorem Qd9 (h:HSim cx F hp ρ w){s t:TypeId}{j i k:FloatKind}{b:Nat}(f:cx.P.underlying s=some (.float i))(g:cx.P.underlying t=some (.float k))(c:(j.decode b).isNaN=true) :
  ∃v w',(convert s t (.float j b):Sem Value).run cx.P w=.ok v w'/\OpOK cx F hp ρ w [] (.d (.nan k)) v w':=by
 by_cases e:j=k
 ·subst e;refine⟨.float j b,w,?_,OpOK.quiet h (.d _ _ (.nan j b c))⟩;simp[convert,Qk f w,Qk g w,Conv.floatToFloat]
 ·refine⟨_,_,?_,Qd2 h (QgB k b (w.tape w.drawn (.nanConv k b)))⟩;have a:∃p q,j.decode b=.nan p q:=by
   revert c;cases j.decode b with
   | nan p q=>intro _;exact⟨p,q,rfl⟩
   | infinity _=>intro h;cases h
   | number _ _ _=>intro h;cases h
  obtain⟨p,q,a⟩:=a;have l:(Question.nanConv k b).forced=false:=rfl;simp[convert,Qk f w,Qk g w,Conv.floatToFloat,e,a,l]
theorem QaI (h:HSim cx F hp ρ w){s t:TypeId}{x:AV}{v:Value}(a:nanConv cx s t x orc=some r)(c:∀p,p∈r.ob->p)(f:VR w (MM F hp ρ) hp ρ x v) :
  Good cx F hp ρ w r (do pure (.value (<-convert s t v))):=by
 unfold nanConv at a;split at a;case h_2=>cases a
 rename_i i k j b d e;simp only[jIj] at a;subst a;rw[wu f];exact Good.of (Qd9 h d e (c _ jMj))
theorem QdC (h:HSim cx F hp ρ w){s t:TypeId}{x:AV}{v:Value}(a:QfI cx s t x orc=some r)(c:VR w (MM F hp ρ) hp ρ x v) :
  Good cx F hp ρ w r (do pure (.value (<-convert s t v))):=by
 unfold QfI at a;split at a;case h_2=>cases a
 rename_i i k j f g;simp only[val1,jIj] at a;subst a;cases c with
 | d _ _ c =>
 cases c with
 | nan _ b e=>exact Good.of (Qd9 h f g e)
theorem QbK (h:HSim cx F hp ρ w)(Y:∀v,re (.const v)=v)(hev:∀x,VR w (MM F hp ρ) hp ρ (ev x) (re x)){name:Nat}{o:Oper}(j:aop cx sym orc hp name ev o=some r)(u:∀q,q∈r.ob->q) :
  Good cx F hp ρ w r (execOp re o):=by
 cases hop:o.op with
 | move x=>simp only[aop,hop] at j;simp only[execOp,hop];exact Good.pure1 h j (hev x)
 | assign x=>simp only[aop,hop] at j;simp only[execOp,hop];exact Good.pure1 h j (hev x)
 | pick c a b =>
  simp only[aop,hop] at j;simp only[execOp,hop];have hc:=hev c;split at j
  ·rename_i e;rw[e] at hc;rw[wu hc];exact Good.pure1 (v:=re a) h j (hev a)
  ·rename_i e;rw[e] at hc;rw[wu hc];exact Good.pure1 (v:=re b) h j (hev b)
  ·cases j
 | alloc A =>
  simp only[aop,hop] at j;simp only[execOp,hop];split at j
  ·split at j;case h_2=>cases j
   rename_i z O L;split at j;case h_2=>cases j
   rename_i cs P;simp only[jIj] at j;subst j;refine Good.of ⟨_,_,?_,Jx h L P (QiQ _ _ _ _ z) A⟩;have K:=Y2 O w;simp[Instr.alloc,K,newVar,newRow]
  split at j;case h_2=>cases j
  rename_i z O L;split at j;case h_2=>cases j
  rename_i cs P;simp only[jIj] at j;subst j;refine Good.of ⟨_,_,?_,Jx h L P (G7 _ _ _ _ z) A⟩;have K:=Y2 O w;simp[Instr.alloc,K,newVar,newRow]
 | box A x =>
  simp only[aop,hop] at j;simp only[execOp,hop];split at j;case h_2=>cases j
  rename_i cs P L;simp only[jIj] at j;subst j;exact Good.of ⟨_,_,rfl,Jx h L P (hev x) A⟩
 | build t parts =>
  simp only[aop,hop] at j;simp only[execOp,hop];split at j;case h_2=>cases j
  rename_i y J;obtain⟨v,E,G⟩:=Qee hev J;split at j
  ·exact Good.val1 h j E (QjP G)
  ·exact Good.val1 h j E G
 | buildSlice t len parts =>
  simp only[aop,hop] at j;simp only[execOp,hop];split at j
  ·exact Good.of (Qb3 h hev j)
  split at j
  ·rename_i b4;exact Good.of (Qb5 h hev b4 j)
  split at j;case h_2=>cases j
  rename_i A hu;split at j;case h_2=>cases j
  rename_i s z hs O;split at j;case h_2=>cases j
  rename_i es fs N;split at j;case h_2=>cases j
  rename_i hc;simp only[jAj] at hc;split at j
  ·simp only[jIj] at j;subst j;obtain⟨v,w',k1,ρ',k2,k3,k4⟩:=XE h hev hu hs O N (Nat.le_of_ble_eq_true hc.1) (Z1 hc.2);cases k4 with
   | d _ _ k4=>exact Good.of ⟨v,w',k1,ρ',k2,k3,.d _ _ (QjO k4)⟩
  ·simp only[jIj] at j;subst j;exact Good.of (XE h hev hu hs O N (Nat.le_of_ble_eq_true hc.1) (Z1 hc.2))
 | load t a =>
  simp only[aop,hop] at j;simp only[execOp,hop];have U:=Qgi h (hev a);split at j
  ·rename_i s g b ver sz i off hs Q e;rw[e] at U;split at j;case h_2=>cases j
   rename_i x ob o' a7;split at j;case h_2=>cases j
   rename_i y J;simp only[jIj] at j;subst j;obtain⟨v,E,G⟩:=uA h U hs Q a7 u J;exact Good.of1 ⟨v,E,OpOK.quiet h G⟩
  ·rename_i s g x off hs Q e;rw[e] at U;split at j;case h_2=>cases j
   rename_i y J;obtain⟨v,E,G⟩:=Qd4 (hp:=hp) U hs Q J;exact Good.val1 h j E G
  ·cases j
 | store t a x =>
  simp only[aop,hop] at j;simp only[execOp,hop];obtain⟨w',K,X⟩:=Qc2 h (hev a) (hev x) j u;exact⟨undef,w',.inr ⟨by simp only[Sem.run_bind,K,Result.andThen_ok,Sem.run_pure],rfl⟩,X⟩
 | nilCheck x =>
  simp only[aop,hop] at j;simp only[execOp,hop];have p:=hev x;split at j
  ·rename_i b v s i f e;rw[e] at p;split at j;case h_2=>cases j
   rename_i a0;generalize re x=xv at p ⊢;cases p with
   | ptr _ _ _ _ _ kk _ W hv Z S =>
    obtain⟨r0,a5,rfl⟩:=S (GW a0 W);exact Good.pure1 (orc:=orc) (v:=.pointer (some ⟨r0,i*s+f,none⟩)) h j (.ptr b v s i f kk _ W hv Z fun _=>⟨r0,a5,rfl⟩)
  ·rename_i y f e;rw[e] at p;generalize re x=xv at p ⊢;cases p with
   | dptr _ _ blk o hd=>exact Good.pure1 (orc:=orc) h j (.dptr y f blk o hd)
  ·rename_i g a b e;rw[e] at p;generalize re x=xv at p ⊢;cases p with
   | fn _ _ _ xs ys N hm S hk=>exact Good.pure1 (orc:=orc) h j (.fn _ a b xs ys N hm S hk)
  ·rename_i g a b e;rw[e] at p;generalize re x=xv at p ⊢;cases p with
   | d _ _ p =>
    cases p with
    | fn _ _ _ xs ys N hm S hk=>exact Good.pure1 (orc:=orc) h j (.d _ _ (.fn _ a b xs ys N hm S hk))
  ·cases j
 | binOp op t x y yt =>
  simp only[aop,hop] at j;simp only[execOp,hop];split at j
  ·exact Qce h j u (hev x) (hev y)
  split at j
  ·rename_i q H;simp only[jIj] at j;subst j;exact QdD h H (hev x) (hev y)
  split at j;case h_2 =>
   split at j
   ·rename_i q ob H;simp only[jIj] at j;subst j;obtain⟨v,E,G⟩:=QaH Y H (hev x);exact Good.of1 ⟨v,E,OpOK.quiet h G⟩
   split at j;case h_2=>cases j
   rename_i q ob H;simp only[jIj] at j;subst j;obtain⟨v,E,G⟩:=Qcc Y H u (hev x);exact Good.of1 ⟨v,E,OpOK.quiet h G⟩
  rename_i a b U W;split at j;case h_2=>cases j
  rename_i q ob H;simp only[jIj] at j;subst j;rw[JZ U (hev x),JZ W (hev y)];obtain⟨v,E,G⟩:=Qfl h H u;exact Good.of1 ⟨v,E,OpOK.quiet h G⟩
 | unOp op t x =>
  simp only[aop,hop] at j;simp only[execOp,hop];split at j;case h_2=>cases j
  rename_i a U;rw[JZ U (hev x)];exact yN h j
 | convert s t x =>
  simp only[aop,hop] at j;simp only[execOp,hop];split at j
  ·exact QaI h j u (hev x)
  split at j
  ·rename_i q H;simp only[jIj] at j;subst j;exact QdC h H (hev x)
  split at j;case h_2=>exact QcL h j u (hev x)
  rename_i a U;split at j;case h_2=>cases j
  rename_i q ob H;simp only[jIj] at j;subst j;rw[JZ U (hev x)];obtain⟨v,E,G⟩:=Qek h H u;exact Good.of1 ⟨v,E,OpOK.quiet h G⟩
 | makeFunc f first cap =>
  simp only[aop,hop] at j;simp only[execOp,hop];obtain⟨a1,a2⟩:=GT hev first.toList;obtain⟨b1,b2⟩:=GT hev cap.toList;refine Good.val1 h j (v:=.func f (first.map re) (cap.map re)) rfl (Ug ?_);have:=VR.fn (w:=w) (M:=MM F hp ρ) (hp:=hp) (ρ:=ρ) f _ _ _ _ a1 b1 a2 b2;have e1:(first.toList.map re).toArray=first.map re:=by rw[<-Array.toList_map]
  have e2:(cap.toList.map re).toArray=cap.map re:=by rw[<-Array.toList_map]
  rw[e1,e2] at this;exact this
 | makeSlice t l c =>
  simp only[aop,hop] at j;simp only[execOp,hop];have N:=hev l;have hc:=hev c;split at j;case h_2=>cases j
  rename_i A kn n km m hu el ec L;rw[el] at N;rw[ec] at hc;split at j;case h_2=>cases j
  rename_i s z b hs O W;split at j;case h_2=>cases j
  rename_i ob o' b3 a9;simp only[jIj] at j;subst j;rw[wu N,wu hc];exact Good.of (yv h hu hs O W L a9 (Wx b3 u))
 | slice t x lo hi mx =>
  simp only[aop,hop] at j;simp only[execOp,hop];split at j
  ·rename_i b ver sz i off a8;have p:=hev x;rw[a8] at p;unfold uh at j;split at j
   ·rename_i q H;simp only[jIj] at j;subst j;obtain⟨hw,Q⟩:=ui h H p;simp only[jAj,Option.isNone_iff_eq_none] at hw;obtain⟨⟨rfl,rfl⟩,rfl⟩:=hw;exact Good.of1 Q
   ·obtain⟨hw,Q⟩:=QbU h hev j p;rw[Option.isNone_iff_eq_none] at hw;subst hw;exact Good.of1 Q
  ·split at j
   ·rename_i q H;simp only[jIj] at j;subst j;exact Good.of1 (QaR h hev H u)
   ·split at j
    ·rename_i q H;simp only[jIj] at j;subst j;exact Good.of1 (Qfc h hev H u)
    ·exact Good.of1 (QcB h hev j u)
 | sliceToArrayPointer t x =>
  simp only[aop,hop] at j;simp only[execOp,hop];exact Good.of1 (Qfm h j u (hev x))
 | fieldAddr s x f =>
  simp only[aop,hop] at j;simp only[execOp,hop];have p:=hev x;split at j;case h_2=>cases j
  rename_i fd a3;split at j;case h_2=>cases j
  rename_i n L;obtain⟨fields,hu,hf⟩:=yg a3;have K:=Qk hu w;have X:=Q7 L w;split at j
  ·rename_i b v sz i off O e;rw[e] at p;split at j;case h_2=>cases j
   rename_i a0;have a4:n≠0:=fun e=>by subst e;cases O
   generalize re x=xv at p ⊢;cases p with
   | ptr _ _ _ _ _ kk _ W hv Z S =>
    obtain⟨r0,a5,rfl⟩:=S (GW a0 W);refine Good.val1 (v:=.pointer (some ⟨r0,i*sz+(off+fd.offset),none⟩)) h j ?_ (.ptr b v sz i _ kk _ W hv rfl fun _=>⟨r0,a5,rfl⟩);simp[Instr.fieldAt,K,hf,Instr.sureAddr,fieldPlace,X,a4,add_at,Nat.add_assoc]
  ·rename_i y off O e;rw[e] at p;have a4:n≠0:=fun e=>by subst e;cases O
   generalize re x=xv at p ⊢;cases p with
   | dptr _ _ blk o hd =>
    refine Good.val1 (v:=.pointer (some ⟨blk,o+(off+fd.offset),none⟩)) h j ?_ (.dptr y _ blk o hd);simp[Instr.fieldAt,K,hf,Instr.sureAddr,fieldPlace,X,a4,add_at,Nat.add_assoc]
  ·cases j
 | field s x f =>
  simp only[aop,hop] at j;simp only[execOp,hop];have p:=hev x;split at j;case h_2=>cases j
  rename_i fd a3;obtain⟨fields,hu,hf⟩:=yg a3;have K:=Qk hu w;split at j
  ·rename_i n g cs L Q e;rw[e] at p;split at j;case h_2=>cases j
   rename_i y J;obtain⟨C,hC⟩:=kF rfl p;rw[hC] at p ⊢;obtain⟨v,E,G⟩:=zS L Q p J;refine Good.val1 (v:=v) h j ?_ G;simp[Instr.field,K,hf,asAgg,E]
  ·rename_i n g cs L Q e;rw[e] at p;split at j;case h_2=>cases j
   rename_i y J;obtain⟨C,hC⟩:=kF rfl p;rw[hC] at p ⊢;obtain⟨v,E,G⟩:=zS L Q p J;refine Good.val1 (v:=v) h j ?_ G;simp[Instr.field,K,hf,asAgg,E]
  ·cases j
 | indexAddr t x ix =>
  simp only[aop,hop] at j;simp only[execOp,hop];have hi:=hev ix;split at j;case h_2=>cases j
  rename_i k i e;rw[e] at hi;rw[wu hi];exact Good.of1 (kC h j u (hev x))
 | index t x ix =>
  simp only[aop,hop] at j;simp only[execOp,hop];split at j;case h_2=>cases j
  rename_i i hi;exact Good.of1 (QcI h j u (hev x) (JZ hi (hev ix)))
 | extract x i =>
  simp only[aop,hop] at j;simp only[execOp,hop];have p:=hev x;split at j
  ·rename_i vs e;rw[e] at p;split at j;case h_2=>cases j
   rename_i y J;rw[ZY] at J;generalize re x=xv at p ⊢;cases p with
   | tup _ ys N S =>
    have T:i<ys.length:=by rw[<-N];exact(jGj J).1
    refine Good.val1 (v:=ys[i]) h j ?_ (S i y _ J (by simp[T]));simp[Instr.extract,T]
  ·rename_i vs e;rw[e] at p;split at j;case h_2=>cases j
   rename_i y J;rw[ZY] at J;generalize re x=xv at p ⊢;cases p with
   | d _ _ p =>
   cases p with
   | tup _ ys N S =>
    have T:i<ys.length:=by rw[<-N];exact(jGj J).1
    refine Good.val1 (v:=ys[i]) h j ?_ (.d _ _ (S i y _ J (by simp[T])));simp[Instr.extract,T]
  ·cases j
 | call c =>
  obtain⟨V,a6,ats⟩:=c;cases V with
  | builtin b =>
   simp only[aop,hop] at j;simp only[execOp,hop];have:=Qau (consts:=a6.map fun | .const _=>true|_=>false) h hev j u;simp only[resolve,pure_bind,invoke];exact this
  | _=>simp only[aop,hop] at j;cases j
 | makeMap t q =>
  simp only[aop,hop] at j;simp only[execOp,hop];split at j;case h_2=>cases j
  rename_i L;simp only[jIj] at j;subst j;exact Good.of (QaJ h t L)
 | mapUpdate t m k x =>
  simp only[aop,hop] at j;simp only[execOp,hop];obtain⟨w',K,X⟩:=Ey h j u (hev m) (hev k) (hev x);exact⟨undef,w',.inr ⟨by simp only[Sem.run_bind,K,Result.andThen_ok,Sem.run_pure],rfl⟩,X⟩
 | insert t m k x =>
  simp only[aop,hop] at j;simp only[execOp,hop];obtain⟨w',K,X⟩:=Ey h j u (hev m) (hev k) (hev x);exact⟨undef,w',.inr ⟨by simp only[Sem.run_bind,K,Result.andThen_ok,Sem.run_pure],rfl⟩,X⟩
 | lookup t m k ok =>
  simp only[aop,hop] at j;simp only[execOp,hop];exact Good.of1 (Qci h j u (hev m) (hev k))
 | range t x =>
  simp only[aop,hop] at j;simp only[execOp,hop];exact Good.of (Qdk h j u (hev x))
 | next x isS =>
  simp only[aop,hop] at j;simp only[execOp,hop];cases isS with
  | false=>exact Good.of (QdE h j u (hev x))
  | true=>exact Good.of (QeE h j u (hev x))
 | entry x =>
  simp only[aop,hop] at j;simp only[execOp,hop];exact Good.of (Qcg h j u (hev x))
 | _=>simp only[aop,hop] at j;cases j
end
def wH:Blk->Bool
 | .loop _ _ _ _ _ _=>false
 | .left _=>false
 | _=>true
structure RC where
 val:AV
 up:List (Nat×Blk)
 full:Option (List (Nat×Blk))
 nx:Nat
 ob:List Prop
 orc:List Orc
 sfx:Bool
def RC.heap (a:RC)(H:List (Nat×Blk)):List (Nat×Blk):=match a.full with
 | some h=>h
 | none=>a.up++H
def GX:AV->Option (FuncId×List AV×List AV)
 | .fn (.func f) a b=>some (f,a,b)
 | .d (.fn (.func f) a b)=>some (f,a.map .d,b.map .d)
 | _=>none
def Jf (o:Oper):Option (Operand×List Operand):=match o.op with
 | .call { callee:=.value f,args,argTypes:=_ }=>some (f,args.toList)
 | _=>none
def Qkb:AV->Bool
 | .d _=>true
 | .fn _ _ _=>true
 | x=>match x.toD with
  | some _=>true
  | none=>false
def YG (H:List (Nat×Blk))(a:Nat):Bool:=H.all fun p=>Nat.blt p.1 a
def uC (H:List (Nat×Blk))(nx:Nat)(x:AV)(s' : St):Option RC:=match YG H nx with
 | true=>some { val:=x,up:=[],full:=some s'.hp,nx:=s'.nx,ob:=s'.ob,orc:=s'.orc,sfx:=s'.sfx }
 | false=>none
def jU:Blk->Bool
 | .row _ _ _=>true
 | .mp _=>true
 | .box _=>false
 | .frozen _ _ _=>false
 | .virt _ _ _=>false
 | .loop _ _ _ _ _ _=>false
 | .it _ _=>false
 | .fbox _=>false
 | .left _=>false
 | .dead=>false
def stamp:Blk->Blk
 | .row _ sz es=>.row 0 sz es
 | k=>k
def zb (H:List (Nat×Blk))(nx:Nat)(x:AV)(s' : St):Option RC:=match x,s'.sfx&&JW H (s'.hp.length - H.length) s'.hp&&YG H nx with
 | .own b ver,true=>match look s'.hp b,Vo H b with
  | some k,false=>match jU k&&Nat.beq ver k.ver with
   | true=>some { val:=.own b ver,up:=[(b,k)],full:=none,nx,ob:=s'.ob,orc:=s'.orc,sfx:=true }
   | false=>none
  | _,_=>none
 | _,_=>none
def Qdh (b ver nm:Nat):List AV->Option (List AV)
 | []=>some []
 | x::l=>match x,Qdh b ver nm l with
  | .d y,some r=>some (.d y::r)
  | .own b' v,some r=>match Nat.beq b' b&&Nat.beq v ver with
   | true=>some (.own nm 0::r)
   | false=>none
  | _,_=>none
def renF (b ver nm:Nat):AV->Option AV
 | .own b' v=>match Nat.beq b' b&&Nat.beq v ver with
  | true=>some (.own nm 0)
  | false=>none
 | .agg cs=>match Qdh b ver nm cs with
  | some l=>some (.agg l)
  | none=>none
 | _=>none
def Qkg:List Bool->List OC->Option (Nat×jVj)
 | [true],[.row sz L]=>some (sz,L)
 | _,_=>none
def Qh3 (cx:Cx)(b:Bool)(H:List (Nat×Blk))(f:FuncId)(a:List AV)(nx:Nat)(o:List Orc):Option RC:=match b,cx.K f with
 | false,some g=>match Kr H a with
  | some (ds,c)=>match g ds with
   | some r=>some { val:=.d r,up:=Qd H c,full:=none,nx,ob:=[],orc:=o,sfx:=true }
   | none=>none
  | none=>none
 | _,_=>none
def Qhx (H:List (Nat×Blk))(m sz:Nat):AV->Option (OC×(Nat×Nat))
 | .own n v=>match look H n with
  | some (.row v' sz' es)=>match Nat.beq v v'&&Nat.beq sz sz' with
   | true=>some (.row sz es,(n,v+1))
   | false=>none
  | _=>none
 | .d (.lst true _ [])=>match look H m with
  | none=>some (.row sz [],(m,0))
  | some _=>none
 | _=>none
def YT (H:List (Nat×Blk)):Nat->List AV->List OC->Option (List OC×List (Option (Nat×Nat))×List Nat)
 | _,[],[]=>some ([],[],[])
 | m,x::xs,.dat _::ss=>match x.toDH H,YT H (m+1) xs ss with
  | some (y,a),some (cs,ns,gs)=>some (.dat y::cs,none::ns,a++gs)
  | _,_=>none
 | m,x::xs,.row sz _::ss=>match Qhx H m sz x,YT H (m+1) xs ss with
  | some (c,p),some (cs,ns,gs)=>some (c::cs,some p::ns,gs)
  | _,_=>none
 | _,_,_=>none
def KW (n:Nat):List (Option (Nat×Nat))->Bool
 | []=>true
 | none::l=>KW n l
 | some (m,_)::l=>!(Nat.beq m n)&&KW n l
def E3 (bn:Nat)(fz:List Nat):List (Option (Nat×Nat))->Bool
 | []=>!(fz.contains bn)
 | none::l=>E3 bn fz l
 | some (n,_)::l=>KW n l&&!(Nat.beq n bn)&&!(fz.contains n)&&E3 bn fz l
def isB0:Option Nat->Nat->Bool
 | some b0,b'=>Nat.beq b0 b'
 | none,_=>false
mutual
def AV.argO (H:List (Nat×Blk))(b:Option Nat):AV->Option (AV×List Nat)
 | .ptr b' ver sz i off=>match isB0 b b'&&Nat.beq ver 0&&Nat.beq sz 0&&Nat.beq i 0 with
  | true=>some (.ptr 0 0 0 0 off,[])
  | false=>match (AV.ptr b' ver sz i off).toDH H with
   | some (y,fs)=>some (.d y,fs)
   | none=>none
 | .dptr x o=>some (.d (.ref x o),[])
 | .fn f a c=>match jj H b a,jj H b c with
  | some (x,fs),some (y,gs)=>some (AV.norm (.fn f x y),fs++gs)
  | _,_=>none
 | .agg cs=>match jj H b cs with
  | some (l,fs)=>some (AV.norm (.agg l),fs)
  | none=>none
 | .tup cs=>match jj H b cs with
  | some (l,fs)=>some (AV.norm (.tup l),fs)
  | none=>none
 | .d x=>some (.d x,[])
 | .own n v=>match (AV.own n v).toDH H with
  | some (y,fs)=>some (.d y,fs)
  | none=>none
 | _=>none
def jj (H:List (Nat×Blk))(b:Option Nat):List AV->Option (List AV×List Nat)
 | []=>some ([],[])
 | x::l=>match x.argO H b,jj H b l with
  | some (y,fs),some (ys,gs)=>some (y::ys,fs++gs)
  | _,_=>none
end
mutual
def AV.resO (b:Nat):AV->Option AV
 | .d x=>some (.d x)
 | .agg cs=>match Qa8 b cs with
  | some l=>some (.agg l)
  | none=>none
 | .tup cs=>match Qa8 b cs with
  | some l=>some (.tup l)
  | none=>none
 | .ptr b' ver sz i off=>match Nat.beq b' 0&&Nat.beq ver 0&&Nat.beq sz 0&&Nat.beq i 0 with
  | true=>some (.ptr b 0 0 0 off)
  | false=>none
 | _=>none
def Qa8 (b:Nat):List AV->Option (List AV)
 | []=>some []
 | x::l=>match x.resO b,Qa8 b l with
  | some y,some ys=>some (y::ys)
  | _,_=>none
end
def ZH:List (Option (Nat×Nat))->List OC->List AV
 | none::ns,.dat x::cs=>.d x::ZH ns cs
 | some (n,v)::ns,.row _ _::cs=>.own n v::ZH ns cs
 | _,_=>[]
def Vn:List (Option (Nat×Nat))->List OC->List (Nat×Blk)
 | some (n,v)::ns,.row sz es::cs=>(n,.row v sz es)::Vn ns cs
 | _::ns,_::cs=>Vn ns cs
 | _,_=>[]
def YW:Nat->List OC->List (Option (Nat×Nat))
 | _,[]=>[]
 | m,.dat _::l=>none::YW (m+1) l
 | m,.row _ _::l=>some (m,0)::YW (m+1) l
def WD:List Bool->List (Option (Nat×Nat))->List (Option (Nat×Nat))
 | true::ks,some (n,v+1)::ns=>some (n,v)::WD ks ns
 | _::ks,p::ns=>p::WD ks ns
 | _,ns=>ns
def G9 (H:List (Nat×Blk)):Nat->List Bool->List (Option (Nat×Nat))->Bool
 | j,true::ks,some (n,v)::ns=>Nat.beq n j&&Nat.beq v 1&&(look H j).isSome&&G9 H (j+1) ks ns
 | j,true::ks,none::ns=>G9 H (j+1) ks ns
 | _,true::_,[]=>false
 | j,false::ks,_::ns=>G9 H (j+1) ks ns
 | _,false::_,[]=>false
 | _,[],_=>true
def Ge:List Bool->List AV->List OC->Bool
 | true::ks,.own _ _::xs,.row _ _::cs=>Ge ks xs cs
 | true::ks,.d _::xs,.dat _::cs=>Ge ks xs cs
 | [],[],[]=>true
 | _,_,_=>false
def QeP:AV->Bool
 | .agg l=>match Ju l with
  | none=>true
  | some _=>false
 | .d (.agg _)=>true
 | _=>false
def QiF (cx:Cx)(f:FuncId)(sz:Nat)(L d b : jVj):Prop :=
 ∀(w:World) (F:Nat->Prop) (r cap:Nat) (c:Array Value) (e:TypeId) (vs:List Value),(∀q,F q->q<w.heap.size)->(∀g x,cx.G g=some x->GAt w F g x)->F r ->
  d.length=vs.length->(∀(i:Nat) (c:D) (y:Value),d[i]?=some c->vs[i]?=some y->DR w F c y) ->
  w.heap[r]?=some (.cells c e (0,0))->RowIn w F sz L c->L.length<=cap->cap*sz<=c.size ->
  Calls cx.P f (Value.slice (some ⟨r,0,none⟩) L.length cap::vs).toArray w fun h w'=>h=.returned (.tuple #[])/\b.length=L.length /\
   ∃a,a.size=c.size/\RowIn w F sz b a/\w'.heap[r]?=some (.cells a e (0,0))/\Ext w (fun q=>q=r) w'
def arow (cx:Cx)(H:List (Nat×Blk))(nx:Nat)(f:FuncId)(a:List AV)(b ver sz:Nat)(es:jVj)(r:AV)(c : List OC)(o' : List Orc):Option RC :=
 match a,c,r with
 | .own b' ver'::rest,[.row sz' L'],.d (.tup [])=>match Nat.beq b' b&&Nat.beq ver' ver&&Nat.beq sz' sz,Kr H rest with
  | true,some (ds,e)=>match e.contains b with
   | true=>none
   | false=>some { val:=.d (.tup []),up:=(b,.row ver sz L')::Qd H e,full:=none,nx,ob:=[QiF cx f sz es ds L',es≠[]],orc:=o',sfx:=true }
  | _,_=>none
 | _,_,_=>none
def zD (H:List (Nat×Blk))(b:Nat)(x:AV):Option (AV×List Nat):=match x.toDH H with
 | some (y,a)=>match a.contains b with
  | true=>none
  | false=>some (.d y,a)
 | none=>none
mutual
def AV.argM (H:List (Nat×Blk))(b:Nat):AV->Option (AV×List Nat)
 | .own n v=>match Nat.beq n b&&Nat.beq v 0 with
  | true=>some (.own 0 0,[])
  | false=>zD H b (.own n v)
 | .agg cs=>match zD H b (.agg cs) with
  | some r=>some r
  | none=>match QbJ H b cs with
   | some (l,gs)=>some (.agg l,gs)
   | none=>none
 | .d x=>zD H b (.d x)
 | .tup cs=>zD H b (.tup cs)
 | .dptr x o=>zD H b (.dptr x o)
 | .ptr n v sz i off=>zD H b (.ptr n v sz i off)
 | .sub n v sz lo k=>zD H b (.sub n v sz lo k)
 | .fn f x y=>zD H b (.fn f x y)
 | .junk=>none
def QbJ (H:List (Nat×Blk))(b:Nat):List AV->Option (List AV×List Nat)
 | []=>some ([],[])
 | x::l=>match x.argM H b,QbJ H b l with
  | some (y,fs),some (ys,gs)=>some (y::ys,fs++gs)
  | _,_=>none
end
def jo (cx:Cx)(f:FuncId)(xs:List AV)(es:jVj)(r:D)(es' : jVj):Prop :=
 ∀(w:World) (F:Nat->Prop) (m:Nat) (vs:List Value),HSim cx F [(0,.mp es)] (fun _=>.map (some m)) w->xs.length=vs.length ->
  (∀(i:Nat) (c:AV) (y:Value),xs[i]?=some c->vs[i]?=some y->VR w (MM F [(0,.mp es)] fun _=>.map (some m)) [(0,.mp es)] (fun _=>.map (some m)) c y) ->
  Calls cx.P f vs.toArray w fun e w'=>∃y,e=.returned y/\HSim cx F [(0,.mp es')] (fun _=>.map (some m)) w'/\DR w' (MM F [(0,.mp es')] fun _=>.map (some m)) r y/\Ext w (fun q=>q=m) w'
def amap (cx:Cx)(H:List (Nat×Blk))(nx:Nat)(f:FuncId)(a:List AV)(b:Nat)(es:jVj)(r:AV)(c : List OC)(o' : List Orc):Option RC :=
 match QbJ H b a,c,r with
 | some (xs,e),[.dat (.mp es')],.d y=>match e.contains b with
  | true=>none
  | false=>some { val:=.d y,up:=(b,.mp es')::Qd H e,full:=none,nx,ob:=[jo cx f xs es y es'],orc:=o',sfx:=true }
 | _,_,_=>none
def QiB (cx:Cx)(H:List (Nat×Blk))(d:Nat)(f:FuncId)(a:List AV)(b:Nat)(k:Option Blk)(r:AV)(c : List OC)(o' : List Orc):Option RC :=
 match k with
 | some (.mp es)=>amap cx H d f a b es r c o'
 | _=>none
def kH (cx:Cx)(H:List (Nat×Blk))(nx:Nat)(f:FuncId)(c:List AV)(bo:Option Nat)(r:AV)(a : List OC)(ks:List Bool)(o' : List Orc):Option RC :=
  match jj H bo c,YG H nx with
  | some (g,d),true=>match bo with
    | some b=>match look H b with
      | some (.box x)=>match x.cells,Gi x with
        | some cells,true=>match YT H nx cells a with
          | some (cs,ns,e)=>match E3 b (d++e) ns,r.resO b with
            | true,some v=>match Ge ks cells a&&QeP x with
             | true=>some { val:=v,up:=Qd H (d++e),full:=none,nx,ob:=[ComputesO cx f g (some cs) r cs ks],orc:=o',sfx:=true }
             | false=>some { val:=v,up:=(b,.box (AV.norm (.agg (ZH (WD ks ns) a))))::(Vn (WD ks ns) a++Qd H (d++e)),full:=none,nx:=nx+a.length,ob:=[ComputesO cx f g (some cs) r a ks],orc:=o',sfx:=true }
            | _,_=>none
          | none=>none
        | _,_=>none
      | some (.row ver sz es)=>arow cx H nx f c b ver sz es r a o'
      | k=>QiB cx H nx f c b k r a o'
    | none=>match Qkg ks a with
     | some (sz,L)=>match Kr H c,renF 0 0 nx r with
       | some (ds,e),some v=>some { val:=v,up:=(nx,.row 0 sz L)::Qd H e,full:=none,nx:=nx+1,ob:=[QbO cx f ds sz L r],orc:=o',sfx:=true }
       | _,_=>none
     | none=>match E3 nx d (YW (nx+1) a),r.resO nx with
      | true,some v=>some { val:=v,up:=(nx,.box (AV.norm (.agg (ZH (YW (nx+1) a) a))))::(Vn (YW (nx+1) a) a++Qd H d),full:=none,nx:=nx+1+a.length,ob:=[ComputesO cx f g none r a ks],orc:=o',sfx:=true }
      | _,_=>none
  | _,_=>none
def Qij:D->Bool
 | .v _=>true
 | _=>false
def QfY:D->Bool
 | .v _=>true
 | .agg l=>l.all Qij
 | _=>false
def Qev:D->Bool
 | .v _=>true
 | .agg l=>l.all Qij
 | .tup l=>l.all QfY
 | _=>false
def QbM (c:Code->St->Option (Ex×St))(cx:Cx)(keepable:Bool)(H:List (Nat×Blk))(nx:Nat)(sym:Bool)(orc:List Orc)(f:FuncId)(b:List AV):Option RC :=
 match cx.P.funcs[f]? with
 | none=>none
 | some fn=>match fn.body with
  | none=>match allV b with
   | some vs=>match Zu cx.P (callFunc f vs.toArray) with
    | some (.value v)=>some { val:=.d (ofV v),up:=[],full:=none,nx,ob:=[],orc,sfx:=true }
    | _=>none
   | none=>none
  | some _=>match zR (sym || cx.O f) orc with
   | some (.ret r,o')=>match Kr H b with
    | some (ds,e)=>some { val:=.d r,up:=Qd H e,full:=none,nx,ob:=[Computes cx f ds r],orc:=o',sfx:=true }
    | none=>none
   | some (.obj bo r cs' ks,o')=>kH cx H nx f b bo r cs' ks o'
   | some (.br _,o')=>match keepable,KM c cx f b { nt:=0,sym,tm:=[],hp:=H,nx,orc:=o',ob:=[],vis:=nx,sfx:=true } with
    | true,some (x,s')=>uC H nx x s'
    | false,some (x,s')=>zb H nx x s'
    | _,_=>none
   -- a plain result: what was looked at stays as it is
   | some (.ix _,.ret r::o')=>match Qev r,Kr H b with
    | true,some (ds,_)=>some { val:=.d r,up:=[],full:=none,nx,ob:=[Computes cx f ds r],orc:=o',sfx:=true }
    | _,_=>none
   | some (.no,o')=>match Qh3 cx sym H f b nx o' with
    | some g=>some g
    | none=>match YG H nx,KM c cx f b { nt:=0,sym,tm:=[],hp:=H,nx,orc:=o',ob:=[],vis:=nx,sfx:=true } with
     | true,some (x,s')=>match sym || Qkb x,QbZ H x s' with
      | true,some y=>some { val:=y,up:=[],full:=none,nx,ob:=s'.ob,orc:=s'.orc,sfx:=true }
      | true,none=>match keepable with
       | true=>uC H nx x s'
       | false=>none
      | false,r=>match keepable,r with
       | true,_=>uC H nx x s'
       | false,some y=>some { val:=y,up:=[],full:=none,nx,ob:=s'.ob,orc:=s'.orc,sfx:=true }
       | false,none=>match sym with
        | true=>none
        | false=>zb H nx x s'
     | _,_=>none
   | _=>none
def Ee (ops:Array Oper)(i:Nat)(o:Oper)(s:St)(x:AV)(hp:List (Nat×Blk))(nx:Nat)(orc:List Orc)(ob:List Prop)(sfx:Bool):Option St :=
 match wN ops i with
 | true=>match litB s.sym orc x with
  | some (y,a,b)=>({ s with hp,nx,orc:=b,ob:=a++(ob++s.ob),sfx:=s.sfx&&sfx }:St).put o.dst y
  | none=>none
 | false=>({ s with hp,nx,orc,ob:=ob++s.ob,sfx:=s.sfx&&sfx }:St).put o.dst x
def Qan:List Nat->List AV->List (Nat×AV)->List (Nat×AV)
 | t::ps,x::xs,tm=>Qan ps xs ((t,x)::tm)
 | _,_,tm=>tm
def K6 (b:Nat)(H:List (Nat×Blk)):Bool:=H.all fun p=>Nat.beq p.1 b || wH p.2
def jr (c:Code->St->Option (Ex×St))(H:List (Nat×Blk))(nx:Nat)(sym:Bool)(orc:List Orc)(b ver:Nat)(a:List AV):Option RC :=
 match look H b,Nat.beq ver 0&&YG H nx with
 | some (.loop true tm ps as bd nt),true =>
  match Nat.beq ps.length a.length&&ps.all (fun t=>Nat.blt t nt) with
  | true=>match c as { nt,sym,tm:=Qan ps a tm,hp:=H,nx,orc,ob:=[],vis:=nx,sfx:=true,rnd:=true } with
   | some (.normal,s1)=>match look s1.hp b,K6 b s1.hp with
    | some (.loop true tm1 ps1 as1 bd1 nt1),true=>match c bd { s1 with hp:=(b,.loop false tm1 ps1 as1 bd1 nt1)::s1.hp } with
     | some (.normal,s2)=>match look s2.hp b,K6 b s2.hp with
      | some (.loop false tm2 ps2 as2 bd2 nt2),true=>some { val:=.d (.v (.bool true)),up:=[],full:=some ((b,.loop true tm2 ps2 as2 bd2 nt2)::s2.hp),nx:=s2.nx,ob:=s2.ob,orc:=s2.orc,sfx:=!sym&&s2.sfx }
      | _,_=>none
     -- the body is left: the loop is Ky,and the jump is pending
     | some (e,s2)=>match look s2.hp b,K6 b s2.hp with
      | some (.loop false _ _ _ _ _),true=>some { val:=.d (.v (.bool false)),up:=[],full:=some ((b,.left e)::s2.hp),nx:=s2.nx,ob:=s2.ob,orc:=s2.orc,sfx:=!sym&&s2.sfx }
      | _,_=>none
     | none=>none
    | _,_=>none
   | _=>none
  | false=>none
 | _,_=>none
abbrev Uu:=List (Nat×Blk)->Nat->Bool->List Orc->Nat->Nat->List AV->Option RC
abbrev Jt:=Bool->List (Nat×Blk)->Nat->Bool->List Orc->FuncId->List AV->Option RC
def yI:AV->Option (Nat×Nat)
 | .own b ver=>some (b,ver)
 | _=>none
def qN (cx:Cx)(call:Jt)(g:Uu)(ops:Array Oper)(base:Nat)(i:Nat)(s:St):Option St :=
  match nth ops.toList i with
  | none=>none
  | some o=>match GM ops s.tm o with
    | none=>none
    | some false=>s.put o.dst (.d (.v undef))
    | some true=>match Jf o with
      | some (e,c)=>match yI (evA cx s.tm e) with
       | some (b,ver)=>match g s.hp s.nx s.sym s.orc b ver (c.map (evA cx s.tm)) with
        | none=>none
        | some rc=>Ee ops i o s rc.val (rc.heap s.hp) rc.nx rc.orc rc.ob rc.sfx
       | none=>match GX (evA cx s.tm e) with
        | none=>none
        | some (f,a,b)=>match call true s.hp s.nx s.sym s.orc f (a++c.map (evA cx s.tm)++b) with
          | none=>none
          | some rc=>Ee ops i o s rc.val (rc.heap s.hp) rc.nx rc.orc rc.ob rc.sfx
      | none=>match aop cx s.sym s.orc s.hp (base+i) (evA cx s.tm) o with
        | none=>none
        | some r=>Ee ops i o s r.val (r.up++s.hp) s.nx r.orc r.ob true
def UZ (cx:Cx)(call:Jt)(a:Uu)(ops:Array Oper)(base:Nat):List Nat->St->Option St
 | [],s=>some s
 | i::l,s=>match qN cx call a ops base i s with
  | some s'=>UZ cx call a ops base l s'
  | none=>none
structure Rec where
 i:Nat
 dst:Option Tmp
 val:AV
 up:List (Nat×Blk)
 fp:Option (List Nat):=none
 piv:Bool:=false
 nx:Nat:=0
 adr:Bool:=false
def YL:List Rec->List (Nat×AV)
 | []=>[]
 | r::l=>match r.dst with
  | some t=>(t,r.val)::YL l
  | none=>YL l
def WR:List Rec->List (Nat×Blk)
 | []=>[]
 | r::l=>r.up++WR l
def Jo (a:Nat):List Rec->List Rec
 | []=>[]
 | r::l=>match a.testBit r.i with
  | true=>r::Jo a l
  | false=>Jo a l
def yL (o:Oper):Bool:=match o.op with
 | .move _=>false
 | .assign _=>false
 | .pick _ _ _=>false
 | .alloc _=>false
 | .box _ _=>false
 | .build _ _=>false
 | .binOp _ _ _ _ _=>false
 | .unOp _ _ _=>false
 | .makeFunc _ _ _=>false
 | .field _ _ _=>false
 | .index _ _ _=>false
 | .extract _ _=>false
 | .call { callee:=.builtin .max,args:=_,argTypes:=_ }=>false
 | .call { callee:=.builtin .min,args:=_,argTypes:=_ }=>false
 | _=>true
def Qbs:AV->Option (List Nat)
 | .ptr b _ _ _ _=>some [b]
 | .own b _=>some [b]
 | .sub b _ _ _ _=>some [b]
 | .dptr _ _=>some []
 | .d _=>some []
 | _=>none
def uR (c:Operand->AV)(o:Oper):Option (List Nat):=match o.op with
 | .load _ a=>Qbs (c a)
 | .convert _ _ x=>Qbs (c x)
 | .fieldAddr _ x _=>Qbs (c x)
 | .indexAddr _ x _=>Qbs (c x)
 | .nilCheck x=>Qbs (c x)
 | .call { callee:=.builtin b,args,argTypes:=_ }=>match b,args.toList with
  | .len,[x]=>Qbs (c x)
  | _,_=>none
 | _=>none
def E1 (_masks:List Nat)(s:St)(recs:List Rec)(o:Oper)(a:Nat)(b:Option (List Nat)):List (Nat×Blk):=match yL o with
 | true=>match b with
  | none=>WR (Jo a recs)++s.hp
  | some fs=>(WR (Jo a recs)++s.hp).filter fun p=>fs.contains p.1
 | false=>[]
def QfR (cx:Cx)(s:St)(recs:List Rec)(o:Oper):Option Nat:=match o.op with
 | .call { callee:=.builtin .len,args,argTypes }=>match args.toList,argTypes.toList with
  | [.tmp t],ty::_=>match cx.P.underlying ty,look s.tm t,recs.all fun r=>match r.dst with|some d=>!(Nat.beq d t)|none=>true with
   | some (.slice _),some (.own b ver),true=>match Ka s.hp (.own b ver) with
    | some es=>some es.length
    | none=>none
   | _,_,_=>none
  | _,_=>none
 | _=>none
def ZZ (a:List Nat)(i j:Nat):Bool:=match nth a j with
 | some m=>m.testBit i
 | none=>false
def Qbz (r:Rec)(t:Nat):Bool:=match r.dst with
 | some d=>Nat.beq d t
 | none=>false
def Qcf (t:Nat):List Rec->Option Rec
 | []=>none
 | r::l=>match Qbz r t with
  | true=>some r
  | false=>Qcf t l
def QhW (cx:Cx)(ops:Array Oper)(a:List Nat)(s:St)(recs:List Rec)(i:Nat)(o:Oper):Option Nat:=match o.op with
 | .call { callee:=.builtin .len,args,argTypes }=>match args.toList,argTypes.toList with
  | [.tmp t],ty::_=>match cx.P.underlying ty,Qcf t recs with
   | some (.slice _),some r=>match nth ops.toList r.i with
    | some p=>match p.op,p.guard with
     | .move (.tmp t0),none=>match look s.tm t0,ZZ a r.i i&&(recs.all fun q=>!(Qbz q t) || Nat.beq q.i r.i)&&(recs.all fun q=>!(Nat.blt q.i r.i) || !(Qbz q t0)) with
      | some (.own b ver),true=>match Ka s.hp (.own b ver) with
       | some es=>some es.length
       | none=>none
      | _,_=>none
     | _,_=>none
    | none=>none
   | _,_=>none
  | _,_=>none
 | _=>none
def qj (s:St)(recs:List Rec)(a:Nat):List (Nat×Blk):=match (Jo a recs).any fun r=>r.up.any fun p=>Vo s.hp p.1 with
 | true=>[]
 | false=>s.hp
def boxB:Blk->Bool
 | .box _=>true
 | .row _ _ _=>false
 | .frozen _ _ _=>false
 | .virt _ _ _=>false
 | .loop _ _ _ _ _ _=>false
 | .mp _=>false
 | .it _ _=>false
 | .fbox _=>false
 | .left _=>false
 | .dead=>false
def ptrB:AV->Option Nat
 | .ptr b _ _ _ _=>some b
 | .d _=>none
 | .agg _=>none
 | .tup _=>none
 | .dptr _ _=>none
 | .own _ _=>none
 | .sub _ _ _ _ _=>none
 | .fn _ _ _=>none
 | .junk=>none
def qA (a:Operand->AV)(o:Oper):Option Nat:=match o.op with
 | .fieldAddr _ x _=>ptrB (a x)
 | .indexAddr _ x _=>ptrB (a x)
 | _=>none
def adrB (hp:List (Nat×Blk)):Option Nat->Bool
 | some b=>match look hp b with
  | some k=>boxB k
  | none=>false
 | none=>false
def uN (H:List (Nat×Blk))(nm:Nat)(i:Nat)(dst:Option Tmp)(p:Nat×Blk)(a:RC):Option (Rec×List Prop×List Orc):=match renF p.1 p.2.ver nm a.val,jU p.2&&!(Vo H p.1) with
 | some v,true=>some ({ i,dst,val:=v,up:=[(nm,stamp p.2)] },a.ob,a.orc)
 | _,_=>none
def QhT:Nat->List Rec->Nat
 | n,[]=>n
 | n,r::l=>QhT (match Nat.ble n r.nx with|true=>r.nx|false=>n) l
def effO:List Orc->Option (List Orc)
 | .ix k::r=>match decide (k=-9) with
  | true=>some r
  | false=>none
 | _=>none
def effC (cx:Cx)(a:Bool)(orc:List Orc)(b:AV):Option (List Orc):=match effO orc with
 | some o=>some o
 | none=>match a,GX b with
  | false,some (f,_,_)=>match cx.E f with
   | true=>some orc
   | false=>none
  | _,_=>none
def Qip (H:List (Nat×Blk))(a:RC):Option (List (Nat×Blk)):=match a.full,a.sfx with
 | some h,true=>some (h.take (h.length - H.length))
 | some h,false=>some h
 | none,_=>some a.up
def EW (cx:Cx)(call:Jt)(t:Uu)(ops:Array Oper)(g:List Nat)(base:Nat)(s:St)(i:Nat)(recs:List Rec)(orc:List Orc):Option (Rec×List Prop×List Orc) :=
  match nth ops.toList i,nth g i with
  | some o,some c =>
    let tm:=YL recs++s.tm
    match GM ops tm o with
    | none=>none
    | some false=>some ({ i,dst:=o.dst,val:=.d (.v undef),up:=[],fp:=some [] },[],orc)
    | some true =>
      match Jf o with
      | some (q,j)=>match yI (evA cx tm q) with
       | some (b,ver)=>match t (WR (Jo c recs)++s.hp) (base+ops.toList.length) s.sym orc b ver (j.map (evA cx tm)) with
        | none=>none
        | some e=>match e.full,wN ops i with
          | some h,true=>match litB s.sym e.orc e.val with
            | some (y,l,m)=>some ({ i,dst:=o.dst,val:=y,up:=h,piv:=true,nx:=e.nx },l++e.ob,m)
            | none=>none
          | some h,false=>some ({ i,dst:=o.dst,val:=e.val,up:=h,piv:=true,nx:=e.nx },e.ob,e.orc)
          | none,_=>none
       | none=>match effC cx s.sym orc (evA cx tm q) with
        | some n=>match GX (evA cx tm q),wN ops i with
          | some (f,a,b),false=>match call true (WR (Jo c recs)++s.hp) (QhT (base+ops.toList.length) (Jo c recs)) s.sym n f (a++j.map (evA cx tm)++b) with
            | some e=>match Qip (WR (Jo c recs)++s.hp) e with
              | some u=>some ({ i,dst:=o.dst,val:=e.val,up:=u,piv:=true,nx:=e.nx },e.ob,e.orc)
              | none=>none
            | none=>none
          | _,_=>none
        | none=>match GX (evA cx tm q) with
        | none=>none
        | some (f,a,b)=>match inHs (qj s recs c) (a++j.map (evA cx tm)++b),call false (qj s recs c) (base+ops.toList.length) s.sym orc f (a++j.map (evA cx tm)++b) with
          | true,some e=>match e.full,e.up,wN ops i with
            | none,[],true=>match litB s.sym e.orc e.val with
              | some (y,l,m)=>some ({ i,dst:=o.dst,val:=y,up:=[] },l++e.ob,m)
              | none=>none
            | none,[],false=>some ({ i,dst:=o.dst,val:=e.val,up:=[] },e.ob,e.orc)
            | none,[p],false=>uN (qj s recs c) (base+i) i o.dst p e
            | _,_,_=>none
          | _,_=>none
      | none=>match QfR cx s recs o with
       | some k=>some ({ i,dst:=o.dst,val:=.d (.v (.int .i64 k)),up:=[],fp:=some [] },[],orc)
       | none=>match QhW cx ops g s recs i o with
        | some k=>some ({ i,dst:=o.dst,val:=.d (.v (.int .i64 k)),up:=[],fp:=some [] },[],orc)
        | none=>match aop cx s.sym orc (E1 g s recs o c (uR (evA cx tm) o)) (base+i) (evA cx tm) o with
         | none=>none
         | some r=>match wN ops i with
           | true=>match litB s.sym r.orc r.val with
             | some (y,l,m)=>some ({ i,dst:=o.dst,val:=y,up:=r.up,fp:=uR (evA cx tm) o,adr:=adrB (E1 g s recs o c (uR (evA cx tm) o)) (qA (evA cx tm) o) },l++r.ob,m)
             | none=>none
           | false=>some ({ i,dst:=o.dst,val:=r.val,up:=r.up,fp:=uR (evA cx tm) o,adr:=adrB (E1 g s recs o c (uR (evA cx tm) o)) (qA (evA cx tm) o) },r.ob,r.orc)
  | _,_=>none
def JA (cx:Cx)(call:Jt)(c:Uu)(ops:Array Oper)(a:List Nat)(base:Nat)(s:St):List Nat->List Rec->List Prop->List Orc->Option (List Rec×List Prop×List Orc)
 | [],recs,ob,orc=>some (recs,ob,orc)
 | i::l,recs,ob,orc=>match EW cx call c ops a base s i recs orc with
  | some (r,b,d)=>JA cx call c ops a base s l (r::recs) (b++ob) d
  | none=>none
def JI (base:Nat)(r:Rec):Bool:=r.up.any fun p=>!(Nat.beq p.1 (base+r.i))
def Uc (ops:Array Oper)(i:Nat):Bool:=match nth ops.toList i with
 | some o=>yL o
 | none=>true
def wI (r q:Rec):Bool:=match q.fp,q.up with
 | some a,[]=>r.up.any fun p=>a.contains p.1&&!(q.adr&&boxB p.2)
 | _,_=>true
def G1 (ops:Array Oper)(a:List Nat)(base:Nat)(r q:Rec):Bool :=
 ZZ a r.i q.i || ZZ a q.i r.i || Nat.beq r.i q.i || (!(JI base r&&Uc ops q.i&&wI r q)&&!(JI base q&&Uc ops r.i&&wI q r))
def J2 (o:Oper)(ops:Array Oper):List Tmp :=
  (o.op.operands.toList.filterMap fun | .tmp t=>some t|_=>none) ++
  (match o.guard with
   | some (g,_)=>match nth ops.toList g with
     | some x=>x.dst.toList
     | none=>[]
   | none=>[])
def JK (ops:Array Oper)(a:List Nat)(i j:Nat):Bool :=
 ZZ a i j || ZZ a j i || Nat.beq i j ||
 match nth ops.toList i,nth ops.toList j with
 | some x,some y=>match x.dst with
  | some d=>!((J2 y ops).contains d)&&(match y.dst with|some e=>!(Nat.beq d e)|none=>true)
  | none=>true
 | _,_=>false
def QeL (a:List Nat)(o:Oper)(j:Nat):Nat:=o.after.toList.foldl (fun s e=>match Region.binds .any e&&Nat.blt e.on j with
 | true=>s ||| (2 ^ e.on ||| (match nth a e.on with|some m=>m|none=>0))
 | false=>s) 0
def Vq (a:List Nat)(j:Nat):Nat:=match nth a j with
 | some m=>m
 | none=>0
def QfN (ops:Array Oper)(a:List Nat):Bool:=(List.range ops.toList.length).all fun j=>match nth ops.toList j with
 | some o=>Nat.beq (Vq a j) (QeL a o j)&&(o.after.toList.all fun e=>!(Region.binds .any e) || Nat.blt e.on j) &&
  ((List.range j).all fun i=>!((Vq a j).testBit i) || Nat.beq (Vq a i &&& Vq a j) (Vq a i))
 | none=>false
def Qct (ops:Array Oper)(a:List Nat)(base:Nat)(s:St)(recs:List Rec):Bool :=
 Nat.beq a.length ops.toList.length&&QfN ops a &&
 ((List.range ops.toList.length).all fun i=>(List.range ops.toList.length).all fun j=>JK ops a i j) &&
 (recs.all fun r=>!(JI base r) || recs.all fun q=>G1 ops a base r q) &&
 (recs.all fun r=>r.up.all fun p=>match Nat.beq p.1 (base+r.i) with
  | true=>!(Vo s.hp p.1)
  | false=>(Vo s.hp p.1 || (List.range r.i).any fun i=>Nat.beq p.1 (base+i)&&ZZ a i r.i) || (r.piv&&Nat.ble (base+ops.toList.length) p.1)) &&
 (YG s.hp base || (List.range ops.toList.length).all fun i=>!(Vo s.hp (base+i))) &&
 (recs.all fun r=>!(JI base r) || Uc ops r.i) &&
 (recs.all fun r=>match r.dst with|some d=>Nat.blt d s.nt|none=>true) &&
 (recs.all fun r=>!r.piv || recs.all fun q=>Nat.beq q.i r.i || ZZ a q.i r.i || ZZ a r.i q.i || q.up.isEmpty)
def QbB:List (Nat×AV)->Nat->List (Nat×AV)
 | [],_=>[]
 | p::l,seen=>match seen.testBit p.1 with
  | true=>QbB l seen
  | false=>p::QbB l (seen ||| 2 ^ p.1)
def JB (tm:List (Nat×AV)):Nat->List (Nat×AV)
 | 0=>[]
 | n+1=>match look tm n with
  | some x=>(n,x)::JB tm n
  | none=>JB tm n
mutual
def AV.clean (hp:List (Nat×Blk))(vis:Nat)(kb:List Nat):AV->AV
 | .d x=>.d x
 | .agg cs=>.agg (Gl hp vis kb cs)
 | .tup cs=>.tup (Gl hp vis kb cs)
 | .dptr x o=>.dptr x o
 | .ptr b ver sz i off=>match kb.contains b&&El hp b ver with
  | true=>match Nat.blt b vis with
   | true=>.ptr b ver sz i off
   | false=>.ptr b 0 sz i off
  | false=>.junk
 | .own b ver=>match kb.contains b&&El hp b ver with
  | true=>match Nat.blt b vis with
   | true=>.own b ver
   | false=>.own b 0
  | false=>.junk
 | .sub b ver sz lo n=>match kb.contains b&&El hp b ver with
  | true=>match Nat.blt b vis with
   | true=>.sub b ver sz lo n
   | false=>.sub b 0 sz lo n
  | false=>.junk
 | .fn f a b=>.fn f (Gl hp vis kb a) (Gl hp vis kb b)
 | .junk=>.junk
def Gl (hp:List (Nat×Blk))(vis:Nat)(kb:List Nat):List AV->List AV
 | []=>[]
 | x::l=>x.clean hp vis kb::Gl hp vis kb l
end
def wZ (hp:List (Nat×Blk))(vis:Nat)(a:List Nat):List (Nat×AV)->List (Nat×AV)
 | []=>[]
 | (t,x)::l=>(t,x.clean hp vis a)::wZ hp vis a l
def Blk.clean (hp:List (Nat×Blk))(vis:Nat)(a:List Nat)(b:Nat):Blk->Option Blk
 | .box x=>match (x.clean hp vis a).cells with
  | some _=>some (.box (x.clean hp vis a))
  | none=>none
 | .row v sz es=>some (.row (match Nat.blt b vis with|true=>v|false=>0) sz es)
 | .frozen v sz es=>some (.frozen (match Nat.blt b vis with|true=>v|false=>0) sz es)
 | .virt v sz es=>some (.virt (match Nat.blt b vis with|true=>v|false=>0) sz es)
 | .loop rdy tm ps as bd nt=>some (.loop rdy (wZ hp vis a tm) ps as bd nt)
 | .mp es=>some (.mp es)
 | .it s p=>some (.it s p)
 | .fbox x=>some (.fbox x)
 | .left e=>some (.left e)
 | .dead=>some .dead
def Qbk (hp:List (Nat×Blk))(vis:Nat)(a:List Nat)(tm:List (Nat×AV)):List Nat->List (Nat×AV)
 | []=>[]
 | t::l=>match look tm t with
  | some x=>(t,x.clean hp vis a)::Qbk hp vis a tm l
  | none=>Qbk hp vis a tm l
def uE (hp:List (Nat×Blk))(vis:Nat)(a:List Nat):List Nat->Option (List (Nat×Blk))
 | []=>some []
 | b::l=>match look hp b,uE hp vis a l with
  | some k,some r=>match k.clean hp vis a b with
   | some c=>some ((b,c)::r)
   | none=>none
  | _,_=>none
def Xm (z sz:Nat)(es:jVj):Blk:=match z with
 | 0=>.virt 0 sz es
 | z+1=>match es with
  | []=>.row 0 (z+1) []
  | e::l=>.virt 0 sz (e::l)
def X3 (tm:List (Nat×AV))(hp:List (Nat×Blk))(a:Nat):List Nat->List (Nat×AV)×List (Nat×Blk)×Nat
 | t::z::l=>match look tm t,look hp a with
  | some (.d (.lst true sz es)),none=>X3 ((t,.own a 0)::tm) ((a,Xm z sz es)::hp) (a+1) l
  | _,_=>X3 tm hp a l
 | _=>(tm,hp,a)
def Qbe (s:St)(d c a:List Nat):Option St :=
 match X3 s.tm s.hp s.nx d with
 | (tm,hp,nx)=>match uE hp s.vis a a,hp.all fun q=>!(Nat.blt q.1 s.vis) || a.contains q.1 with
  | some b,true=>some { s with tm:=Qbk hp s.vis a tm c,hp:=b,nx,ob:=[],orc:=[] }
  | _,_=>none
def Jk:Ex->Exit
 | .normal=>.normal
 | .exit id=>.exit id
 | .ret=>.ret
structure StepsV (vis:Nat) (hp:List (Nat×Blk)) (ρ:Nat->Value) (w:World) (hp' : List (Nat×Blk)) (ρ' : Nat->Value) (w' : World):Prop where
 ext:Ext w (Mut hp ρ) w'
 mt:∀r,r<w.heap.size->Mut hp' ρ' r->Mut hp ρ r
 grow:∀b k,b<vis->look hp b=some k->∃k',look hp' b=some k'/\k.ver<=k'.ver/\(k.ver=k'.ver->ρ' b=ρ b)
theorem Steps1.toV {vis:Nat}{hp c : List (Nat×Blk)}{ρ ρ' : Nat->Value}{w w' : World}(h:Steps1 hp ρ w c ρ' w'):StepsV vis hp ρ w c ρ' w' :=
 ⟨h.ext,h.mt,fun b k _ d=>h.grow.dom b k d⟩
theorem StepsV.refl (vis:Nat)(hp:List (Nat×Blk))(ρ:Nat->Value)(w:World):StepsV vis hp ρ w hp ρ w:=(Steps1.refl hp ρ w).toV
theorem StepsV.trans {vis:Nat}{g h i:List (Nat×Blk)}{l m o:Nat->Value}{p q s:World}(a:StepsV vis g l p h m q)(b:StepsV vis h m q i o s):StepsV vis g l p i o s :=
 ⟨a.ext.trans b.ext fun r c f=>a.mt r c f,fun r c f=>a.mt r c (b.mt r (Nat.lt_of_lt_of_le c a.ext.size) f),fun n k j v=>by obtain⟨x,d,l2,t⟩:=a.grow n k j v;obtain⟨y,e,z,u⟩:=b.grow n x j d;exact⟨y,e,Nat.le_trans l2 z,fun A=>by rw[u (by omega),t (by omega)]⟩⟩
abbrev fen (r:Option Nat):Fence:={ Fence.wide with round:=r }
theorem Qil (r:Option Nat)(n:Nat):(fen r).room n:=by intro d b;cases b
def wpR (r:Option Nat)(P:Program)(c:Code)(Q:Exit->Act->World->Prop)(a:Act)(w:World):Prop:=∀m,c.wpIn (fen r) m P Q a w
section
variable {r:Option Nat}{P:Program}{Q:Exit->Act->World->Prop}{a:Act}{w:World}
theorem VW {c:Code}{b : Exit->Act->World->Prop}(h:wpR r P c Q a w)(d:∀e a w,Q e a w->b e a w):wpR r P c b a w:=fun m=>wpIn_mono (h m) d
theorem Qhe (h:Q .normal a w):wpR r P .skip Q a w:=fun _=>wpIn_skip h
theorem Qge {l:Nat}(h:Q .normal a w):wpR r P (.label l) Q a w:=fun _=>wpIn_label h
theorem Qhf {id:Nat}(h:Q (.exit id) a w):wpR r P (.exit id) Q a w:=fun _=>wpIn_exit h
theorem QiH (h:Q .ret a w):wpR r P .ret Q a w:=fun _=>wpIn_ret h
theorem Qfn {x y:Code}(h:wpR r P x (Exit.then (wpR r P y Q) Q) a w):wpR r P (.seq x y) Q a w:=fun m=>wpIn_seq (wpIn_mono (h m) fun e a w b=>by
 cases e with
 | normal=>exact b m
 | exit id=>exact b
 | goto l=>exact b
 | ret=>exact b
 | panic ch=>exact b
 | outgrown=>exact b)
theorem QcP {c:Operand}{x y:Code}{t:Bool}(hc:a.eval c=.bool t)(h:wpR r P (if t then x else y) Q a w):wpR r P (.cond c x y) Q a w:=fun m=>wpIn_cond hc (h m)
theorem QaC {c:Operand}{x y:Code}(hc:a.eval c=.bool true)(h:wpR r P x Q a w):wpR r P (.cond c x y) Q a w:=fun m=>wpIn_cond_true hc (h m)
theorem yV {c:Operand}{x y:Code}(hc:a.eval c=.bool false)(h:wpR r P y Q a w):wpR r P (.cond c x y) Q a w:=fun m=>wpIn_cond_false hc (h m)
theorem js {id:Nat}{c:Code}(h:wpR r P c (Exit.inBlock id Q) a w):wpR r P (.block id c) Q a w:=fun m=>wpIn_block (h m)
theorem UN {b:Frame}{k:List Item}{cs:List Frame}{c:Code}:step P (lone (b.atR a (.code (.scope c)::k)) cs w)=.next (lone (b.atR a (.code c::.inScope c::k)) cs w) :=
 step_lone_go (by simp[stepG,stepG.exec,Frame.atR])
theorem QaF {b:Frame}{k:List Item}{cs:List Frame}{c:Code}:step P (lone (b.atR a (.inScope c::k)) cs w)=.next (lone (b.atR a k) cs w) :=
 step_lone_go (by simp[stepG,stepG.exec,Frame.atR])
theorem zG {c:Code}(h:wpR r P c (Exit.noGoto Q) a w):wpR r P (.scope c) Q a w:=by
 intro m b k cs s n p;have i:(lone (b.atR a (.code (.scope c)::k)) cs w).fenced P (fen r):=fenced_calm n p rfl;obtain⟨e,f,g,j,d⟩:=h m b (.inScope c::k) cs s n p;cases e with
 | normal=>exact⟨.normal,f,g,j,.head i UN (StepsIn.trans d (.one (fenced_calm n p rfl) QaF))⟩
 | exit id =>
  have t:exitTo id (.inScope c::k)=exitTo id k:=by simp[exitTo]
  exact⟨.exit id,f,g,j,fun u o=>.head i UN (d.1 u (by rw[t];exact o)),
   fun q o=>let ⟨k₁,h1,h2⟩:=d.2 q (by rw[t];exact o);⟨k₁,h1,.head i UN h2⟩⟩
 | goto l=>exact j.elim
 | ret=>exact⟨_,f,g,j,.of_steps (.one i UN) d⟩
 | panic ch=>exact⟨_,f,g,j,.of_steps (.one i UN) d⟩
 | outgrown=>exact⟨_,f,g,j,.of_steps (.one i UN) d⟩
end
def DfTo (w:World)(b:List Deferred)(w' : World)(ds:List Deferred):Prop :=
 ∃new:List Nat,ds=new.map (fun D=>{ target:=.collected D,args:=#[] })++b/\new.Nodup/\∀D,D∈new->w.heap.size<=D/\w'.heap[D]?=some (.deferred (some []))
theorem DfTo.refl (w:World)(b:List Deferred)(w' : World):DfTo w b w' b:=⟨[],rfl,List.nodup_nil,fun _ h=>by cases h⟩
def After (cx:Cx)(F:Nat->Prop)(vis f:Nat)(hp:List (Nat×Blk))(ρ:Nat->Value)(w:World)(d:List Deferred)(e : List (Nat×AV))(b : List (Nat×Blk))(c : Act)(w' : World):Prop :=
 ∃ρ',HSim cx F b ρ' w'/\TSim F e b ρ' c w'/\c.tmps.size=f/\DfTo w d w' c.defers/\StepsV vis hp ρ w b ρ' w'
def wpL (r:Option Nat)(P:Program)(c:Code)(Q:Exit->Act->World->Prop)(a:Act)(w:World):Prop :=
 ∀(b:Frame) (k:List Item) (cs:List Frame),b.roundOf=r->∃e d w',Q e d w'/\ArrivesIn (Machine.fenced P (fen r)) P (lone (b.atR a (.code c::.inLoop c::k)) cs w) b k cs e d w'
theorem Qgd {r:Option Nat}{P:Program}{c:Code}{Q:Exit->Act->World->Prop}{a:Act}{w:World}(h:wpL r P c Q a w):wpR r P (.loop c) Q a w:=by intro m b k cs f i l;obtain⟨e,g,w',j,d⟩:=h b k cs f;exact⟨e,g,w',j,.of_steps (.one (fenced_calm i l rfl) stepR_loop) d⟩
theorem qJ {r:Option Nat}{P:Program}{c:Code}{Q:Exit->Act->World->Prop}{a:Act}{w:World}(h:wpR r P c (Exit.then (wpL r P c Q) Q) a w):wpL r P c Q a w:=by
 intro b k cs p;have s:(fen r).fn b.fn:=trivial;have t:(fen r).room (cs.length+1+0):=Qil _ _;obtain⟨e,f,g,m,d⟩:=h 0 b (.inLoop c::k) cs p s t;cases e with
 | normal =>
  obtain⟨o,n,q,j,i⟩:=m b k cs p;exact⟨o,n,q,j,.of_steps (StepsIn.trans d (.one (fenced_calm s t rfl) stepR_inLoop)) i⟩
 | exit id=>exact⟨_,f,g,m,.pass (x:=.inLoop c) rfl (fun _ _=>.inl (by simp)) d⟩
 | goto l=>exact⟨_,f,g,m,.pass (x:=.inLoop c) rfl (fun _ _=>.inl (by simp)) d⟩
 | ret=>exact⟨_,f,g,m,.pass (x:=.inLoop c) rfl (fun _ _=>.inl (by simp)) d⟩
 | panic ch=>exact⟨_,f,g,m,.pass (x:=.inLoop c) rfl (fun _ _=>.inl (by simp)) d⟩
 | outgrown=>exact⟨_,f,g,m,.pass (x:=.inLoop c) rfl (fun _ _=>.inl (by simp)) d⟩
def Qkm (cx:Cx)(c:Code)(s:St)(e:Ex)(d : List (Nat×AV))(b : List (Nat×Blk)):Prop :=
 ∀(r:Option Nat) (F:Nat->Prop) (ρ:Nat->Value) (a:Act) (w:World),(s.rnd=false->r=none)->Sim cx F s ρ a w ->
  wpL r cx.P c (fun g f w'=>g=Jk e/\After cx F s.vis s.nt s.hp ρ w a.defers d b f w') a w
def QaA (cx:Cx)(c:Code)(nt vis:Nat)(rnd:Bool)(tm:List (Nat×AV))(hp:List (Nat×Blk))(e:Ex)(d : List (Nat×AV))(b : List (Nat×Blk)):Prop :=
 Qkm cx c { nt,sym:=true,tm,hp,nx:=0,orc:=[],ob:=[],vis,sfx:=true,rnd } e d b
def Qix (ops:Array Oper)(tm:List (Nat×AV)):List Nat :=
 match (ops.toList.any fun o=>match o.op with | .slice _ _ _ _ _=>true|_=>false)&&(ops.toList.any fun o=>(Jf o).isSome) &&
   !(ops.toList.any fun o=>match o.op with | .store _ _ _=>true | .call { callee:=.builtin .append,args:=_,argTypes:=_ }=>true|_=>false) with
 | true=>ops.toList.filterMap fun o=>match o.op with
  | .move (.tmp t)=>match look tm t with
   | some (.own b _)=>some b
   | _=>none
  | _=>none
 | false=>[]
def X4 (ops:Array Oper)(s:St):St:=match s.sym with
 | true=>match s.orc with
  | .lp pr _ kb _ _ _ _::r=>{ s with hp:=Qdq (Qd s.hp kb++s.hp) pr,orc:=r }
  | _=>s
 | false=>{ s with hp:=Qd s.hp (Qix ops s.tm)++s.hp }
def Qcp {b:Type}(n:Nat)(k:Nat->b):b:=match n with
 | 0=>k 0
 | m+1=>k (m+1)
def Qcr {b:Type}(n:Bool)(k:Bool->b):b:=match n with
 | true=>k true
 | false=>k false
def Qcq {b c:Type}(l:List c)(k:List c->b):b:=match l with
 | []=>k []
 | x::r=>k (x::r)
def Qii {b:Type}(l:List Prop)(k:List Prop->b):b:=match l with
 | []=>k []
 | x::r=>k (x::r)
theorem QgM {b:Type}(n:Nat)(k:Nat->b):Qcp n k=k n:=by cases n<;>rfl
theorem QgO {b:Type}(n:Bool)(k:Bool->b):Qcr n k=k n:=by cases n<;>rfl
theorem QgN {c b:Type}(n:List b)(k:List b->c):Qcq n k=k n:=by cases n<;>rfl
theorem QgL {b:Type}(n:List Prop)(k:List Prop->b):Qii n k=k n:=by cases n<;>rfl
def St.force {b:Type}(s:St)(k:St->b):b :=
 Qcp s.nt fun nt=>Qcr s.sym fun sym=>Qcq s.tm fun tm=>Qcq s.hp fun hp=>Qcp s.nx fun nx=>Qcq s.orc fun orc=>Qii s.ob fun ob=>Qcp s.vis fun vis=>Qcr s.sfx fun sfx=>Qcr s.rnd fun rnd =>
  k { nt,sym,tm,hp,nx,orc,ob,vis,sfx,rnd }
theorem St.force_eq {b:Type}(s:St)(k:St->b):s.force k=k s:=by simp only[St.force,QgM,QgO,QgN,QgL]
def We:Nat->Cx->Code->St->Option (Ex×St)
 | 0,_,_,_=>none
 | n+1,cx,c,s=>match c with
  | .skip=>some (.normal,s)
  | .label _=>some (.normal,s)
  | .region _ ops draw=>s.force fun s=>match draw with
   | false=>match UZ cx (QbM (We n cx) cx) (jr (We n cx)) ops s.nx (List.range ops.toList.length) { s with nx:=s.nx+ops.toList.length } with
    | some s'=>some (.normal,s')
    | none=>none
   | true=>match JA cx (QbM (We n cx) cx) (jr (We n cx)) ops (Region.before ops).toList s.nx (X4 ops s) (List.range ops.toList.length) [] s.ob (X4 ops s).orc with
    | some (recs,ob,orc)=>match Qct ops (Region.before ops).toList s.nx (X4 ops s) recs with
     | true=>some (.normal,{ s with tm:=YL recs++s.tm,hp:=WR recs++(X4 ops s).hp,nx:=QhT (s.nx+ops.toList.length) recs,orc,ob })
     | false=>none
    | none=>none
  | .seq a b=>match We n cx a s with
   | some (.normal,s1)=>We n cx b s1
   | r=>r
  | .cond x t e=>match evA cx s.tm x with
   | .d (.v (.bool b))=>match zR s.sym s.orc with
    | some (.br true,r)=>We n cx t { s with orc:=r,ob:=(b=true)::s.ob }
    | some (.br false,r)=>We n cx e { s with orc:=r,ob:=(b=false)::s.ob }
    | some (.no,r)=>match b with
     | true=>We n cx t { s with orc:=r }
     | false=>We n cx e { s with orc:=r }
    | _=>none
   | _=>none
  | .block id body=>match We n cx body s with
   | some (.exit i,s1)=>match Nat.beq i id with
    | true=>some (.normal,s1)
    | false=>some (.exit i,s1)
   | r=>r
  | .scope body=>We n cx body s
  | .loop body=>match zR s.sym s.orc with
   | some (.lp pr kt kb e tm hp nx,r)=>match Qbe s pr kt kb with
    | some j=>some (e,{ s with tm,hp,nx,orc:=r,ob:=QaA cx body j.nt j.vis j.rnd j.tm j.hp e tm hp::s.ob,sfx:=false })
    | none=>none
   | some (.no,r)=>match We n cx body { s with orc:=r,tm:=QbB s.tm 0 } with
    | some (.normal,s1)=>We n cx (.loop body) s1
    | q=>q
   | _=>none
  | .rangeFunc f ps as bd=>match s.rnd,GX (evA cx s.tm f),YG s.hp s.nx&&s.hp.all (fun p=>wH p.2) with
   | false,some (g,a,b),true=>match KM (We n cx) cx g (a++[.own s.nx 0]++b) { nt:=0,sym:=s.sym,tm:=[],hp:=(s.nx,.loop true (JB s.tm s.nt) ps.toList as bd s.nt)::s.hp,nx:=s.nx+1,orc:=s.orc,ob:=s.ob,vis:=s.nx+1,sfx:=true } with
    | some (_,h)=>match look h.hp s.nx,K6 s.nx h.hp with
     | some (.loop true _ _ _ _ _),true=>some (.normal,{ s with hp:=(s.nx,.dead)::h.hp.filter (fun p=>!(Nat.beq p.1 s.nx)),nx:=h.nx,orc:=h.orc,ob:=h.ob,sfx:=!s.sym&&(s.sfx&&h.sfx) })
     | some (.left e),true=>some (e,{ s with hp:=(s.nx,.dead)::h.hp.filter (fun p=>!(Nat.beq p.1 s.nx)),nx:=h.nx,orc:=h.orc,ob:=h.ob,sfx:=!s.sym&&(s.sfx&&h.sfx) })
     | _,_=>none
    | none=>none
   | _,_,_=>none
  | .exit id=>some (.exit id,s)
  | .ret=>some (.ret,s)
  | _=>none
theorem VR.restrict {w w' : World}{M O S:Nat->Prop}{H C : List (Nat×Blk)}{ρ ρ' : Nat->Value}(q:∀b k,look H b=some k->look C b=some k/\ρ' b=ρ b)(T:∀r,r<w'.heap.size->S r->O r){x:AV}{t:Value}(V:VR w M H ρ x t) :
  ∀y,VR w' O C ρ' x y->VR w' S H ρ x y:=by
 induction V with
 | d x t _ =>
  intro y h;cases h with
  | d _ _ h=>exact .d _ _ (h.ext (jLj _) (fun _ _ _=>rfl) T)
 | agg cs ys hl hh ih =>
  intro y h;cases h with
  | agg _ p l e =>
   refine .agg cs p l fun i c z hc s=>?_;have j:i<ys.length:=by rw[<-hl];exact(jGj hc).1
   exact ih i c ys[i] hc (by simp[j]) z (e i c z hc s)
 | tup cs ys hl hh ih =>
  intro y h;cases h with
  | tup _ p l e =>
   refine .tup cs p l fun i c z hc s=>?_;have j:i<ys.length:=by rw[<-hl];exact(jGj hc).1
   exact ih i c ys[i] hc (by simp[j]) z (e i c z hc s)
 | dptr x off blk o hd =>
  intro y h;cases h with
  | dptr _ _ blk' o' F=>exact .dptr _ _ _ _ (F.ext (jLj _) (fun _ _ _=>rfl) T)
 | ptr b ver sz i off k t hb hv ho hh =>
  intro y h;cases h with
  | ptr _ _ _ _ _ U _ g E m e =>
   obtain⟨u,v⟩:=q b k hb;rw[u] at g;cases g;exact .ptr b ver sz i off k y hb hv m fun A=>by obtain⟨r,K,L⟩:=e A;exact⟨r,by rw[<-v];exact K,L⟩
 | own b ver k t hb hv ho hh =>
  intro y h;cases h with
  | own _ _ U _ g E m e =>
   obtain⟨u,v⟩:=q b k hb;rw[u] at g;cases g;exact .own b ver k y hb hv m fun A=>by rw[<-v];exact e A
 | sub b ver sz lo n k t hb hv ho hh =>
  intro y h;cases h with
  | sub _ _ _ _ _ U _ g E m e =>
   obtain⟨u,v⟩:=q b k hb;rw[u] at g;cases g;exact .sub b ver sz lo n k y hb hv m fun A=>by obtain⟨r,c,K,L⟩:=e A;exact⟨r,c,by rw[<-v];exact K,L⟩
 | fn f a b xs ys hl hm hh hk ih ik =>
  intro y h;cases h with
  | fn _ _ _ N p l J e G =>
   refine .fn f a b N p l J (fun i c z hc s=>?_) (fun i c z hc s=>?_)
   ·have j:i<xs.length:=by rw[<-hl];exact(jGj hc).1
    exact ih i c xs[i] hc (by simp[j]) z (e i c z hc s)
   ·have j:i<ys.length:=by rw[<-hm];exact(jGj hc).1
    exact ik i c ys[i] hc (by simp[j]) z (G i c z hc s)
 | junk t=>intro y _;exact .junk y
theorem HSim.restrict {cx:Cx}{F:Nat->Prop}{H u : List (Nat×Blk)}{ρ ρ' : Nat->Value}{w w' : World}(h:HSim cx F H ρ w)(V : HSim cx F u ρ' w')(q:∀b k,look H b=some k->look u b=some k/\ρ' b=ρ b)
  (G:Ext w (Mut H ρ) w'):HSim cx F H ρ w'/\Steps1 H ρ w H ρ w':=by
 have E:∀r,Mut H ρ r->Mut u ρ' r:=by rintro r ⟨b,k,J,L,M⟩;obtain⟨K,o⟩:=q b k J;exact⟨b,k,K,L,by rw[o];exact M⟩
 have m:∀r,r<w'.heap.size->MM F H ρ r->MM F u ρ' r:=fun r _ L=>L.imp id (E r);refine⟨⟨fun b k J=>?_,h.inj,h.forb,fun r M=>Nat.lt_of_lt_of_le (h.bnd r M) G.size,fun g x Z=>?_⟩,⟨G,fun _ _ h=>h,Grows.refl _ _⟩⟩
 ·obtain⟨K,o⟩:=q b k J;have W:=h.blk b k J;have f:=V.blk b k K;cases k with
  | box x =>
   obtain⟨r,e,v,cs,n,z,A,C⟩:=f;obtain⟨_,_,v0,_,_,_,_,p4⟩:=W;exact⟨r,e,v,cs,by rw[<-o];exact n,z,A,VR.restrict q m p4 v C⟩
  | loop rdy tm ps as bd nt =>
   obtain⟨l,U,n,A,C,S,T,q7,q8,q9,O⟩:=f;obtain⟨_,_,_,_,_,_,_,_,_,_,N⟩:=W;exact⟨l,U,by rw[<-o];exact n,A,C,S,T,q7,q8,q9,fun t x G=>VR.restrict q m (N t x G) _ (O t x G)⟩
  | mp es =>
   obtain⟨r,es',c,n,z,A⟩:=f;exact⟨r,es',c,by rw[<-o];exact n,z,A.ext (jLj _) (fun _ _ _=>rfl) m⟩
  | it s p =>
   obtain⟨r,n,z⟩:=f;exact⟨r,by rw[<-o];exact n,z.ext rfl (fun _ _ _=>rfl) m⟩
  | left e =>
   obtain⟨l,U,n,A,C⟩:=f;exact⟨l,U,by rw[<-o];exact n,A,C⟩
  | fbox x =>
   obtain⟨r,n,z⟩:=f;exact⟨r,by rw[<-o];exact n,z.ext (jLj _) (fun _ _ _=>rfl) m⟩
  | dead=>trivial
  | row ver sz es =>
   obtain⟨q0,a0,n⟩|⟨r,c,e,cap,n,z,A,C,S,T⟩:=f
   ·exact .inl ⟨q0,a0,by rw[<-o];exact n⟩
   refine .inr ⟨r,c,e,cap,by rw[<-o];exact n,z,A,C,S,fun i d j a Y X=>?_⟩;obtain⟨y,y1,y2,y3⟩:=T i d j a Y X;exact⟨y,y1,y2,y3.ext (jLj _) (fun _ _ _=>rfl) m⟩
  | frozen ver sz es =>
   simp only[BlkR] at f ⊢;rw[<-o];exact f.ext (jLj _) (fun _ _ _=>rfl) m
  | virt ver sz es =>
   simp only[BlkR] at f ⊢;rw[<-o];exact f.ext (jLj _) (fun _ _ _=>rfl) m
 ·exact(V.glob g x Z).ext (jLj _) (fun _ _ _=>rfl) m
theorem HSim.restrictE {cx:Cx}{F:Nat->Prop}{H q : List (Nat×Blk)}{ρ ρ' : Nat->Value}{w w' : World}{E:Nat->Prop}(h:HSim cx F H ρ w)(O : HSim cx F q ρ' w')(A:∀b k,look H b=some k->look q b=some k/\ρ' b=ρ b)
  (N:Ext w (Mut H ρ) w') (S:∀r,E r->Mut q ρ' r/\w.heap.size<=r):HSim cx (fun r=>F r\/E r) H ρ w':=by
 have L:∀r,Mut H ρ r->Mut q ρ' r:=by rintro r ⟨b,k,M,hm,u⟩;obtain⟨z,o⟩:=A b k M;exact⟨b,k,z,hm,by rw[o];exact u⟩
 have m:∀r,r<w'.heap.size->MM (fun r=>F r\/E r) H ρ r->MM F q ρ' r:=by
  rintro r _ ((z|z)|z)
  ·exact .inl z
  ·exact .inr (S r z).1
  ·exact .inr (L r z)
 refine⟨fun b k M=>?_,h.inj,fun r u K=>?_,fun r u=>?_,fun g x hg=>?_⟩
 ·obtain⟨z,o⟩:=A b k M;have Y:=h.blk b k M;have f:=O.blk b k z;cases k with
  | box x =>
   obtain⟨r,e,v,cs,n,C,G,J⟩:=f;obtain⟨_,_,v0,_,_,_,_,p4⟩:=Y;exact⟨r,e,v,cs,by rw[<-o];exact n,C,G,VR.restrict A m p4 v J⟩
  | loop rdy tm ps as bd nt =>
   obtain⟨l,X,n,G,J,V,W,q7,q8,q9,U⟩:=f;obtain⟨_,_,_,_,_,_,_,_,_,_,T⟩:=Y;exact⟨l,X,by rw[<-o];exact n,G,J,V,W,q7,q8,q9,fun t x N=>VR.restrict A m (T t x N) _ (U t x N)⟩
  | mp es =>
   obtain⟨r,es',c,n,C,G⟩:=f;exact⟨r,es',c,by rw[<-o];exact n,C,G.ext (jLj _) (fun _ _ _=>rfl) m⟩
  | it s p =>
   obtain⟨r,n,C⟩:=f;exact⟨r,by rw[<-o];exact n,C.ext rfl (fun _ _ _=>rfl) m⟩
  | left e =>
   obtain⟨l,X,n,G,J⟩:=f;exact⟨l,X,by rw[<-o];exact n,G,J⟩
  | fbox x =>
   obtain⟨r,n,C⟩:=f;exact⟨r,by rw[<-o];exact n,C.ext (jLj _) (fun _ _ _=>rfl) m⟩
  | dead=>trivial
  | row ver sz es =>
   obtain⟨q0,a0,n⟩|⟨r,c,e,cap,n,C,G,J,V,W⟩:=f
   ·exact .inl ⟨q0,a0,by rw[<-o];exact n⟩
   refine .inr ⟨r,c,e,cap,by rw[<-o];exact n,C,G,J,V,fun i d j a hd Z=>?_⟩;obtain⟨y,y1,y2,y3⟩:=W i d j a hd Z;exact⟨y,y1,y2,y3.ext (jLj _) (fun _ _ _=>rfl) m⟩
  | frozen ver sz es =>
   simp only[BlkR] at f ⊢;rw[<-o];exact f.ext (jLj _) (fun _ _ _=>rfl) m
  | virt ver sz es =>
   simp only[BlkR] at f ⊢;rw[<-o];exact f.ext (jLj _) (fun _ _ _=>rfl) m
 ·obtain K|K:=K
  ·exact h.forb r u K
  ·have:=h.mut_lt u;have:=(S r K).2;omega
 ·obtain u|u:=u
  ·exact Nat.lt_of_lt_of_le (h.bnd r u) N.size
  ·exact O.mut_lt (S r u).1
 ·exact(O.glob g x hg).ext (jLj _) (fun _ _ _=>rfl) m
def RowV (w:World)(M:Nat->Prop)(v:Value)(sz:Nat)(es:jVj):Prop :=
 (es=[]/\∃a,v=.slice a 0 0)\/∃r c e cap,v=.slice (some ⟨r,0,none⟩) es.length cap/\(es.length<=cap/\0<cap)/\cap*sz<=c.size/\w.heap[r]?=some (.cells c e (0,0)) /\
   (∀(i:Nat) (d:D),es[i]?=some d->d.cells.length=sz) /\
   ∀(i:Nat) (d:D) (j:Nat) (a:D),es[i]?=some d->d.cells[j]?=some a->∃y,c[i*sz+j]?=some y/\one y=true/\DR w M a y
theorem RowV.sub {w:World}{M M' : Nat->Prop}{v:Value}{sz:Nat}{es:jVj}(h:RowV w M v sz es)(g:∀r,r<w.heap.size->M' r->M r):RowV w M' v sz es:=by
 obtain h|⟨r,c,e,cap,k,l,m,n,o,p⟩:=h
 ·exact .inl h
 ·refine .inr ⟨r,c,e,cap,k,l,m,n,o,fun i d j a f b=>?_⟩;obtain⟨y,q,s,t⟩:=p i d j a f b;exact⟨y,q,s,t.ext (jLj _) (fun _ _ _=>rfl) g⟩
def FreshV (w:World)(M:Nat->Prop)(v:Value):Blk->Prop
 | .row _ sz es=>RowV w M v sz es
 | .mp es=>∃r es' c,v=.map (some r)/\w.heap[r]?=some (.map es' c)/\MRB w M es es'.toList c
 | _=>False
theorem FreshV.sub {w:World}{M M' : Nat->Prop}{v:Value}{k:Blk}(h:FreshV w M v k)(b:∀r,r<w.heap.size->M' r->M r):FreshV w M' v k:=by
 cases k with
 | row _ sz es=>exact RowV.sub h b
 | mp es =>
  obtain⟨r,es',c,d,e,f⟩:=h;exact⟨r,es',c,d,e,f.ext (jLj _) (fun _ _ _=>rfl) b⟩
 | _=>exact h.elim
theorem FreshV.blk {w:World}{M:Nat->Prop}{hp:List (Nat×Blk)}{ρ:Nat->Value}{b:Nat}{k:Blk}(h:FreshV w M (ρ b) k):BlkR w M hp ρ b k:=by
 cases k with
 | row _ sz es =>
  obtain⟨f,a,d⟩|⟨r,c,e,cap,d,g⟩:=h
  ·exact .inl ⟨f,a,d⟩
  ·exact .inr ⟨r,c,e,cap,d,g⟩
 | mp es=>exact h
 | _=>exact h.elim
theorem FreshV.stamp {w:World}{M:Nat->Prop}{v:Value}{k:Blk}(h:FreshV w M v k):FreshV w M v (stamp k):=by
 cases k with
 | row _ sz es=>exact h
 | mp es=>exact h
 | _=>exact h.elim
theorem jT {w:World}{M:Nat->Prop}{hp:List (Nat×Blk)}{ρ:Nat->Value}{b:Nat}{k:Blk}(c:jU k=true)(h:BlkR w M hp ρ b k):FreshV w M (ρ b) k:=by
 cases k with
 | row _ sz es=>exact h
 | mp es=>exact h
 | _=>cases c
theorem GV {k:Blk}(b:jU k=true):k.live=true:=by cases k<;>first|rfl|cases b
theorem Qdg {w:World}{o C:Nat->Prop}{hp1 j:List (Nat×Blk)}{ρ1 n:Nat->Value}{b ver nm:Nat}{k1 S:Blk}(E:look hp1 b=some k1)(H:k1.ver=ver)(F:look j nm=some S)(m:n nm=ρ1 b)
  (G:∀r,r<w.heap.size->C r->o r):∀(cs xs:List AV) (ys:List Value),Qdh b ver nm cs=some xs->cs.length=ys.length->(∀(i:Nat) (c:AV) (y:Value),cs[i]?=some c->ys[i]?=some y->VR w o hp1 ρ1 c y) ->
  xs.length=ys.length/\∀(i:Nat) (c:AV) (y:Value),xs[i]?=some c->ys[i]?=some y->VR w C j n c y
 | [],xs,ys,hx,hl,_=>by simp only[Qdh,jIj] at hx;subst hx;exact⟨hl,fun i c y hc _=>by simp at hc⟩
 | x::l,xs,ys,hx,hl,hh=>by
  cases ys with
  | nil=>simp at hl
  | cons y ys =>
  have J:=Qdg E H F m G l;have k:=hh 0 x y rfl rfl;have e:∀(i:Nat) (c:AV) (z:Value),l[i]?=some c->ys[i]?=some z->VR w o hp1 ρ1 c z:=fun i c z hc O=>hh (i+1) c z (by simpa using hc) (by simpa using O);unfold Qdh at hx;split at hx
  ·rename_i z r u;simp only[jIj] at hx;subst hx;obtain⟨p,q⟩:=J r ys u (by simpa using hl) e;refine⟨by simpa using p,fun i c A hc g=>?_⟩;cases i with
   | zero =>
    simp only[jzj,jIj] at hc g;subst hc;subst g;cases k with
    | d _ _ M=>exact .d _ _ (M.ext (jLj _) (fun _ _ _=>rfl) G)
   | succ i=>exact q i c A (by simpa using hc) (by simpa using g)
  ·rename_i T v r u;split at hx;case h_2=>cases hx
   rename_i f;simp only[jAj] at f;have K:=jqj f.1;have L:=jqj f.2;subst K;subst L;simp only[jIj] at hx;subst hx;obtain⟨p,q⟩:=J r ys u (by simpa using hl) e;refine⟨by simpa using p,fun i c A hc g=>?_⟩;cases i with
   | zero =>
    simp only[jzj,jIj] at hc g;subst hc;subst g;cases k with
    | own _ _ U _ h N t s =>
     rw[E] at h;cases h;exact .own _ 0 _ _ F (Nat.zero_le _) t fun _=>by rw[m];exact s H.symm
   | succ i=>exact q i c A (by simpa using hc) (by simpa using g)
  ·cases hx
theorem Qfy {w:World}{n o:Nat->Prop}{hp1 g:List (Nat×Blk)}{ρ1 j:Nat->Value}{b ver nm:Nat}{k1 H:Blk}(p:look hp1 b=some k1)(s:k1.ver=ver)(q:look g nm=some H)(i:j nm=ρ1 b)
  (C:∀r,r<w.heap.size->o r->n r) {x v:AV} {y:Value} (c:renF b ver nm x=some v) (h:VR w n hp1 ρ1 x y):VR w o g j v y:=by
 unfold renF at c;split at c
 ·rename_i J L;split at c;case h_2=>cases c
  rename_i d;simp only[jAj] at d;have t:=jqj d.1;have u:=jqj d.2;subst t;subst u;simp only[jIj] at c;subst c;cases h with
  | own _ _ K _ e G m k =>
   rw[p] at e;cases e;exact .own _ 0 _ _ q (Nat.zero_le _) m fun _=>by rw[i];exact k s.symm
 ·rename_i cs;split at c;case h_2=>cases c
  rename_i l F;simp only[jIj] at c;subst c;cases h with
  | agg _ ys f E =>
   obtain⟨z,A⟩:=Qdg p s q i C cs l ys F f E;exact .agg l ys z A
 ·cases c
theorem HSim.name {cx:Cx}{F E:Nat->Prop}{hp:List (Nat×Blk)}{ρ:Nat->Value}{w:World}(h:HSim cx (fun r=>F r\/E r) hp ρ w){nm:Nat}{k0:Blk}{v:Value}(S:look hp nm=none)
  (C:∀r,QX v=some r->E r) (G:∀r,E r->¬F r) (u:FreshV w (MM (fun r=>F r\/E r) hp ρ) v k0) :
  HSim cx F ((nm,k0)::hp) (VI ρ nm v) w:=by
 have m:∀q,Mut ((nm,k0)::hp) (VI ρ nm v) q->Mut hp ρ q\/E q:=by
  rintro q ⟨n,z,j,O,y⟩;by_cases c:n=nm
  ·subst c;rw[Qx] at y;exact .inr (C q y)
  ·rw[Qc _ _ (Ne.symm c)] at j;rw[QL _ _ c] at y;exact .inl ⟨n,z,j,O,y⟩
 have o:∀r,r<w.heap.size->MM F ((nm,k0)::hp) (VI ρ nm v) r->MM (fun r=>F r\/E r) hp ρ r:=by
  rintro r _ (i|i)
  ·exact .inl (.inl i)
  ·obtain l|l:=m r i
   ·exact .inr l
   ·exact .inl (.inr l)
 have H:Grows hp ((nm,k0)::hp) ρ (VI ρ nm v):=⟨fun b k j=>by
  have t:b≠nm:=fun e=>by rw[e,S] at j;cases j
  exact⟨k,by rw[Qc _ _ (Ne.symm t)];exact j,jLj _,fun _=>QL _ _ t⟩⟩
 refine⟨fun b k j=>?_,fun b A k z r i l L M p s=>?_,fun r J K=>?_,fun r J=>h.bnd r (.inl J),fun g x N=>(h.glob g x N).ext (jLj _) (fun _ _ _=>rfl) o⟩
 ·by_cases c:b=nm
  ·subst c;rw[Qf] at j;cases j;have:=u.sub o;exact FreshV.blk (by rw[Qx];exact this)
  ·rw[Qc _ _ (Ne.symm c)] at j;exact(h.blk b k j).ext (jLj _) (fun _ _ _=>rfl) o H (QL _ _ c) (fun _ _ _=>rfl)
 ·by_cases d:b=nm<;>by_cases f:A=nm
  ·rw[d,f]
  ·subst d;rw[Qx] at p;rw[Qc _ _ (Ne.symm f)] at l;rw[QL _ _ f] at s;exact absurd (.inr (C r p)) (h.forb r ⟨A,z,l,M,s⟩)
  ·subst f;rw[Qx] at s;rw[Qc _ _ (Ne.symm d)] at i;rw[QL _ _ d] at p;exact absurd (.inr (C r s)) (h.forb r ⟨b,k,i,L,p⟩)
  ·rw[Qc _ _ (Ne.symm d)] at i;rw[QL _ _ d] at p;rw[Qc _ _ (Ne.symm f)] at l;rw[QL _ _ f] at s;exact h.inj b A k z r i l L M p s
 ·obtain i|i:=m r J
  ·exact h.forb r i (.inl K)
  ·exact G r i K
theorem VK:∀(cs:List OC) (i j:Nat),(G8 i cs)[j]?=match cs[j]? with
  | none=>none
  | some (.dat x)=>some (.d x)
  | some (.row _ _)=>some (.own (i+j) 0)
 | [],i,j=>by simp[G8]
 | .dat x::l,i,0=>by simp[G8]
 | .row s e::l,i,0=>by simp[G8]
 | .dat x::l,i,j+1=>by simp only[G8,List.getElem?_cons_succ];rw[VK l (i+1) j,show i+1+j=i+(j+1) by omega]
 | .row s e::l,i,j+1=>by simp only[G8,List.getElem?_cons_succ];rw[VK l (i+1) j,show i+1+j=i+(j+1) by omega]
theorem K8:∀(cs:List OC) (i:Nat),(G8 i cs).length=cs.length
 | [],_=>rfl
 | .dat x::l,i=>by simp[G8,K8 l]
 | .row s e::l,i=>by simp[G8,K8 l]
theorem GQ:∀(cs:List OC) (i n:Nat) (k:Blk),look (J9 i cs) n=some k↔∃j sz es,n=i+j/\cs[j]?=some (.row sz es)/\k=.row 0 sz es
 | [],i,n,k=>by simp[J9,look]
 | .dat x::l,i,n,k=>by
  simp only[J9];rw[GQ l (i+1) n k];constructor
  ·rintro⟨j,sz,es,c,a,b⟩;exact⟨j+1,sz,es,by omega,by simpa using a,b⟩
  ·rintro⟨j,sz,es,c,a,b⟩;cases j with
   | zero=>simp at a
   | succ j=>exact⟨j,sz,es,by omega,by simpa using a,b⟩
 | .row s e::l,i,n,k=>by
  simp only[J9];by_cases d:i=n
  ·subst d;rw[Qf];constructor
   ·intro h;cases h;exact⟨0,s,e,by omega,by simp,rfl⟩
   ·rintro⟨j,sz,es,c,a,b⟩;have:j=0:=by omega
    subst this;simp only[jzj,jIj,OC.row.injEq] at a;rw[b,a.1,a.2]
  ·rw[Qc _ _ d,GQ l (i+1) n k];constructor
   ·rintro⟨j,sz,es,c,a,b⟩;exact⟨j+1,sz,es,by omega,by simpa using a,b⟩
   ·rintro⟨j,sz,es,c,a,b⟩;cases j with
    | zero=>omega
    | succ j=>exact⟨j,sz,es,by omega,by simpa using a,b⟩
theorem ZX (cs:List OC):look (Zx cs) 0=some (.box (AV.norm (.agg (G8 1 cs)))):=Qf _ _ _
theorem Kz {cs:List OC}{j sz:Nat}{es:jVj}(h:cs[j]?=some (.row sz es)):look (Zx cs) (j+1)=some (.row 0 sz es):=by rw[Zx,Qc _ _ (by omega)];exact(GQ cs 1 (j+1) _).2 ⟨j,sz,es,by omega,h,rfl⟩
theorem GR {cs:List OC}{n:Nat}{k:Blk}(h:look (Zx cs) n=some k):(n=0/\k=.box (AV.norm (.agg (G8 1 cs))))\/∃j sz es,n=j+1/\cs[j]?=some (.row sz es)/\k=.row 0 sz es:=by
 by_cases c:n=0
 ·subst c;rw[ZX] at h;cases h;exact .inl ⟨rfl,rfl⟩
 ·right;rw[Zx,Qc _ _ (by omega)] at h;obtain⟨j,sz,es,d,a,b⟩:=(GQ cs 1 n k).1 h;exact⟨j,sz,es,by omega,a,b⟩
theorem zW {l:List AV}(h:Vw l=true):(AV.norm (.agg l)).cells.isSome=true:=by
 unfold AV.norm;split
 ·rename_i y c;simp only[AV.toD] at c;split at c;case h_2=>cases c
  rename_i ds g;simp only[jIj] at c;subst c;have k:∀(l:List AV) (ds:jVj),Vw l=true->Ju l=some ds->Vw (ds.map .d)=true:=by
   intro l;induction l with
   | nil=>intro ds _ h;simp only[Ju,jIj] at h;subst h;rfl
   | cons x l ih =>
    intro ds i h;simp only[Ju] at h;split at h;case h_2=>cases h
    rename_i y ys c j;simp only[jIj] at h;subst h;simp only[Vw,jAj] at i;simp only[jCj,Vw,jAj];refine⟨?_,ih ys i.2 j⟩;have e:=i.1;cases x with
    | d z=>simp only[AV.toD,jIj] at c;subst c;exact e
    | fn f a b =>
     simp only[AV.toD] at c;split at c
     ·simp only[jIj] at c;subst c;rfl
     ·cases c
    | agg _=>simp[AV.isOne] at e
    | tup _=>simp[AV.isOne] at e
    | junk=>simp[AV.isOne] at e
    | _=>simp[AV.toD] at c
  simp only[AV.cells,k l ds h g];rfl
 ·simp only[AV.cells,h];rfl
structure Names (ns:List (Option (Nat×Nat))) (cs:List OC):Prop where
 row:∀(i sz:Nat) (es:jVj),cs[i]?=some (.row sz es)->∃p,ns[i]?=some (some p)
 dat:∀(i:Nat) (x:D),cs[i]?=some (.dat x)->ns[i]?=some none
 len:ns.length=cs.length
theorem Names.tail {p:Option (Nat×Nat)}{ns:List (Option (Nat×Nat))}{c:OC}{cs:List OC}(h:Names (p::ns) (c::cs)):Names ns cs :=
 ⟨fun i sz es hc=>by simpa using h.row (i+1) sz es (by simpa using hc),fun i x hc=>by simpa using h.dat (i+1) x (by simpa using hc),by simpa using h.len⟩
theorem Names.rowOf {ns:List (Option (Nat×Nat))}{cs:List OC}(h:Names ns cs){i:Nat}{p:Nat×Nat}(b:ns[i]?=some (some p)):∃sz es,cs[i]?=some (.row sz es):=by
 have a:i<cs.length:=by rw[<-h.len];exact(jGj b).1
 cases hc:cs[i] with
 | dat x=>have:=h.dat i x (by rw[jej a,hc]);rw[b] at this;cases this
 | row sz es=>exact⟨sz,es,by rw[jej a,hc]⟩
theorem X7:∀{ns:List (Option (Nat×Nat))} {cs:List OC},Names ns cs->∀(i:Nat) (x:D),cs[i]?=some (.dat x)->(ZH ns cs)[i]?=some (.d x)
 | _,[],_,i,x,h=>by simp at h
 | [],c::cs,hn,i,x,h=>by have:=hn.len;simp at this
 | p::ns,c::cs,hn,0,x,h=>by simp only[jzj,jIj] at h;subst h;have:=hn.dat 0 x rfl;simp only[jzj,jIj] at this;subst this;simp[ZH]
 | p::ns,c::cs,hn,i+1,x,h=>by
  have g:=X7 hn.tail i x (by simpa using h);cases c with
  | dat y =>
   have:=hn.dat 0 y rfl;simp only[jzj,jIj] at this;subst this;simpa[ZH] using g
  | row s e =>
   obtain⟨⟨a,b⟩,f⟩:=hn.row 0 s e rfl;simp only[jzj,jIj] at f;subst f;simpa[ZH] using g
theorem X5:∀{ns:List (Option (Nat×Nat))} {cs:List OC},Names ns cs->∀(i n v:Nat),ns[i]?=some (some (n,v))->(ZH ns cs)[i]?=some (.own n v)
 | _,[],hn,i,n,v,h=>by have d:=hn.len;simp only[List.length_nil,List.length_eq_zero_iff] at d;subst d;simp at h
 | [],c::cs,hn,i,n,v,h=>by simp at h
 | p::ns,c::cs,hn,0,n,v,h=>by simp only[jzj,jIj] at h;subst h;obtain⟨sz,es,hc⟩:=hn.rowOf (i:=0) rfl;simp only[jzj,jIj] at hc;subst hc;simp[ZH]
 | p::ns,c::cs,hn,i+1,n,v,h=>by
  have g:=X5 hn.tail i n v (by simpa using h);cases c with
  | dat y =>
   have:=hn.dat 0 y rfl;simp only[jzj,jIj] at this;subst this;simpa[ZH] using g
  | row s e =>
   obtain⟨⟨a,b⟩,f⟩:=hn.row 0 s e rfl;simp only[jzj,jIj] at f;subst f;simpa[ZH] using g
theorem X6:∀{ns:List (Option (Nat×Nat))} {cs:List OC},Names ns cs->(ZH ns cs).length=cs.length
 | [],[],hn=>rfl
 | p::ns,[],hn=>by have:=hn.len;simp at this
 | [],c::cs,hn=>by have:=hn.len;simp at this
 | p::ns,c::cs,hn=>by
  have f:=X6 hn.tail;cases c with
  | dat y =>
   have:=hn.dat 0 y rfl;simp only[jzj,jIj] at this;subst this;simp[ZH,f]
  | row s e =>
   obtain⟨⟨a,b⟩,d⟩:=hn.row 0 s e rfl;simp only[jzj,jIj] at d;subst d;simp[ZH,f]
theorem Jz {n:Nat}:∀{ns:List (Option (Nat×Nat))},KW n ns=true->∀(i v:Nat),ns[i]?≠some (some (n,v))
 | [],_,i,v=>by simp
 | none::l,h,0,v=>by simp
 | none::l,h,i+1,v=>by simpa using Jz (ns:=l) h i v
 | some (m,u)::l,h,0,v=>by simp only[KW,jAj] at h;intro a;simp only[jzj,jIj,jPj] at a;rw[a.1] at h;simp at h
 | some (m,u)::l,h,i+1,v=>by simp only[KW,jAj] at h;simpa using Jz (ns:=l) h.2 i v
theorem Gf (ks:List Bool):WD ks []=[]:=by cases ks with
 | nil=>rfl
 | cons k _=>cases k<;>rfl
theorem KK (k:Bool)(ks:List Bool)(p:Option (Nat×Nat))(ns:List (Option (Nat×Nat))) :
  (WD (k::ks) (p::ns)=p::WD ks ns)\/(k=true/\∃a b,p=some (a,b+1)/\WD (k::ks) (p::ns)=some (a,b)::WD ks ns):=by
 cases k with
 | false=>exact .inl (by cases p<;>rfl)
 | true =>
  cases p with
  | none=>exact .inl rfl
  | some p =>
   obtain⟨a,b⟩:=p;cases b with
   | zero=>exact .inl rfl
   | succ b=>exact .inr ⟨rfl,a,b,rfl,rfl⟩
theorem Gg:∀(ks:List Bool) (ns:List (Option (Nat×Nat))) (i n v:Nat),(WD ks ns)[i]?=some (some (n,v))->ns[i]?=some (some (n,v))\/(ks[i]?=some true/\ns[i]?=some (some (n,v+1)))
 | [],ns,i,n,v,h=>by cases ns<;>exact .inl h
 | _::_,[],i,n,v,h=>by rw[Gf] at h;simp at h
 | k::ks,p::ns,i,n,v,h=>by
  obtain c|⟨rfl,a,b,rfl,c⟩:=KK k ks p ns
  ·rw[c] at h;cases i with
   | zero=>exact .inl h
   | succ i=>simpa using Gg ks ns i n v (by simpa using h)
  ·rw[c] at h;cases i with
   | zero =>
    simp only[jzj,jIj,jPj] at h;obtain⟨rfl,rfl⟩:=h;exact .inr ⟨rfl,rfl⟩
   | succ i=>simpa using Gg ks ns i n v (by simpa using h)
theorem uD:∀(ks:List Bool) (ns:List (Option (Nat×Nat))),(WD ks ns).length=ns.length
 | [],ns=>by cases ns<;>rfl
 | _::_,[]=>by rw[Gf]
 | k::ks,p::ns=>by obtain c|⟨_,a,b,rfl,c⟩:=KK k ks p ns<;>rw[c]<;>simp[uD ks ns]
theorem kZ:∀(ks:List Bool) (ns:List (Option (Nat×Nat))) (i:Nat),ns[i]?=some none->(WD ks ns)[i]?=some none
 | [],ns,i,h=>by cases ns<;>exact h
 | _::_,[],i,h=>by simp at h
 | k::ks,p::ns,i,h=>by
  obtain c|⟨_,a,b,rfl,c⟩:=KK k ks p ns<;>rw[c]<;>cases i with
  | zero=>first|exact h|simp at h
  | succ i=>simpa using kZ ks ns i (by simpa using h)
theorem GU:∀(ks:List Bool) (ns:List (Option (Nat×Nat))) (i n v:Nat),ns[i]?=some (some (n,v))->∃u,(WD ks ns)[i]?=some (some (n,u))
 | [],ns,i,n,v,h=>⟨v,by cases ns<;>exact h⟩
 | _::_,[],i,n,v,h=>by simp at h
 | k::ks,p::ns,i,n,v,h=>by
  obtain c|⟨_,a,b,rfl,c⟩:=KK k ks p ns<;>rw[c]<;>cases i with
  | zero =>
   simp only[jzj,jIj,jPj] at h ⊢;first|exact⟨v,h⟩|exact⟨b,h.1,rfl⟩|skip
  | succ i=>simpa using GU ks ns i n v (by simpa using h)
theorem Jy (n:Nat):∀(ks:List Bool) (ns:List (Option (Nat×Nat))),KW n (WD ks ns)=KW n ns
 | [],ns=>by cases ns<;>rfl
 | _::_,[]=>by rw[Gf]
 | k::ks,p::ns=>by
  obtain c|⟨_,a,b,rfl,c⟩:=KK k ks p ns<;>rw[c]
  ·cases p<;>simp only[KW,Jy n ks ns]
  ·simp only[KW,Jy n ks ns]
theorem JL (bn:Nat)(fz:List Nat):∀(ks:List Bool) (ns:List (Option (Nat×Nat))),E3 bn fz (WD ks ns)=E3 bn fz ns
 | [],ns=>by cases ns<;>rfl
 | _::_,[]=>by rw[Gf]
 | k::ks,p::ns=>by
  obtain c|⟨_,a,b,rfl,c⟩:=KK k ks p ns<;>rw[c]
  ·cases p<;>simp only[E3,JL bn fz ks ns,Jy]
  ·simp only[E3,JL bn fz ks ns,Jy]
theorem Ec {H:List (Nat×Blk)}:∀(j:Nat) (ks:List Bool) (ns:List (Option (Nat×Nat))),G9 H j ks ns=true->∀t:Nat,ks[t]?=some true->ns[t]?=some none\/(ns[t]?=some (some (j+t,1))/\∃k,look H (j+t)=some k)
 | j,true::ks,some (n,v)::ns,h,t,ht=>by
  simp only[G9,jAj] at h;obtain⟨⟨⟨a,b⟩,c⟩,d⟩:=h;have a:=jqj a;have b:=jqj b;subst a;subst b;cases t with
  | zero=>exact .inr ⟨rfl,Option.isSome_iff_exists.1 c⟩
  | succ t =>
   have:=Ec (n+1) ks ns d t (by simpa using ht);rw[show n+1+t=n+(t+1) by omega] at this;simpa using this
 | j,true::ks,none::ns,h,t,ht=>by
  cases t with
  | zero=>exact .inl rfl
  | succ t =>
   have:=Ec (j+1) ks ns (by simpa only[G9] using h) t (by simpa using ht);rw[show j+1+t=j+(t+1) by omega] at this;simpa using this
 | j,true::ks,[],h,t,ht=>by simp[G9] at h
 | j,false::ks,p::ns,h,t,ht=>by
  cases t with
  | zero=>simp at ht
  | succ t =>
   have:=Ec (j+1) ks ns (by simpa only[G9] using h) t (by simpa using ht);rw[show j+1+t=j+(t+1) by omega] at this;simpa using this
 | j,false::ks,[],h,t,ht=>by simp[G9] at h
 | j,[],ns,h,t,ht=>by simp at ht
theorem Xn {bn:Nat}{fz:List Nat}:∀{ns:List (Option (Nat×Nat))},E3 bn fz ns=true->¬bn∈fz
 | [],h=>by simpa[E3] using h
 | none::l,h=>Xn (ns:=l) h
 | some _::l,h=>by simp only[E3,jAj] at h;exact Xn (ns:=l) h.2
theorem V7 {bn:Nat}{fz:List Nat}:∀{ns:List (Option (Nat×Nat))},E3 bn fz ns=true->∀(i n v:Nat),ns[i]?=some (some (n,v)) ->
  n≠bn/\¬n∈fz/\∀(j u:Nat),ns[j]?=some (some (n,u))->j=i
 | [],_,i,n,v,hi=>by simp at hi
 | none::l,h,0,n,v,hi=>by simp at hi
 | none::l,h,i+1,n,v,hi=>by
  obtain⟨b,d,c⟩:=V7 (ns:=l) h i n v (by simpa using hi);refine⟨b,d,fun j u a=>?_⟩;cases j with
  | zero=>simp at a
  | succ j=>rw[c j u (by simpa using a)]
 | some (m,u)::l,h,0,n,v,hi=>by
  simp only[jzj,jIj,jPj] at hi;obtain⟨rfl,rfl⟩:=hi;simp only[E3,jAj] at h;obtain⟨⟨⟨b,d⟩,c⟩,f⟩:=h;refine⟨fun e=>by subst e;simp at d,fun g=>by simp at c;exact c g,fun j u a=>?_⟩;cases j with
  | zero=>rfl
  | succ j=>exact absurd (by simpa using a) (Jz b j u)
 | some (m,u)::l,h,i+1,n,v,hi=>by
  simp only[E3,jAj] at h;obtain⟨⟨⟨b,d⟩,c⟩,f⟩:=h;obtain⟨k1,k,o⟩:=V7 (ns:=l) f i n v (by simpa using hi);refine⟨k1,k,fun j u a=>?_⟩;cases j with
  | zero =>
   simp only[jzj,jIj,jPj] at a;rw[<-a.1] at hi;exact absurd (by simpa using hi) (Jz b i v)
  | succ j=>rw[o j u (by simpa using a)]
def yx (n:Nat):List (Option (Nat×Nat))->Nat->Option Nat
 | [],_=>none
 | none::l,k=>yx n l (k+1)
 | some p::l,k=>if p.1=n then some k else yx n l (k+1)
theorem Xt {n:Nat}:∀{ns:List (Option (Nat×Nat))} {k j:Nat},yx n ns k=some j->∃(i v:Nat),j=k+i/\ns[i]?=some (some (n,v))
 | [],k,j,h=>by simp[yx] at h
 | none::l,k,j,h=>by obtain⟨i,v,d,c⟩:=Xt (ns:=l) (k:=k+1) h;exact⟨i+1,v,by omega,by simpa using c⟩
 | some p::l,k,j,h=>by
  simp only[yx] at h;split at h
  ·rename_i hp;simp only[jIj] at h;obtain⟨a,b⟩:=p;simp only at hp;subst hp;exact⟨0,b,by omega,rfl⟩
  ·obtain⟨i,v,d,c⟩:=Xt (ns:=l) (k:=k+1) h;exact⟨i+1,v,by omega,by simpa using c⟩
theorem jS {n:Nat}:∀{ns:List (Option (Nat×Nat))} {k:Nat},yx n ns k=none->∀(i v:Nat),ns[i]?≠some (some (n,v))
 | [],k,h,i,v=>by simp
 | none::l,k,h,0,v=>by simp
 | none::l,k,h,i+1,v=>by simpa using jS (ns:=l) (k:=k+1) h i v
 | some p::l,k,h,i,v=>by
  simp only[yx] at h;split at h
  ·cases h
  ·rename_i hp;cases i with
   | zero =>
    intro a;simp only[jzj,jIj] at a;exact hp (by rw[a])
   | succ i=>simpa using jS (ns:=l) (k:=k+1) h i v
theorem Ue {n:Nat}{k:Blk}:∀{ns:List (Option (Nat×Nat))} {cs:List OC},look (Vn ns cs) n=some k->∃(i v sz:Nat) (es:jVj),ns[i]?=some (some (n,v))/\cs[i]?=some (.row sz es)/\k=.row v sz es
 | [],cs,h=>by simp[Vn,look] at h
 | p::ns,[],h=>by cases p<;>simp[Vn,look] at h
 | none::ns,c::cs,h=>by obtain⟨i,v,sz,es,a,b,d⟩:=Ue (ns:=ns) (cs:=cs) (by cases c<;>simpa[Vn] using h);exact⟨i+1,v,sz,es,by simpa using a,by simpa using b,d⟩
 | some (m,u)::ns,.dat x::cs,h=>by obtain⟨i,v,sz,es,a,b,d⟩:=Ue (ns:=ns) (cs:=cs) (by simpa[Vn] using h);exact⟨i+1,v,sz,es,by simpa using a,by simpa using b,d⟩
 | some (m,u)::ns,.row s e::cs,h=>by
  simp only[Vn] at h;by_cases f:m=n
  ·subst f;rw[Qf] at h;cases h;exact⟨0,u,s,e,rfl,rfl,rfl⟩
  ·rw[Qc _ _ f] at h;obtain⟨i,v,sz,es,a,b,d⟩:=Ue (ns:=ns) (cs:=cs) h;exact⟨i+1,v,sz,es,by simpa using a,by simpa using b,d⟩
theorem Jw {n:Nat}:∀{ns:List (Option (Nat×Nat))} {cs:List OC},look (Vn ns cs) n=none->∀(i v sz:Nat) (es:jVj),ns[i]?=some (some (n,v))->cs[i]?≠some (.row sz es)
 | [],cs,h,i,v,sz,es,hi=>by simp at hi
 | p::ns,[],h,i,v,sz,es,hi=>by simp
 | none::ns,c::cs,h,0,v,sz,es,hi=>by simp at hi
 | none::ns,c::cs,h,i+1,v,sz,es,hi=>by simpa using Jw (ns:=ns) (cs:=cs) (by cases c<;>simpa[Vn] using h) i v sz es (by simpa using hi)
 | some (m,u)::ns,.dat x::cs,h,0,v,sz,es,hi=>by simp
 | some (m,u)::ns,.dat x::cs,h,i+1,v,sz,es,hi=>by simpa using Jw (ns:=ns) (cs:=cs) (by simpa[Vn] using h) i v sz es (by simpa using hi)
 | some (m,u)::ns,.row s e::cs,h,i,v,sz,es,hi=>by
  simp only[Vn] at h;by_cases a:m=n
  ·subst a;rw[Qf] at h;cases h
  ·rw[Qc _ _ a] at h;cases i with
   | zero =>
    simp only[jzj,jIj,jPj] at hi;exact absurd hi.1 a
   | succ i=>simpa using Jw (ns:=ns) (cs:=cs) h i v sz es (by simpa using hi)
def Jp (ns:List (Option (Nat×Nat)))(bn:Nat)(ρ ρ' : Nat->Value)(n:Nat):Value:=match yx n ns 1 with
 | some j=>ρ' j
 | none=>if n=bn then ρ' 0 else ρ n
def Uo (ns:List (Option (Nat×Nat)))(bn:Nat)(cs:List OC)(H:List (Nat×Blk)):List (Nat×Blk):=(bn,.box (AV.norm (.agg (ZH ns cs))))::(Vn ns cs++H)
theorem glue {cx:Cx}{F:Nat->Prop}{H:List (Nat×Blk)}{ρ:Nat->Value}{w:World}(g1:HSim cx F H ρ w){hin:List (Nat×Blk)}{ρc:Nat->Value}(c0:∀r,Mut hin ρc r->Mut H ρ r)
  {cs:List OC} {ns:List (Option (Nat×Nat))} {bn:Nat} {fz:List Nat} (A:Names ns cs) (a7:E3 bn fz ns=true)
  (U:∀n k r,look H n=some k->k.live=true->QX (ρ n)=some r->Mut hin ρc r->n=bn\/∃(i v:Nat),ns[i]?=some (some (n,v)))
  {w' : World} {ρ' : Nat->Value} (c7:∀(i n v:Nat) (k:Blk),ns[i]?=some (some (n,v))->look H n=some k->k.ver<=v/\(k.ver=v->ρ' (i+1)=ρ n)) (d2:∀k,look H bn=some k->k.ver=0/\ρ' 0=ρ bn)
  (q1:HSim cx (fun r=>F r\/(Mut H ρ r/\¬Mut hin ρc r)) (Zx cs) ρ' w') (q2:Ext w (Mut hin ρc) w') (q3:∀q,q<w.heap.size->Mut (Zx cs) ρ' q->Mut hin ρc q) :
  HSim cx F (Uo ns bn cs H) (Jp ns bn ρ ρ') w'/\Steps1 H ρ w (Uo ns bn cs H) (Jp ns bn ρ ρ') w' /\
   (∀r,MM F (Uo ns bn cs H) (Jp ns bn ρ ρ') r->MM (fun r=>F r\/(Mut H ρ r/\¬Mut hin ρc r)) (Zx cs) ρ' r) /\
   look (Uo ns bn cs H) bn=some (.box (AV.norm (.agg (ZH ns cs))))/\Jp ns bn ρ ρ' bn=ρ' 0:=by
 have c4:∀{i n v:Nat},ns[i]?=some (some (n,v))->n≠bn:=fun h=>(V7 a7 _ _ _ h).1;have d1:yx bn ns 1=none:=by
  cases C:yx bn ns 1 with
  | none=>rfl
  | some j =>
   obtain⟨i,v,_,o⟩:=Xt C;exact absurd rfl (c4 o)
 have P:Jp ns bn ρ ρ' bn=ρ' 0:=by simp only[Jp,d1,if_true]
 have Q:∀{i n v:Nat},ns[i]?=some (some (n,v))->Jp ns bn ρ ρ' n=ρ' (i+1):=by
  intro i n v h;unfold Jp;cases C:yx n ns 1 with
  | none=>exact absurd h (jS C i v)
  | some j =>
   obtain⟨i',v',f,o⟩:=Xt C;have:=(V7 a7 _ _ _ h).2.2 i' v' o;subst this;simp only[f,Nat.add_comm]
 have a8:∀{n},n≠bn->(∀(i v:Nat),ns[i]?≠some (some (n,v)))->Jp ns bn ρ ρ' n=ρ n:=by
  intro n f o;unfold Jp;cases C:yx n ns 1 with
  | none=>simp only[jFj f]
  | some j =>
   obtain⟨i',v',_,h⟩:=Xt C;exact absurd h (o i' v')
 have Z:look (Uo ns bn cs H) bn=some (.box (AV.norm (.agg (ZH ns cs)))):=Qf _ _ _;have a0:∀{i n v sz:Nat} {es:jVj},ns[i]?=some (some (n,v))->cs[i]?=some (.row sz es)->look (Uo ns bn cs H) n=some (.row v sz es):=by
  intro i n v sz es f o;rw[Uo,Qc _ _ (Ne.symm (c4 f)),WH];cases J:look (Vn ns cs) n with
  | none=>exact absurd o (Jw J i v sz es f)
  | some k =>
   obtain⟨i',v',d8,es',k1,k2,rfl⟩:=Ue J;have:=(V7 a7 _ _ _ f).2.2 i' v' k1;subst this;rw[f] at k1;cases k1;rw[o] at k2;cases k2;rfl
 have b9:∀{n},n≠bn->(∀(i v:Nat),ns[i]?≠some (some (n,v)))->look (Uo ns bn cs H) n=look H n:=by
  intro n f o;rw[Uo,Qc _ _ (Ne.symm f),WH];cases J:look (Vn ns cs) n with
  | none=>rfl
  | some k =>
   obtain⟨i',v',d8,es',k1,k2,rfl⟩:=Ue J;exact absurd k1 (o i' v')
 -- the three U6 of names
 have M:∀{n k},look (Uo ns bn cs H) n=some k->(n=bn/\k=.box (AV.norm (.agg (ZH ns cs))))\/(∃(i v sz:Nat) (es:jVj),ns[i]?=some (some (n,v))/\cs[i]?=some (.row sz es)/\k=.row v sz es) \/
   (n≠bn/\(∀(i v:Nat),ns[i]?≠some (some (n,v)))/\look H n=some k):=by
  intro n k h;by_cases f:n=bn
  ·subst f;rw[Z] at h;cases h;exact .inl ⟨rfl,rfl⟩
  ·by_cases o:∃(i v:Nat),ns[i]?=some (some (n,v))
   ·obtain⟨i,v,C⟩:=o;obtain⟨sz,es,hc⟩:=A.rowOf C;rw[a0 C hc] at h;cases h;exact .inr (.inl ⟨i,v,sz,es,C,hc,rfl⟩)
   ·have t:∀(i v:Nat),ns[i]?≠some (some (n,v)):=fun i v Y=>o ⟨i,v,Y⟩;rw[b9 f t] at h;exact .inr (.inr ⟨f,t,h⟩)
 -- roots
 have s:∀{n k r},look (Uo ns bn cs H) n=some k->k.live=true->QX (Jp ns bn ρ ρ' n)=some r ->
   (∃m,(∃k',look (Zx cs) m=some k'/\k'.live=true)/\QX (ρ' m)=some r/\Mut (Zx cs) ρ' r/\((n=bn/\m=0)\/∃(i v:Nat),ns[i]?=some (some (n,v))/\m=i+1)) \/
   (n≠bn/\(∀(i v:Nat),ns[i]?≠some (some (n,v)))/\look H n=some k/\QX (ρ n)=some r/\Mut H ρ r/\¬Mut hin ρc r):=by
  intro n k r h J E;obtain⟨rfl,rfl⟩|⟨i,v,sz,es,f,o,rfl⟩|⟨f,o,t⟩:=M h
  ·rw[P] at E;exact .inl ⟨0,⟨_,ZX cs,rfl⟩,E,⟨0,_,ZX cs,rfl,E⟩,.inl ⟨rfl,rfl⟩⟩
  ·rw[Q f] at E;exact .inl ⟨i+1,⟨_,Kz o,rfl⟩,E,⟨i+1,_,Kz o,rfl,E⟩,.inr ⟨i,v,f,rfl⟩⟩
  ·rw[a8 f o] at E;refine .inr ⟨f,o,t,E,⟨n,k,t,J,E⟩,fun G=>?_⟩;obtain K|⟨i,v,K⟩:=U n k r t J E G
   ·exact f K
   ·exact o i v K
 have W:∀r,MM F (Uo ns bn cs H) (Jp ns bn ρ ρ') r->MM (fun r=>F r\/(Mut H ρ r/\¬Mut hin ρc r)) (Zx cs) ρ' r:=by
  rintro r (hf|⟨n,k,f,o,t⟩)
  ·exact .inl (.inl hf)
  ·obtain⟨m,_,_,G,_⟩|⟨_,_,_,_,K,h5⟩:=s f o t
   ·exact .inr G
   ·exact .inl (.inr ⟨K,h5⟩)
 have c6:Steps1 H ρ w (Uo ns bn cs H) (Jp ns bn ρ ρ') w':=by
  refine⟨q2.mono c0,fun r E G=>?_,⟨fun n k hn=>?_⟩⟩
  ·obtain⟨n,k,f,o,t⟩:=G;obtain⟨m,_,_,G,_⟩|⟨_,_,_,_,K,_⟩:=s f o t
   ·exact c0 r (q3 r E G)
   ·exact K
  ·by_cases f:n=bn
   ·subst f;obtain⟨hv,hp⟩:=d2 k hn;exact⟨_,Z,by rw[hv];exact Nat.zero_le _,fun _=>by rw[P];exact hp⟩
   ·by_cases o:∃(i v:Nat),ns[i]?=some (some (n,v))
    ·obtain⟨i,v,C⟩:=o;obtain⟨sz,es,hc⟩:=A.rowOf C;have:=c7 i n v k C hn;exact⟨_,a0 C hc,this.1,fun he=>by rw[Q C];exact this.2 he⟩
    ·have t:∀(i v:Nat),ns[i]?≠some (some (n,v)):=fun i v Y=>o ⟨i,v,Y⟩;exact⟨k,by rw[b9 f t];exact hn,jLj _,fun _=>a8 f t⟩
 refine⟨g1.step c6 (fun n k hk=>?_) (fun n n' k k' r f o m1 m2 r1 r2=>?_) (fun r E hf=>?_),c6,W,Z,P⟩
 ·obtain⟨rfl,rfl⟩|⟨i,v,sz,es,f,o,rfl⟩|⟨f,o,t⟩:=M hk
  ·right;obtain⟨r,e,v,c8,p1,p2,V,p4⟩:=q1.blk 0 _ (ZX cs);obtain⟨c1,c2,c3⟩:=Yp V p4;-- the cells,by the names that they have here
   have hv:∃ys:List Value,v=.agg ys.toArray/\ys.length=cs.length/\∀(i:Nat) (c:AV) (y:Value),(G8 1 cs)[i]?=some c->ys[i]?=some y->VR w' (MM (fun r=>F r\/(Mut H ρ r/\¬Mut hin ρc r)) (Zx cs) ρ') (Zx cs) ρ' c y:=by
    unfold AV.norm at p4;split at p4
    ·rename_i y p;simp only[AV.toD] at p;split at p;case h_2=>cases p
     rename_i ds X;simp only[jIj] at p;subst p;cases p4 with
     | d _ _ hd =>
      cases hd with
      | agg _ ys J Y =>
       have a9:∀(l:List AV) (ds:jVj),Ju l=some ds->(∀(i:Nat) (c:AV),l[i]?=some c->(∃x,c=.d x)\/∃b u,c=.own b u)->l=ds.map .d:=by
        intro l;induction l with
        | nil=>intro ds h _;simp only[Ju,jIj] at h;subst h;rfl
        | cons x l ih =>
         intro ds h hk;simp only[Ju] at h;split at h;case h_2=>cases h
         rename_i y ys p L;simp only[jIj] at h;subst h;obtain⟨z,rfl⟩|⟨b,u,rfl⟩:=hk 0 x rfl
         ·simp only[AV.toD,jIj] at p;subst p;rw[jCj,<-ih ys L fun i c hc=>hk (i+1) c (by simpa using hc)]
         ·simp[AV.toD] at p
       have S:=a9 _ _ X fun i c hc=>by
        rw[VK] at hc;split at hc
        ·cases hc
        ·cases hc;exact .inl ⟨_,rfl⟩
        ·cases hc;exact .inr ⟨_,_,rfl⟩
       refine⟨ys,rfl,by rw[<-J,<-K8 cs 1,S,jlj],fun i c y hc p=>?_⟩;rw[S,List.getElem?_map,Option.map_eq_some_iff] at hc;obtain⟨d,hd,rfl⟩:=hc;exact .d _ _ (Y i d y hd p)
    ·cases p4 with
     | agg _ ys J Y=>exact⟨ys,rfl,by rw[<-J,K8],Y⟩
   obtain⟨ys,rfl,T,L⟩:=hv;have d7:VR w' (MM F (Uo ns n cs H) (Jp ns n ρ ρ')) (Uo ns n cs H) (Jp ns n ρ ρ') (.agg (ZH ns cs)) (.agg ys.toArray):=by
    refine .agg _ ys (by rw[X6 A,T]) fun i c y hc p=>?_;have N:i<cs.length:=by rw[<-T];exact(jGj p).1
    cases hci:cs[i] with
    | dat x =>
     have g : cs[i]?=some (.dat x):=by rw[jej N,hci]
     rw[X7 A i x g] at hc;cases hc;have:=L i (.d x) y (by rw[VK,g]) p;cases this with
     | d _ _ hd=>exact .d _ _ (hd.ext (jLj _) (fun _ _ _=>rfl) fun r _ G=>W r G)
    | row sz es =>
     have g : cs[i]?=some (.row sz es):=by rw[jej N,hci]
     obtain⟨⟨m,u⟩,hp⟩:=A.row i sz es g;rw[X5 A i m u hp] at hc;cases hc;have:=L i (.own (1+i) 0) y (by rw[VK,g]) p;cases this with
     | own _ _ k0 _ O d9 d6 d5 =>
      rw[Nat.add_comm,Kz g] at O;cases O;exact .own m u _ _ (a0 hp g) (jLj _) d6 fun _=>by rw[Q hp,<-Nat.add_comm 1 i];exact d5 rfl
   have c5:Vw (ZH ns cs)=true:=by
    have:∀(l:List AV),(∀(i:Nat) (c:AV),l[i]?=some c->c.isOne=true)->Vw l=true:=by
     intro l;induction l with
     | nil=>intro _;rfl
     | cons x l ih=>intro h;simp only[Vw,jAj];exact⟨h 0 x rfl,ih fun i c hc=>h (i+1) c (by simpa using hc)⟩
    refine this _ fun i c hc=>?_;have N:i<cs.length:=by rw[<-X6 A];exact(jGj hc).1
    cases hci:cs[i] with
    | dat x =>
     have g : cs[i]?=some (.dat x):=by rw[jej N,hci]
     rw[X7 A i x g] at hc;cases hc;-- it is one cell of the object
     have b8:(G8 1 cs)[i]?=some (.d x):=by rw[VK,g]
     have h0:Vw c8=true:=c2;unfold AV.norm at V;split at V
     ·rename_i y p;simp only[AV.toD] at p;split at p;case h_2=>cases p
      rename_i ds X;simp only[jIj] at p;subst p;have d3:=KX V;have d4:ds[i]?=some x:=by
       have a9:∀(l:List AV) (ds:jVj) (i:Nat),Ju l=some ds->l[i]?=some (.d x)->ds[i]?=some x:=by
        intro l;induction l with
        | nil=>intro ds i _ h;simp at h
        | cons z l ih =>
         intro ds i h C;simp only[Ju] at h;split at h;case h_2=>cases h
         rename_i y ys p L;simp only[jIj] at h;subst h;cases i with
         | zero=>simp only[jzj,jIj] at C ⊢;subst C;simp only[AV.toD,jIj] at p;exact p.symm
         | succ i=>simpa using ih ys i L (by simpa using C)
       exact a9 _ _ i X b8
      refine Yi h0 (j:=i) ?_;rw[d3];simp only[SX.D.cells,List.getElem?_map,d4,Option.map_some]
     ·simp only[AV.cells] at V;split at V
      ·cases V;exact Yi h0 b8
      ·cases V
    | row sz es =>
     have g : cs[i]?=some (.row sz es):=by rw[jej N,hci]
     obtain⟨⟨m,u⟩,hp⟩:=A.row i sz es g;rw[X5 A i m u hp] at hc;cases hc;rfl
   obtain⟨c9,b7⟩:=Option.isSome_iff_exists.1 (zW c5);exact⟨r,e,.agg ys.toArray,c9,by rw[P];exact p1,p2,b7,Ug d7⟩
  ·right;have h0:RowV w' _ (ρ' (i+1)) sz es:=q1.blk (i+1) _ (Kz o);have t:RowV w' (MM F (Uo ns bn cs H) (Jp ns bn ρ ρ')) (ρ' (i+1)) sz es:=h0.sub fun r _ G=>W r G;rw[<-Q f] at t;exact t
  ·refine .inl ⟨t,a8 f o,fun J r E=>?_⟩;refine q2.same r ((g1.blk n k t).root_lt J E) fun G=>?_;obtain K|⟨i,v,K⟩:=U n k r t J E G
   ·exact f K
   ·exact o i v K
 ·obtain⟨a,⟨ka,a1,a2⟩,a3,a4,a5⟩|⟨a1,a2,a3,a4,a5,a6⟩:=s f m1 r1<;>obtain⟨b,⟨kb,b1,b2⟩,b3,b4,b5⟩|⟨b1,b2,b3,b4,b5,b6⟩:=s o m2 r2
  ·have d0:=q1.inj a b ka kb r a1 b1 a2 b2 a3 b3;subst d0;obtain⟨rfl,rfl⟩|⟨i,v,C,rfl⟩:=a5<;>obtain⟨rfl,O⟩|⟨j,u,hj,O⟩:=b5
   ·rfl
   ·omega
   ·omega
   ·have:i=j:=by omega
    subst this;rw[C] at hj;cases hj;rfl
  ·exact absurd (q3 r (g1.mut_lt b5) a4) b6
  ·exact absurd (q3 r (g1.mut_lt a5) b4) a6
  ·exact g1.inj n n' k k' r a3 b3 m1 m2 a4 b4
 ·obtain⟨n,k,f,o,t⟩:=E
  obtain⟨m,_,_,G,_⟩|⟨_,_,_,_,K,_⟩:=s f o t
  ·exact q1.forb r G (.inl hf)
  ·exact g1.forb r K hf
section
variable {cx:Cx}{F:Nat->Prop}{hp:List (Nat×Blk)}{ρ:Nat->Value}{w:World}{a:Act}{sym:Bool}{orc:List Orc}
theorem QgW {M:Nat->Prop}{x:AV}{v:Value}(h:VR w M hp ρ x v):VR w M hp ρ (Qir x) v:=by
 cases x with
 | d y =>
  cases y with
  | ref y o =>
   cases h with
   | d _ _ c =>
    obtain⟨blk,o',rfl,b⟩:=c.ref_dat;exact .dptr y o blk o' b
  | _=>exact h
 | _=>exact h
theorem jX (h:HSim cx F hp ρ w){tm:List (Nat×AV)}(c:TSim F tm hp ρ a w)(x:Operand):VR w (MM F hp ρ) hp ρ (evA cx tm x) (a.eval x):=by
 cases x with
 | tmp t =>
  simp only[evA];split
  ·rename_i y b;exact QgW (c t y b)
  ·exact .junk _
 | const v=>exact G7 _ _ _ _ v
 | global g =>
  simp only[evA];split
  ·rename_i y b;exact .dptr y 0 g 0 (h.glob g y b).1
  ·exact .junk _
 | func f=>exact .d _ _ (.fn _ [] [] [] [] rfl rfl (by simp) (by simp))
theorem Ga {b:Type}(xs:Array b)(i:Nat):nth xs.toList i=xs[i]?:=by rw[ZY];simp
theorem KS {tm:List (Nat×AV)}(p:TSim F tm hp ρ a w){ops:Array Oper}{o:Oper}{b:Bool}(h:GM ops tm o=some b):Region.wanted o (yielded ops a.tmps)=b:=by
 unfold GM at h;unfold Region.wanted;split at h
 ·rename_i n;rw[n];simpa using h
 ·rename_i j l n;rw[n];simp only;rw[Ga] at h;split at h
  ·rename_i m;simp only[jIj] at h;subst h;simp[yielded,m]
  ·rename_i g m;split at h
   ·rename_i f;simp only[jIj] at h;subst h;simp[yielded,m,f]
   ·rename_i d f;have i:∀v,a.tmps.getD d undef=v->yielded ops a.tmps j=(match v with | .bool b=>some b|_=>none):=by
     intro v e;simp only[yielded,m,jBj,f];rw[Array.getD_eq_getD_getElem?] at e;cases hx:a.tmps[d]? with
     | none=>rw[hx] at e;simp at e;subst e;rfl
     | some u=>rw[hx] at e;simp at e;subst e;cases u<;>rfl
    split at h
    ·rename_i c k;simp only[jIj] at h;subst h;have:=wu (p d _ k);rw[i _ this];simp only;cases c<;>cases l<;>rfl
    ·rename_i c k;simp only[jIj] at h;subst h;have:=wu (p d _ k);rw[i _ this];rfl
    ·rename_i c k;simp only[jIj] at h;subst h;have f:=p d _ k;generalize e:a.tmps.getD d undef=v at f;cases f with
     | d _ _ f =>
      cases f with
      | tup=>rw[i _ e];rfl
    ·cases h
theorem TSim.put {F:Nat->Prop}{tm:List (Nat×AV)}(d:TSim F tm hp ρ a w){t:Nat}{x:AV}{v:Value}(e:VR w (MM F hp ρ) hp ρ x v)(c:t<a.tmps.size):TSim F ((t,x)::tm) hp ρ (a.put (some t) v) w:=by
 intro u y b;by_cases h:t=u
 ·subst h;rw[Qf] at b;cases b;simp only[Act.put];rw[Array.getD_eq_getD_getElem?,Array.getElem?_setIfInBounds,jTj rfl,jTj c];exact e
 ·rw[Qc _ _ h] at b;simp only[Act.put];rw[Array.getD_eq_getD_getElem?,Array.getElem?_setIfInBounds,jFj h,<-Array.getD_eq_getD_getElem?];exact d u y b
theorem Qdm (a:Act)(d:Option Tmp)(v:Value):(a.put d v).tmps.size=a.tmps.size:=by cases d<;>simp[Act.put]
theorem UQ (a:Act)(d:Option Tmp)(v:Value):(a.put d v).defers=a.defers:=by cases d<;>rfl
theorem jD {s s' : St}{d:Option Tmp}{x:AV}{v:Value}(h:s.put d x=some s')(c:Sim cx F s ρ a w)(f:VR w (MM F s.hp ρ) s.hp ρ x v):Sim cx F s' ρ (a.put d v) w:=by
 unfold St.put at h;split at h
 ·simp only[jIj] at h;subst h;exact c
 ·rename_i t;split at h<;>simp only[jIj,reduceCtorEq] at h;rename_i e;subst h;have b : t<s.nt:=by simpa using e
  exact⟨c.hs,c.ts.put f (by rw[c.nt];exact b),by rw[Qdm];exact c.nt⟩
def _root_.Go.SX.St.nr (s:St):Nat×Bool:=(s.nt,s.rnd)
theorem wF {a b:St}(h:a.nr=b.nr):a.nt=b.nt:=(Prod.mk.inj h).1
theorem Qca {a b:St}(h:a.nr=b.nr):a.rnd=b.rnd:=(Prod.mk.inj h).2
theorem Uw {s s' : St}{d:Option Tmp}{x:AV}(h:s.put d x=some s'):s'.hp=s.hp/\s'.ob=s.ob/\s'.vis=s.vis/\s'.nr=s.nr/\s'.sfx=s.sfx:=by
 unfold St.put at h;split at h
 ·simp only[jIj] at h;subst h;exact⟨rfl,rfl,rfl,rfl,rfl⟩
 ·split at h<;>simp only[jIj,reduceCtorEq] at h;subst h;exact⟨rfl,rfl,rfl,rfl,rfl⟩
theorem Eb {x y:AV}{ob:List Prop}{o' : List Orc}(h:litB sym orc x=some (y,ob,o'))(d:∀p,p∈ob->p){M:Nat->Prop}{v:Value}(c:VR w M hp ρ x v):VR w M hp ρ y v:=by
 unfold litB at h;split at h
 ·rename_i b;split at h
  ·simp only[jIj,jPj] at h;obtain⟨rfl,rfl,rfl⟩:=h;have:=d _ jMj;subst this;exact c
  ·split at h<;>(simp only[jIj,jPj] at h;obtain⟨rfl,rfl,rfl⟩:=h;exact c)
  ·cases h
 ·simp only[jIj,jPj] at h;obtain⟨rfl,rfl,rfl⟩:=h;exact c
def QaB (cx:Cx)(call:Jt):Prop :=
 ∀(keepable:Bool) (H:List (Nat×Blk)) (g:Nat) (sym:Bool) (orc:List Orc) (f:FuncId) (b:List AV) (d:RC),call keepable H g sym orc f b=some d->(∀p,p∈d.ob->p) ->
  ∀(F:Nat->Prop) (ρ:Nat->Value) (w:World) (vs:List Value),HSim cx F H ρ w->b.length=vs.length ->
  (∀(i:Nat) (c:AV) (y:Value),b[i]?=some c->vs[i]?=some y->VR w (MM F H ρ) H ρ c y) ->
  (∃v,(callFunc f vs.toArray).run cx.P w=.ok (.value v) w/\d.full=none/\d.up=[]/\VR w (MM F H ρ) H ρ d.val v) \/
  ((callFunc f vs.toArray).run cx.P w=.ok (.enter f vs.toArray) w/\Calls cx.P f vs.toArray w fun e w'=>∃v,e=.returned v/\∃ρ',HSim cx F (d.heap H) ρ' w'/\Steps1 H ρ w (d.heap H) ρ' w'/\VR w' (MM F (d.heap H) ρ') (d.heap H) ρ' d.val v)
def zj (call:Jt):Prop :=
 ∀(keepable:Bool) (H:List (Nat×Blk)) (d:Nat) (sym:Bool) (orc:List Orc) (f:FuncId) (b:List AV) (c:RC),call keepable H d sym orc f b=some c->c.sfx=true->∀h,c.full=some h->∃new,h=new++H
theorem GY {o:Oper}{c:Operand}{args:List Operand}(h:Jf o=some (c,args)):∃ats,o.op=.call { callee:=.value c,args:=args.toArray,argTypes:=ats }:=by
 unfold Jf at h;split at h
 ·rename_i f d ats b;simp only[jIj,jPj] at h;obtain⟨rfl,rfl⟩:=h;exact⟨ats,by rw[b]⟩
 ·cases h
theorem KY {M:Nat->Prop}{x:AV}{v:Value}{f:FuncId}{p q:List AV}(h:GX x=some (f,p,q))(g:VR w M hp ρ x v) :
  ∃xs ys:List Value,v=.func (.func f) xs.toArray ys.toArray/\p.length=xs.length/\q.length=ys.length /\
   (∀(i:Nat) (c:AV) (y:Value),p[i]?=some c->xs[i]?=some y->VR w M hp ρ c y)/\(∀(i:Nat) (c:AV) (y:Value),q[i]?=some c->ys[i]?=some y->VR w M hp ρ c y):=by
 have up:∀(l:jVj) (ys:List Value),(∀(i:Nat) (c:D) (y:Value),l[i]?=some c->ys[i]?=some y->DR w M c y)->∀(i:Nat) (c:AV) (y:Value),(l.map AV.d)[i]?=some c->ys[i]?=some y->VR w M hp ρ c y:=by
  intro l ys e i c y hc m;simp only[List.getElem?_map] at hc;cases b:l[i]? with
  | none=>rw[b] at hc;cases hc
  | some d=>rw[b] at hc;simp only[Option.map_some,jIj] at hc;subst hc;exact .d _ _ (e i d y b m)
 unfold GX at h;split at h
 ·simp only[jIj,jPj] at h;obtain⟨rfl,rfl,rfl⟩:=h;cases g with
  | fn _ _ _ xs ys b k e j=>exact⟨xs,ys,rfl,b,k,e,j⟩
 ·simp only[jIj,jPj] at h;obtain⟨rfl,rfl,rfl⟩:=h;cases g with
  | d _ _ g =>
  cases g with
  | fn _ _ _ xs ys b k e j=>exact⟨xs,ys,rfl,by simpa using b,by simpa using k,up _ _ e,up _ _ j⟩
 ·cases h
theorem VV {o:Oper}{p:Operand×List Operand}(h:Jf o=some p):∀c,o.op≠.defer c:=by obtain⟨e,d⟩:=p;obtain⟨ats,b⟩:=GY h;intro c hc;rw[b] at hc;cases hc
theorem yq {cx sym orc hp name b o r}(h:aop cx sym orc hp name b o=some r):∀c,o.op≠.defer c:=by intro c hc;unfold aop at h;rw[hc] at h;cases h
theorem Qah {P:Program}{f:FuncId}{b:Array Value}{w:World}{R:Ending->World->Prop}{m:Nat}(r:Option Nat)(h:Calls P f b w R):CallsIn (fen r) m P f b w R:=by
 cases r with
 | none=>exact callsIn_wide.2 h
 | some l=>exact CallsIn.inRound l (callsIn_wide.2 h)
theorem jb {o:Oper}{e:Operand}{b:List Operand}(c:Jf o=some (e,b)){f:FuncId}{xs ys:List Value}(g:a.eval e=.func (.func f) xs.toArray ys.toArray)(P:Program)(w:World) :
  (execOp a.eval o).run P w=(callFunc f (xs++b.map a.eval++ys).toArray).run P w:=by
 obtain⟨ats,d⟩:=GY c;simp only[execOp,d,resolve,g,Deferred.ofValue,pure_bind,invoke];congr 2
 simp
theorem wx {M:Nat->Prop}{p m q:List AV}{xs ms ys:List Value}(e:p.length=xs.length)(l:m.length=ms.length)(n:q.length=ys.length)
  (k1:∀(i:Nat) (c:AV) (y:Value),p[i]?=some c->xs[i]?=some y->VR w M hp ρ c y) (j:∀(i:Nat) (c:AV) (y:Value),m[i]?=some c->ms[i]?=some y->VR w M hp ρ c y)
  (k:∀(i:Nat) (c:AV) (y:Value),q[i]?=some c->ys[i]?=some y->VR w M hp ρ c y) :
  (p++m++q).length=(xs++ms++ys).length/\∀(i:Nat) (c:AV) (y:Value),(p++m++q)[i]?=some c->(xs++ms++ys)[i]?=some y->VR w M hp ρ c y:=by
 have app:∀(p m:List AV) (xs ms:List Value),p.length=xs.length->(∀(i:Nat) (c:AV) (y:Value),p[i]?=some c->xs[i]?=some y->VR w M hp ρ c y) ->
   (∀(i:Nat) (c:AV) (y:Value),m[i]?=some c->ms[i]?=some y->VR w M hp ρ c y)->∀(i:Nat) (c:AV) (y:Value),(p++m)[i]?=some c->(xs++ms)[i]?=some y->VR w M hp ρ c y:=by
  intro p m xs ms f d g i c y hc b;by_cases h:i<p.length
  ·rw[List.getElem?_append_left h] at hc;rw[List.getElem?_append_left (by omega)] at b;exact d i c y hc b
  ·rw[List.getElem?_append_right (by omega)] at hc;rw[List.getElem?_append_right (by omega)] at b;rw[f] at hc;exact g _ c y hc b
 exact⟨by simp;omega,app _ _ _ _ (by simp;omega) (app _ _ _ _ e k1 j) k⟩
theorem Uj {ops:Array Oper}{i:Nat}{o:Oper}{s s' : St}{x:AV}{b : List (Nat×Blk)}{u:Nat}{orc:List Orc}{ob:List Prop}{r:Bool}(h:Ee ops i o s x b u orc ob r=some s')(c:∀p,p∈s'.ob->p) :
  (∀p,p∈ob->p)/\(∀p,p∈s.ob->p)/\s'.hp=b/\s'.vis=s.vis/\s'.nr=s.nr/\(s'.sfx=true->s.sfx=true/\r=true) /\
  ∀(v:Value),HSim cx F b ρ w->TSim F s.tm b ρ a w->a.tmps.size=s.nt->VR w (MM F b ρ) b ρ x v->Sim cx F s' ρ (a.put o.dst v) w:=by
 unfold Ee at h;split at h
 ·split at h;case h_2=>cases h
  rename_i y z A t;obtain⟨d,e,f,g,j⟩:=Uw h;simp only at d e f g j;rw[e] at c;refine⟨fun p hp=>c p (by simp[hp]),fun p hp=>c p (by simp[hp]),d,f,g,fun k=>by rw[j] at k;simpa using k,fun v l m n q=>?_⟩;exact jD h ⟨l,m,n⟩ (Eb t (fun p hp=>c p (by simp[hp])) q)
 ·obtain⟨d,e,f,g,j⟩:=Uw h;simp only at d e f g j;rw[e] at c;refine⟨fun p hp=>c p (by simp[hp]),fun p hp=>c p (by simp[hp]),d,f,g,fun k=>by rw[j] at k;simpa using k,fun v l m n q=>?_⟩;exact jD h ⟨l,m,n⟩ q
def jm (cx:Cx)(j:Uu):Prop :=
 ∀(H:List (Nat×Blk)) (h:Nat) (sym:Bool) (orc:List Orc) (b ver:Nat) (f:List AV) (g:RC),j H h sym orc b ver f=some g->(∀p,p∈g.ob->p) ->
  ∀(rr:Option Nat) (m:Nat) (F:Nat->Prop) (ρ:Nat->Value) (w:World) (vs:List Value),HSim cx F H ρ w->f.length=vs.length ->
  (∀(i:Nat) (c:AV) (y:Value),f[i]?=some c->vs[i]?=some y->VR w (MM F H ρ) H ρ c y) ->
  (∃k,look H b=some k/\ver=k.ver)/\∃(l:Nat) (d:Loop),ρ b=.func (.yield l) #[] #[]/\w.heap[l]?=some (.loop d)/\d.params.size=vs.length /\
   RoundIn (fen rr) m cx.P l d.fn ((d.params.zip vs.toArray).foldl (fun tmps (t,a)=>tmps.setIfInBounds t a) d.tmps) d.assign d.body w fun e w' =>
    ∃v,e=.returned v/\∃ρ',HSim cx F (g.heap H) ρ' w'/\Steps1 H ρ w (g.heap H) ρ' w'/\VR w' (MM F (g.heap H) ρ') (g.heap H) ρ' g.val v
theorem yT {x:AV}{b ver:Nat}(h:yI x=some (b,ver)):x=.own b ver:=by
 unfold yI at h;split at h
 ·simp only[jIj,jPj] at h;obtain⟨rfl,rfl⟩:=h;rfl
 ·cases h
theorem QaV {o:Oper}{e:Operand}{b:List Operand}(c:Jf o=some (e,b)){l:Nat}(f:a.eval e=.func (.yield l) #[] #[])(P:Program)(w:World) :
  (execOp a.eval o).run P w=(Instr.yield l (b.map a.eval).toArray).run P w:=by
 obtain⟨ats,d⟩:=GY c;simp only[execOp,d,resolve,f,Deferred.ofValue,pure_bind,invoke];congr 2
 simp
theorem Qb0 {rr:Option Nat}{m:Nat}{call:Jt}(W:QaB cx call){yc:Uu}(a9:jm cx yc){ops:Array Oper}{base:Nat}{Q:Exit->Act->World->Prop}(l:List Nat):∀(s s' : St) (ρ:Nat->Value) (a:Act) (w:World),UZ cx call yc ops base l s=some s'->(∀p,p∈s'.ob->p) ->
  Sim cx F s ρ a w->(∀ρ' u w',Sim cx F s' ρ' u w'->Steps1 s.hp ρ w s'.hp ρ' w'->u.defers=a.defers->Q .normal u w')->wpOpsIn (fen rr) m cx.P ops Q l a w:=by
 induction l with
 | nil =>
  intro s s' ρ a w h J g Z;simp only[UZ,jIj] at h;subst h;exact Z ρ a w g (Steps1.refl _ _ _) rfl
 | cons i l ih =>
  intro s s' ρ a w h J g Z;simp only[UZ] at h;split at h;case h_2=>cases h
  rename_i s1 n;have a6:∀{s s' : St},UZ cx call yc ops base l s=some s'->(∀p,p∈s'.ob->p)->∀p,p∈s.ob->p:=by
   intro s s';clear ih h n;induction l generalizing s with
   | nil=>intro h J;simp only[UZ,jIj] at h;subst h;exact J
   | cons j l ihl =>
    intro h J;simp only[UZ] at h;split at h;case h_2=>cases h
    rename_i s2 z;have L:=ihl h J;unfold qN at z;split at z
    ·cases z
    split at z
    ·cases z
    ·obtain⟨_,e2,_⟩:=Uw z;rw[e2] at L;exact L
    ·split at z
     ·split at z
      ·split at z
       ·cases z
       exact(Uj (cx:=cx) (F:=F) (ρ:=ρ) (w:=w) (a:=a) z L).2.1
      split at z
      ·cases z
      split at z
      ·cases z
      exact(Uj (cx:=cx) (F:=F) (ρ:=ρ) (w:=w) (a:=a) z L).2.1
     ·split at z
      ·cases z
      exact(Uj (cx:=cx) (F:=F) (ρ:=ρ) (w:=w) (a:=a) z L).2.1
  have Y:=a6 h J;unfold qN at n;rw[Ga] at n;simp only[wpOpsIn];split at n
  ·cases n
  rename_i o a7;rw[a7];simp only;split at n
  ·cases n
  ·-- passed Ky
   rename_i a1;rw[KS g.ts a1];simp only[Bool.false_eq_true,if_false];obtain⟨e1,_⟩:=Uw n;refine⟨fun _ _=>trivial,ih s1 s' ρ _ w h J (jD n g (.d _ _ (.v _))) fun ρ' u w' E c A=>Z ρ' u w' E ?_ (A.trans (UQ _ _ _))⟩;rw[e1] at c;exact c
  ·rename_i a1;rw[KS g.ts a1];simp only[if_true];split at n
   ·-- a call
    rename_i fv S N;split at n
    ·-- yield
     rename_i b ver b2;split at n
     ·cases n
     rename_i rc a0;have hev:=jX g.hs g.ts;obtain⟨l2,k2⟩:=GT hev S;have C:=fun ρ' (u : Act) w'=>Uj (cx:=cx) (F:=F) (ρ:=ρ') (w:=w') (a:=u) n Y;obtain⟨⟨k,hk,a4⟩,ly,b4,b3,hl,a8,O⟩:=a9 _ _ _ _ _ _ _ rc a0 (C ρ a w).1 rr (m - 1) F ρ w _ g.hs l2 k2;have X:=hev fv;rw[yT b2] at X;have hv:a.eval fv=.func (.yield ly) #[] #[]:=by
      generalize a.eval fv=y at X;cases X with
      | own _ _ k' _ hb hv J h =>
       rw[hk] at hb;cases hb;rw[h a4,b3]
     rw[Oper.wpIn,Oper.semAt_eq _ _ _ (VV N),QaV N hv,run_yield hl (by simpa using a8.symm)];refine⟨fun _ _=>trivial,?_⟩;rw[Oper.uponIn_round];refine⟨fun h=>(by cases h),O.mono ?_⟩;rintro e w' ⟨v,rfl,ρ',g1,V,g3⟩;obtain⟨_,_,T,_,_,_,U⟩:=C ρ' a w';refine ih s1 s' ρ' _ w' h J (U v g1 (fun t x hx=>V.vr (g.ts t x hx)) g.nt g3) fun H u M E c A=>Z H u M E ?_ (A.trans (UQ _ _ _));rw[T] at c;exact V.trans c
    split at n
    ·cases n
    rename_i f p q a5;split at n
    ·cases n
    rename_i rc a0;have hev:=jX g.hs g.ts;obtain⟨xs,ys,hv,l1,l3,k1,k3⟩:=KY a5 (hev fv);obtain⟨l2,k2⟩:=GT hev S;obtain⟨l4,k4⟩:=wx l1 l2 l3 k1 k2 k3;have C:=fun ρ' (u : Act) w'=>Uj (cx:=cx) (F:=F) (ρ:=ρ') (w:=w') (a:=u) n Y;have a2:=W _ _ _ _ _ _ _ rc a0 (C ρ a w).1 F ρ w _ g.hs l4 k4;rw[Oper.wpIn,Oper.semAt_eq _ _ _ (VV N),jb N hv];refine⟨fun _ _=>trivial,?_⟩;obtain⟨v,r1,r2,r3,r4⟩|⟨r1,r2⟩:=a2
    ·rw[r1];simp only[Oper.uponIn];have hh:rc.heap s.hp=s.hp:=by rw[RC.heap,r2,r3];rfl
     obtain⟨_,_,T,_,_,_,U⟩:=C ρ a w;rw[hh] at U T;refine ih s1 s' ρ _ w h J (U v g.hs g.ts g.nt r4) fun ρ' u w' E c A=>Z ρ' u w' E ?_ (A.trans (UQ _ _ _));rw[T] at c;exact c
    ·rw[r1];simp only[Oper.uponIn];refine⟨fun h=>(by cases h),Qah rr (r2.mono ?_)⟩;rintro e w' ⟨v,rfl,ρ',g1,V,g3⟩;obtain⟨_,_,T,_,_,_,U⟩:=C ρ' a w';refine ih s1 s' ρ' _ w' h J (U v g1 (fun t x hx=>V.vr (g.ts t x hx)) g.nt g3) fun H u M E c A=>Z H u M E ?_ (A.trans (UQ _ _ _));rw[T] at c;exact V.trans c
   ·-- another operation
    split at n
    ·cases n
    rename_i r hr;have C:=fun ρ' (u : Act) w'=>Uj (cx:=cx) (F:=F) (ρ:=ρ') (w:=w') (a:=u) n Y;obtain⟨v,w',G,ρ',g1,V,g3⟩:=QbK g.hs (fun _=>rfl) (jX g.hs g.ts) hr (C ρ a w).1;obtain⟨_,_,T,_,_,_,U⟩:=C ρ' a w';have a3:=U v g1 (fun t x hx=>V.vr (g.ts t x hx)) g.nt g3;have K:wpOpsIn (fen rr) m cx.P ops Q l (a.put o.dst v) w':=by refine ih s1 s' ρ' _ w' h J a3 fun H u M E c A=>Z H u M E ?_ (A.trans (UQ _ _ _));rw[T] at c;exact V.trans c
    unfold Oper.wpIn;rw[Oper.semAt_eq _ _ _ (yq hr)];refine⟨fun _ _=>trivial,?_⟩;obtain G|⟨G,rfl⟩:=G
    ·rw[G];exact K
    ·rw[G];exact K
end
section
variable {cx:Cx}{H G:List (Nat×Blk)}{sym:Bool}{orc:List Orc}{ev ev' : Operand->AV}
def YU (H G:List (Nat×Blk)):Prop:=∀b k,look H b=some k->look G b=some k
mutual
theorem Kv (hs:YU H G):∀(x:AV) (y:D) (fs:List Nat),x.toDH H=some (y,fs)->x.toDH G=some (y,fs)/\∀b,b∈fs->∃k,look H b=some k
 | .d x,y,fs,h=>by simp only[AV.toDH,jIj,jPj] at h ⊢;obtain⟨rfl,rfl⟩:=h;simp
 | .agg cs,y,fs,h=>by simp only[AV.toDH] at h ⊢;split at h<;>simp only[jIj,reduceCtorEq,jPj] at h;rename_i l fs' hl;obtain⟨rfl,rfl⟩:=h;obtain⟨h1,h2⟩:=J1 hs cs l fs' hl;rw[h1];exact⟨rfl,h2⟩
 | .tup cs,y,fs,h=>by simp only[AV.toDH] at h ⊢;split at h<;>simp only[jIj,reduceCtorEq,jPj] at h;rename_i l fs' hl;obtain⟨rfl,rfl⟩:=h;obtain⟨h1,h2⟩:=J1 hs cs l fs' hl;rw[h1];exact⟨rfl,h2⟩
 | .fn f a b,y,fs,h=>by
  simp only[AV.toDH] at h ⊢;split at h<;>simp only[jIj,reduceCtorEq,jPj] at h;rename_i x1 f1 y1 f2 hx1 hy1;obtain⟨rfl,rfl⟩:=h;obtain⟨h1,h2⟩:=J1 hs a x1 f1 hx1;obtain⟨h3,h4⟩:=J1 hs b y1 f2 hy1;rw[h1,h3];refine⟨rfl,fun c hc=>?_⟩;obtain hc|hc:=List.mem_append.1 hc
  ·exact h2 c hc
  ·exact h4 c hc
 | .own b ver,y,fs,h=>by
  simp only[AV.toDH] at h ⊢;cases hb:look H b with
  | none=>rw[hb] at h;cases h
  | some k =>
   rw[hs b k hb];rw[hb] at h;refine⟨h,?_⟩;cases k with
   | box _=>simp at h
   | loop _ _ _ _ _ _=>simp at h
   | mp es =>
    simp only at h;split at h<;>simp only[jIj,reduceCtorEq,jPj] at h;obtain⟨rfl,rfl⟩:=h;intro c hc;simp only[List.mem_singleton] at hc;subst hc;exact⟨_,hb⟩
   | it _ _=>simp at h
   | fbox _=>simp at h
   | left _=>simp at h
   | dead=>simp at h
   | row v s e =>
    simp only at h;split at h<;>simp only[jIj,reduceCtorEq,jPj] at h;obtain⟨rfl,rfl⟩:=h;intro c hc;simp only[List.mem_singleton] at hc;subst hc;exact⟨_,hb⟩
   | frozen v s e =>
    simp only at h;split at h<;>simp only[jIj,reduceCtorEq,jPj] at h;obtain⟨rfl,rfl⟩:=h;simp
   | virt v s e =>
    simp only at h;split at h<;>simp only[jIj,reduceCtorEq,jPj] at h;obtain⟨rfl,rfl⟩:=h;simp
 | .dptr _ _,y,fs,h=>by simp only[AV.toDH,jIj,jPj] at h ⊢;obtain⟨rfl,rfl⟩:=h;simp
 | .ptr b ver sz i off,y,fs,h=>by
  simp only[AV.toDH] at h ⊢;split at h;case h_2=>cases h
  rename_i hc;split at h;case h_2=>cases h
  rename_i k hk;rw[hs b k hk];dsimp only;refine⟨h,?_⟩;split at h
  ·simp only[jIj,jPj] at h;obtain⟨rfl,rfl⟩:=h;intro c hc;simp only[List.mem_singleton] at hc;subst hc;exact⟨k,hk⟩
  ·simp only[jIj,jPj] at h;obtain⟨rfl,rfl⟩:=h;intro c hc;cases hc
  ·cases h
 | .sub _ _ _ _ _,y,fs,h=>by simp[AV.toDH] at h
 | .junk,y,fs,h=>by simp[AV.toDH] at h
theorem J1 (hs:YU H G):∀(cs:List AV) (l:jVj) (fs:List Nat),Kr H cs=some (l,fs)->Kr G cs=some (l,fs)/\∀b,b∈fs->∃k,look H b=some k
 | [],l,fs,h=>by simp only[Kr,jIj,jPj] at h ⊢;obtain⟨rfl,rfl⟩:=h;simp
 | x::cs,l,fs,h=>by
  simp only[Kr] at h ⊢;split at h<;>simp only[jIj,reduceCtorEq,jPj] at h;rename_i y1 f1 l1 f2 h1 h2;obtain⟨rfl,rfl⟩:=h;obtain⟨g1,g2⟩:=Kv hs x y1 f1 h1;obtain⟨g3,g4⟩:=J1 hs cs l1 f2 h2;rw[g1,g3];refine⟨rfl,fun c hc=>?_⟩;obtain hc|hc:=List.mem_append.1 hc
  ·exact g2 c hc
  ·exact g4 c hc
end
theorem Vu (e:YU H G)(a:List Nat)(h:∀b,b∈a->∃k,look H b=some k):Qd G a=Qd H a:=by
 induction a with
 | nil=>rfl
 | cons b l ih =>
  obtain⟨k,d⟩:=h b jMj;simp only[Qd,d,e b _ d,ih fun c hc=>h c (jmj _ hc)]
theorem Xw (a:YU H G){b ver:Nat}(h:El H b ver=true):El G b ver=true:=by
 unfold El at h ⊢;cases hb:look H b with
 | none=>rw[hb] at h;cases h
 | some k=>rw[hb] at h;rw[a b k hb];exact h
theorem QgY (c:YU H G){b ver:Nat}(h:El H b ver=true):look G b=look H b:=by
 unfold El at h;split at h
 ·rename_i k a;rw[a];exact c b k a
 ·cases h
theorem Qd0 (a:YU H G){x:AV}{es:jVj}(h:Ka H x=some es):Ka G x=some es:=by
 unfold Ka at h ⊢;split at h
 ·exact h
 ·rename_i b ver;cases hb:look H b with
  | none=>rw[hb] at h;cases h
  | some k=>rw[hb] at h;simp only[a b k hb];exact h
 ·split at h;case h_2=>cases h
  rename_i hc;rw[Xw a hc];exact h
 ·cases h
theorem qB (e:YU H G){x:AV}{q:Nat×jVj×List Nat}(h:UL H x=some q):UL G x=some q/\∀b,b∈q.2.2->∃k,look H b=some k:=by
 unfold UL at h ⊢;split at h
 ·rename_i f sz es g d;obtain⟨a,c⟩:=Kv e _ _ _ d;rw[a];simp only[jIj] at h;subst h;exact⟨rfl,c⟩
 ·cases h
theorem uz (a:YU H G){b:Nat}{x:SX.D}(h:zA H b=some x):zA G b=some x:=by
 unfold zA at h ⊢;cases hb:look H b with
 | none=>rw[hb] at h;cases h
 | some k=>rw[hb] at h;rw[a b k hb];exact h
theorem Qhi (a:YU H G){x:AV}{y:SX.D}{off:Nat}(h:unf H x=.dptr y off):unf G x=.dptr y off:=by
 cases x with
 | ptr b ver sz i o =>
  have h:unfP H b ver sz i o=.dptr y off:=h;show unfP G b ver sz i o=.dptr y off;unfold unfP at h ⊢;cases hl:zA H b with
  | none=>rw[hl] at h;cases h
  | some x=>rw[hl] at h;rw[uz a hl];exact h
 | d _=>exact h
 | agg _=>exact h
 | tup _=>exact h
 | dptr _ _=>exact h
 | own _ _=>exact h
 | sub _ _ _ _ _=>exact h
 | fn _ _ _=>exact h
 | junk=>exact h
theorem QiJ (f:YU H G){x:AV}{b ver sz i off:Nat}{q:AV×List Prop×List Orc}(h:unf H x=.ptr b ver sz i off)(e:KZ sym orc H b ver sz i=some q):unf G x=.ptr b ver sz i off:=by
 cases x with
 | ptr a ver' c g o =>
  have h:unfP H a ver' c g o=.ptr b ver sz i off:=h;show unfP G a ver' c g o=.ptr b ver sz i off;unfold unfP at h ⊢;cases hf:zA H a with
  | some x=>rw[hf] at h;rw[uz f hf];exact h
  | none =>
   rw[hf] at h;simp only[AV.ptr.injEq] at h;obtain⟨rfl,rfl,rfl,rfl,rfl⟩:=h;have:zA G a=none:=by
    unfold KZ at e;unfold zA at hf ⊢;cases hb:look H a with
    | none=>rw[hb] at e;cases e
    | some k=>rw[hb] at hf;rw[f a k hb];exact hf
   rw[this]
 | d _=>exact h
 | agg _=>exact h
 | tup _=>exact h
 | dptr _ _=>exact h
 | own _ _=>exact h
 | sub _ _ _ _ _=>exact h
 | fn _ _ _=>exact h
 | junk=>exact h
theorem Qcz (a:YU H G){b ver sz i:Nat}{q:AV×List Prop×List Orc}(h:KZ sym orc H b ver sz i=some q):KZ sym orc G b ver sz i=some q:=by
 unfold KZ at h ⊢;cases hb:look H b with
 | none=>rw[hb] at h;cases h
 | some k=>rw[hb] at h;rw[a b k hb];exact h
theorem XF (a:YU H G){t:TypeId}{x:AV}{i:Int}{r:R}(h:VT cx sym orc H t x i=some r):VT cx sym orc G t x i=some r:=by
 unfold VT at h ⊢;split at h
 ·split at h;case h_2=>cases h
  split at h
  ·split at h;case h_2=>cases h
   rename_i hc;simp only[Xw a hc];exact h
  ·exact h
  ·cases h
 ·split at h
  ·cases h
  split at h
  ·rename_i b ver;cases hb:look H b with
   | none=>rw[hb] at h;cases h
   | some k=>rw[hb] at h;simp only[a b k hb];exact h
  ·exact h
  ·split at h;case h_2=>cases h
   rename_i hc c;simp only[jAj] at hc;simp only[Xw a hc.1,hc.2,c,Bool.and_true,QgY a hc.1];exact h
  ·cases h
 ·cases h
theorem yE (a:YU H G){t:TypeId}{x:AV}{i:Int}{r:R}(h:UK cx sym orc H t x i=some r):UK cx sym orc G t x i=some r:=by
 unfold UK at h ⊢;split at h
 ·split at h;case h_2=>cases h
  rename_i q b;rw[XF a b];exact h
 ·exact XF a h
theorem Qei (b:YU H G){t:TypeId}{x:AV}{j i k:Option AV}{r:R}(h:Xb cx sym orc H t x j i k=some r):Xb cx sym orc G t x j i k=some r:=by
 unfold Xb at h ⊢;split at h
 ·exact h
 ·split at h;case h_3=>cases h
  ·rename_i a full sz es c g f;obtain⟨d,e⟩:=Kv b _ _ _ f;simp only[g,d];rw[Vu b c e];exact h
  ·rename_i a m full sz es c g f;obtain⟨d,e⟩:=Kv b _ _ _ f;simp only[g,d];rw[Vu b c e];exact h
theorem QcD (d:YU H G){t:TypeId}{x:AV}{b a c:Option AV}{r:R}(h:Um cx sym orc H t x b a c=some r):Um cx sym orc G t x b a c=some r:=by
 unfold Um at h ⊢;split at h;case h_2=>cases h
 cases hb:look H _ with
 | none=>rw[hb] at h;simp at h
 | some k=>rw[hb] at h;simp only[d _ k hb];exact h
theorem QcC (i:YU H G){t:TypeId}{x:AV}{e d f:Option AV}{r:R}(a:Um cx sym orc H t x e d f=none)(h:Xb cx sym orc H t x e d f=some r):Um cx sym orc G t x e d f=none:=by
 unfold Um at a ⊢;split;case h_2=>rfl
 rename_i o b ver g;rw[g] at a;simp only at a;cases hb:look H b with
 | none =>
  unfold Xb at h;split at h
  ·rename_i j;cases j
  ·split at h;case h_3=>cases h
   ·rename_i c;simp[AV.toDH,hb] at c
   ·rename_i c;simp[AV.toDH,hb] at c
 | some k=>rw[hb] at a;simp only[i b k hb];exact a
theorem Qg5 (d:YU H G){t:TypeId}{x:AV}{b a c:Option AV}{r:R}(h:yD cx sym orc H t x b a c=some r):yD cx sym orc G t x b a c=some r:=by
 unfold yD at h ⊢;split at h;case h_2=>cases h
 cases hb:look H _ with
 | none=>rw[hb] at h;simp at h
 | some k=>rw[hb] at h;simp only[d _ k hb];exact h
theorem Qg4 (i:YU H G){t:TypeId}{x:AV}{e d f:Option AV}{r:R}(a:yD cx sym orc H t x e d f=none)(h:Xb cx sym orc H t x e d f=some r):yD cx sym orc G t x e d f=none:=by
 unfold yD at a ⊢;split;case h_2=>rfl
 rename_i o b ver _ l g;rw[g] at a;simp only at a;cases hb:look H b with
 | none =>
  unfold Xb at h;split at h
  ·rename_i j;cases j
  ·split at h;case h_3=>cases h
   ·rename_i c;simp[AV.toDH,hb] at c
   ·rename_i c;simp[AV.toDH,hb] at c
 | some k=>rw[hb] at a;simp only[i b k hb];exact a
theorem QaS (f:YU H G){t:TypeId}{x:AV}{c a d:Option AV}{r:R}(e:Um cx sym orc H t x c a d=none)(h:yD cx sym orc H t x c a d=some r):Um cx sym orc G t x c a d=none:=by
 unfold yD at h;split at h;case h_2=>cases h
 unfold Um;split;case h_2=>rfl
 rename_i b _;cases b
theorem QcN (f:YU H G){name:Nat}(i:look G name=none){t:TypeId}{s x:AV}{r:R}(h:zi cx sym orc H name t s x=some r):zi cx sym orc G name t s x=some r:=by
 unfold zi at h ⊢;split at h;case h_2=>cases h
 rename_i g asz ds j o d;obtain⟨l,m⟩:=qB f d;simp only[o,l];rw[Vu f j m];split at h
 ·cases h
 split at h
 ·cases h
 split at h
 ·rename_i b ver;cases hb:look H b with
  | none=>rw[hb] at h;cases h
  | some k=>rw[hb] at h;simp only[f b k hb];exact h
 ·split at h
  ·cases h
  split at h
  ·split at h;case h_2=>cases h
   rename_i c n e;simp only[c,i,e];exact h
  split at h;case h_2=>cases h
  rename_i ob o' e;split at h
  ·rename_i c;split at h;case h_3=>cases h
   ·rename_i a;simp only[a];exact h
   ·rename_i a _;simp only[a,i];exact h
  ·exact h
  ·cases h
 ·cases h
theorem Qhc (a:YU H G){t:TypeId}{s x:AV}{r:R}(h:adup cx sym orc H t s x=some r):adup cx sym orc G t s x=some r:=by
 unfold adup at h ⊢;split at h;case h_2=>cases h
 rename_i b ver c;cases hb:look H b with
 | none=>rw[hb] at h;simp at h
 | some k=>rw[hb] at h;rw[a b k hb];exact h
theorem Qfi (c:YU H G){t:TypeId}{d s:AV}{r:R}(h:QbL cx orc H t d s=some r):QbL cx orc G t d s=some r:=by
 unfold QbL at h ⊢;split at h;case h_2=>cases h
 rename_i e b ver asz ds f j a;obtain⟨g,i⟩:=qB c a;simp only[j,g];rw[Vu c f i];cases hb:look H b with
 | none=>rw[hb] at h;simp at h
 | some k=>rw[hb] at h;simp only[c b k hb];exact h
theorem QaT (d:YU H G){name:Nat}(e:look G name=none){b:Builtin}{ats:Array TypeId}{ty:TypeId}{a:List AV}{r:R}(h:XI cx sym orc H name b ats ty a=some r) :
  (∀x v,Ka H x=none->x.toV=some v->Ka G x=none)->XI cx sym orc G name b ats ty a=some r:=by
 intro g;unfold XI at h ⊢;split at h
 ·split at h;case h_2=>cases h
  split at h
  ·split at h
   ·exact Qhc d h
   ·exact QcN d e h
  ·unfold Qf7 at h ⊢;split at h;case h_2=>cases h
   split at h;case h_2=>cases h
   rename_i i;simp only[e];simp_all
 ·split at h;case h_2=>cases h
  exact Qfi d h
 ·split at h;case h_2=>cases h
  split at h
  ·rename_i es c;simp only[Qd0 d c];exact h
  ·rename_i c;split at h;case h_2=>cases h
   rename_i v f;simp only[g _ _ c f,f];exact h
 ·exact h
 ·exact h
 ·exact h
 ·split at h;case h_2=>cases h
  unfold QcJ at h ⊢;split at h;case h_2=>cases h
  rename_i b _ _ _ _ _;cases hb:look H b with
  | none=>rw[hb] at h;simp at h
  | some k=>rw[hb] at h;simp only[d b k hb];exact h
 ·cases h
theorem QdZ {x:AV}{v:Value}(h:x.toV=some v):Ka H x=none↔Ka G x=none:=by
 unfold Ka;split
 ·simp
 ·rename_i b ver;simp[AV.toV,AV.toD] at h
 ·simp[AV.toV,AV.toD] at h
 ·simp
theorem KV (f:YU H G){s:Nat}:∀(parts:List (Nat×AV)) (n:Nat) (es:jVj) (a:List Nat),Y6 H s n parts=some (es,a)->Y6 G s n parts=some (es,a)/\∀b,b∈a->∃k,look H b=some k
 | [],n,es,a,h=>by simp only[Y6,jIj,jPj] at h ⊢;obtain⟨rfl,rfl⟩:=h;simp
 | (i,x)::l,n,es,a,h=>by
  simp only[Y6] at h ⊢;split at h;case h_2=>cases h
  rename_i cs y r ys g d q e;obtain⟨j,m⟩:=Kv f _ _ _ q;obtain⟨o,p⟩:=KV f l (n+1) ys g e;simp only[d,j,o];refine⟨h,?_⟩;split at h;case h_2=>cases h
  split at h;case h_2=>cases h
  simp only[jIj,jPj] at h;obtain⟨rfl,rfl⟩:=h;refine fun c hc=>?_;obtain hc|hc:=List.mem_append.1 hc
  ·exact m c hc
  ·exact p c hc
theorem Qeh (a:YU H G){t:TypeId}{p y:AV}{r:R}(h:kz cx sym orc H t p y=some r):kz cx sym orc G t p y=some r:=by
 unfold kz at h ⊢;split at h;case h_2=>cases h
 split at h
 ·rename_i c b;simp only[c,a _ _ b];exact h
 ·rename_i ver i es c b;simp only[c,a _ _ b];split at h;case h_2=>cases h
  rename_i j e hc d;obtain⟨f,g⟩:=Kv a _ _ _ d;simp only[hc,f];rw[Vu a e g];exact h
 ·cases h
theorem kT (a:YU H G){m:AV}{p:Nat×jVj}(h:E2 H m=some p):E2 G m=some p:=by
 unfold E2 at h ⊢;split at h;case h_2=>cases h
 rename_i b v;cases hb:look H b with
 | none=>rw[hb] at h;cases h
 | some k=>rw[hb] at h;simp only[a b k hb];exact h
theorem QdY (a:YU H G){m:AV}{p:jVj}(h:jZ H m=some p):jZ G m=some p:=by
 unfold jZ at h ⊢;split at h
 ·rename_i b v;cases hb:look H b with
  | none=>rw[hb] at h;cases h
  | some k=>rw[hb] at h;simp only[a b k hb];exact h
 ·exact h
 ·cases h
theorem Qap (a:YU H G){b:Nat}{p:jVj×List (Nat×Blk)}(h:ji H b=some p):ji G b=some p:=by
 unfold ji at h ⊢;cases hb:look H b with
 | none=>rw[hb] at h;cases h
 | some k=>rw[hb] at h;simp only[a b k hb];exact h
theorem zT (a:YU H G){m:AV}{p:Nat×It×Nat}(h:kU H m=some p):kU G m=some p:=by
 unfold kU at h ⊢;split at h;case h_2=>cases h
 rename_i b v;cases hb:look H b with
 | none=>rw[hb] at h;cases h
 | some k=>rw[hb] at h;simp only[a b k hb];exact h
theorem Ez (d:YU H G){t:TypeId}{m k x:AV}{r:R}(h:UJ cx sym orc H t m k x=some r):UJ cx sym orc G t m k x=some r:=by
 unfold UJ at h ⊢;split at h;case h_2=>cases h
 rename_i e b a c;simp only[e,kT d b,a,c];exact h
theorem QcH (c:YU H G){t:TypeId}{m k:AV}{ok:Bool}{r:R}(h:zg cx sym orc H t m k ok=some r):zg cx sym orc G t m k ok=some r:=by
 unfold zg at h ⊢;split at h;case h_2=>cases h
 rename_i d b a;simp only[d,QdY c b,a];exact h
theorem ya (a:YU H G){x:AV}(h:jR H x=true):jR G x=true:=by
 cases x with
 | ptr b ver sz i off =>
  simp only[jR] at h ⊢;cases hb:look H b with
  | none=>rw[hb] at h;cases h
  | some k=>rw[hb] at h;rw[a b k hb];exact h
 | dptr _ _=>rfl
 | _=>cases h
theorem Qcd (b:YU H G){c:BinOp}{t:TypeId}{x:AV}{y:Operand}{q:D×List Prop}(h:Uh H cx c t x y=some q):Uh G cx c t x y=some q:=by
 unfold Uh at h ⊢;split at h
 ·rename_i a hp;rw[a,ya b hp];exact h
 ·rename_i a hp;rw[a,ya b hp];exact h
 ·cases h
theorem QeD {b:BinOp}{t:TypeId}{x:AV}{y:Operand}{q:D×List Prop}(h:E5 cx b t x y=some q):Uh G cx b t x y=none:=by
 unfold E5 at h;split at h
 ·rename_i a;unfold Uh;rw[a]
 ·rename_i a;unfold Uh;rw[a]
 ·rename_i a;unfold Uh;rw[a]
 ·cases h
theorem Qcb (b:YU H G){a:BinOp}{t:TypeId}{x:AV}{y:Operand}{r:R}(h:(match Uh H cx a t x y with
      | some (r,ob)=>some ({ val:=.d r,up:=[],ob,orc }:R)
      | none=>match E5 cx a t x y with
        | some (r,ob)=>some { val:=.d r,up:=[],ob,orc }
        | none=>none)=some r):(match Uh G cx a t x y with
      | some (r,ob)=>some ({ val:=.d r,up:=[],ob,orc }:R)
      | none=>match E5 cx a t x y with
        | some (r,ob)=>some { val:=.d r,up:=[],ob,orc }
        | none=>none)=some r:=by
  cases hq:Uh H cx a t x y with
  | some q=>rw[hq] at h;rw[Qcd b hq];exact h
  | none =>
    rw[hq] at h;cases hz:E5 cx a t x y with
    | none=>rw[hz] at h;cases h
    | some z=>rw[hz] at h;rw[QeD hz];exact h
theorem Qiz (d:YU H G){name:Nat}(E:look G name=none){o:Oper}{r:R}(h:aop cx sym orc H name ev o=some r):aop cx sym orc G name ev o=some r:=by
 cases hop:o.op with
 | alloc j =>
  simp only[aop,hop] at h ⊢;cases h8:Qju orc with
  | some r8 =>
   simp only[h8] at h ⊢;split at h;case h_2=>cases h
   rename_i z T _;simp only[T,E];exact h
  | none =>
  simp only[h8] at h ⊢;split at h;case h_2=>cases h
  rename_i z T _;simp only[T,E];exact h
 | box j x =>
  simp only[aop,hop] at h ⊢;split at h;case h_2=>cases h
  rename_i cs U _;simp only[U,E];exact h
 | buildSlice t len parts =>
  simp only[aop,hop] at h ⊢;cases hlt:cx.Lt t len with
  | true =>
   simp only[hlt] at h ⊢;unfold Qb4 at h ⊢;split at h;case h_2=>cases h
   rename_i j u _;simp only[u,E];split at h;case h_2=>cases h
   split at h;case h_2=>cases h
   rename_i es M;obtain⟨J,L⟩:=KV d _ _ _ _ M;simp only[J];exact h
  | false =>
  simp only[hlt] at h ⊢;cases hpe:K5 0 (parts.toList.map fun p=>(p.1,ev p.2)) with
  | none =>
   simp only[hpe] at h ⊢;split at h;case h_2=>cases h
   split at h;case h_2=>cases h
   split at h;case h_2=>cases h
   rename_i es O M;obtain⟨J,L⟩:=KV d _ _ _ _ M;simp only[J];rw[Vu d O L];exact h
  | some l=>cases l with
   | nil =>
   simp only[hpe] at h ⊢;split at h;case h_2=>cases h
   split at h;case h_2=>cases h
   split at h;case h_2=>cases h
   rename_i es O M;obtain⟨J,L⟩:=KV d _ _ _ _ M;simp only[J];rw[Vu d O L];exact h
   | cons x xs =>
    simp only[hpe] at h ⊢;unfold Qb6 at h ⊢;split at h;case h_2=>cases h
    rename_i j u _;simp only[u,E];exact h
 | load t a =>
  simp only[aop,hop] at h ⊢;split at h
  ·rename_i s g b ver sz i off C V e;split at h;case h_2=>cases h
   rename_i x ob o' Q;simp only[C,V,QiJ d e Q,Qcz d Q];exact h
  ·rename_i s g x off C V e;simp only[C,V,Qhi d e];exact h
  ·cases h
 | store t a x=>simp only[aop,hop] at h ⊢;exact Qeh d h
 | nilCheck x =>
  simp only[aop,hop] at h ⊢;split at h
  ·rename_i b v s i f e;split at h;case h_2=>cases h
   rename_i hc;simp only[e,Xw d hc];exact h
  ·exact h
  ·exact h
  ·exact h
  ·cases h
 | makeSlice t l c =>
  simp only[aop,hop] at h ⊢;split at h;case h_2=>cases h
  rename_i j kn n km m u el ec a1;simp only[u,el,ec,E];exact h
 | slice t x lo hi mx =>
  simp only[aop,hop] at h ⊢;split at h
  ·rename_i b ver sz i off a0;have Z:∀p,ji H b=some p->J3 cx G orc t b ver sz i off (lo.isNone&&hi.isNone&&mx.isNone)=J3 cx H orc t b ver sz i off (lo.isNone&&hi.isNone&&mx.isNone):=by intro p hp;unfold J3;rw[hp,Qap d hp]
   unfold uh at h ⊢;split at h
   ·rename_i q A;have hp:∃p,ji H b=some p:=by
     unfold J3 at A;split at A;case h_2=>cases A
     rename_i K u;exact⟨_,K⟩
    obtain⟨p,hp⟩:=hp;rw[Z p hp,A];exact h
   ·rename_i A;unfold QbV at h ⊢;split at h;case h_2=>cases h
    rename_i W K u;rw[Z _ K,A];simp only[W,Qap d K,u];exact h
  ·cases A:Um cx sym orc H t (ev x) (lo.map ev) (hi.map ev) (mx.map ev) with
   | some q =>
    rw[A] at h;rw[QcD d A];exact h
   | none =>
    rw[A] at h;simp only at h;cases hq2:yD cx sym orc H t (ev x) (lo.map ev) (hi.map ev) (mx.map ev) with
    | some q2 =>
     rw[hq2] at h;rw[QaS d A hq2,Qg5 d hq2];exact h
    | none =>
     rw[hq2] at h;simp only at h;rw[QcC d A h,Qg4 d hq2 h];exact Qei d h
 | sliceToArrayPointer t x =>
  simp only[aop,hop] at h ⊢;unfold aarr at h ⊢;split at h;case h_2=>cases h
  rename_i n j full sz es O u hd;obtain⟨J,L⟩:=Kv d _ _ _ hd;simp only[u,J];rw[Vu d O L];exact h
 | fieldAddr s x f =>
  simp only[aop,hop] at h ⊢;split at h;case h_2=>cases h
  split at h;case h_2=>cases h
  split at h
  ·rename_i b v sz i off T e;split at h;case h_2=>cases h
   rename_i hc;simp only[T,e,Xw d hc];exact h
  ·exact h
  ·cases h
 | indexAddr t x ix =>
  simp only[aop,hop] at h ⊢;split at h;case h_2=>cases h
  exact yE d h
 | call c =>
  obtain⟨F,Y,ats⟩:=c;cases F with
  | builtin b =>
   simp only[aop,hop] at h ⊢;exact QaT d E h (fun x v J L=>(QdZ L).1 J)
  | _=>simp only[aop,hop] at h;cases h
 | makeMap t q =>
  simp only[aop,hop] at h ⊢;split at h;case h_2=>cases h
  simp only[E];exact h
 | mapUpdate t m k x=>simp only[aop,hop] at h ⊢;exact Ez d h
 | insert t m k x=>simp only[aop,hop] at h ⊢;exact Ez d h
 | lookup t m k ok=>simp only[aop,hop] at h ⊢;exact QcH d h
 | range t x =>
  simp only[aop,hop] at h ⊢;unfold QcE at h ⊢;split at h
  ·rename_i u N M;simp only[u,N,E];exact h
  ·rename_i u N M;split at h;case h_2=>cases h
   rename_i X;simp only[u,N,E,kT d X];exact h
  ·cases h
 | next x isS =>
  simp only[aop,hop] at h ⊢;cases isS with
  | false =>
   simp only at h ⊢;unfold QcG at h ⊢;split at h;case h_2=>cases h
   rename_i S;rw[zT d S];exact h
  | true =>
   simp only at h ⊢;unfold Qf6 at h ⊢;split at h;case h_2=>cases h
   rename_i S;rw[zT d S];exact h
 | entry x =>
  simp only[aop,hop] at h ⊢;unfold yR at h ⊢;split at h;case h_2=>cases h
  rename_i S;rw[zT d S];exact h
 | binOp op t x y yt =>
  simp only[aop,hop] at h ⊢;cases h6:Qjw orc with
  | some r6=>simp only[h6] at h ⊢;exact h
  | none =>
  cases h7:QfJ op (ev x) (ev y) orc with
  | some q7=>simp only[h6,h7] at h ⊢;exact h
  | none =>
  simp only[h6,h7] at h ⊢;cases ha:(ev x).toV<;>cases hb:(ev y).toV<;>simp only[ha,hb] at h ⊢<;>first|exact h|skip
  all_goals exact Qcb d h
 | convert s t x =>
  simp only[aop,hop] at h ⊢;cases h6:Qjv orc with
  | some r6=>simp only[h6] at h ⊢;exact h
  | none =>
  cases h7:QfI cx s t (ev x) orc with
  | some q7=>simp only[h6,h7] at h ⊢;exact h
  | none =>
  simp only[h6,h7] at h ⊢;cases ha:(ev x).toV with
  | some a=>rw[ha] at h;exact h
  | none =>
   rw[ha] at h;simp only at h ⊢;unfold QcM at h ⊢;split at h;case h_2=>cases h
   rename_i e ds O C ht P;simp only[C,ht,(qB d P).1];exact h
 | _=>simp only[aop,hop] at h ⊢;exact h
end
theorem QfB {x:AV}{b:Nat}(h:ptrB x=some b):∃v s i o,x=.ptr b v s i o:=by cases x<;>first|(cases h;exact⟨_,_,_,_,rfl⟩)|cases h
theorem QiA {cx:Cx}{H G:List (Nat×Blk)}{sym:Bool}{orc:List Orc}{ev:Operand->AV}{name b:Nat}{o:Oper}{r:R}(g:qA ev o=some b)(hc:∀v,El H b v=true->El G b v=true)(h:aop cx sym orc H name ev o=some r):aop cx sym orc G name ev o=some r:=by
 unfold qA at g;split at g
 ·rename_i s x f d;obtain⟨v,s',i,off,p⟩:=QfB g;simp only[aop,d,p] at h ⊢;split at h;case h_2=>cases h
  rename_i F m;split at h;case h_2=>cases h
  rename_i n C;split at h
  ·rename_i l e;cases e;split at h;case h_2=>cases h
   rename_i c;simp only[m,C,l,hc _ c];exact h
  ·rename_i l e;cases e
  ·cases h
 ·rename_i t x K d;obtain⟨v,s',i,off,p⟩:=QfB g;simp only[aop,d,p] at h ⊢;split at h;case h_2=>cases h
  rename_i k j A;have z:∀{u:List Orc} {j:Int} {q:R},VT cx sym u H t (.ptr b v s' i off) j=some q->VT cx sym u G t (.ptr b v s' i off) j=some q:=by
   intro u j q a;unfold VT at a ⊢;split at a
   ·rename_i len y J;split at a;case h_2=>cases a
    rename_i l e;simp only at a ⊢;split at a;case h_2=>cases a
    rename_i c;simp only[l,e,hc _ c];exact a
   ·split at a
    ·cases a
    ·simp only at a;cases a
   ·cases a
  unfold UK at h ⊢;split at h
  ·rename_i L M;split at h;case h_2=>cases h
   rename_i q a;rw[z a];exact h
  ·rename_i E;exact z h
 ·cases g
section
variable {cx:Cx}{H G:List (Nat×Blk)}{sym:Bool}{orc:List Orc}{ev ev' : Operand->AV}
theorem Qg9 {o:Oper}(h:∀x,x∈o.op.operands.toList->ev x=ev' x){name:Nat}:aop cx sym orc H name ev o=aop cx sym orc H name ev' o:=by
 have r:∀(l:List Operand),(∀x,x∈l->x∈o.op.operands.toList)->l.map ev=l.map ev':=fun l v=>List.map_congr_left fun x e=>h x (v x e);cases hop:o.op with
 | move x=>simp only[aop,hop];rw[h x (by simp[hop,Op.operands])]
 | assign x=>simp only[aop,hop];rw[h x (by simp[hop,Op.operands])]
 | pick c a b=>simp only[aop,hop];rw[h c (by simp[hop,Op.operands]),h a (by simp[hop,Op.operands]),h b (by simp[hop,Op.operands])]
 | box t x=>simp only[aop,hop];rw[h x (by simp[hop,Op.operands])]
 | build t parts =>
  simp only[aop,hop];have:(parts.toList.map fun p=>(p.1,ev p.2))=(parts.toList.map fun p=>(p.1,ev' p.2)):=List.map_congr_left fun p hp=>by rw[h p.2 (by simp only[hop,Op.operands,List.mem_map];exact⟨p,hp,rfl⟩)]
  rw[this]
 | buildSlice t n parts =>
  simp only[aop,hop];have:(parts.toList.map fun p=>(p.1,ev p.2))=(parts.toList.map fun p=>(p.1,ev' p.2)):=List.map_congr_left fun p hp=>by rw[h p.2 (by simp only[hop,Op.operands,List.mem_map];exact⟨p,hp,rfl⟩)]
  rw[this]
 | load t a=>simp only[aop,hop];rw[h a (by simp[hop,Op.operands])]
 | store t a x=>simp only[aop,hop];rw[h a (by simp[hop,Op.operands]),h x (by simp[hop,Op.operands])]
 | nilCheck x=>simp only[aop,hop];rw[h x (by simp[hop,Op.operands])]
 | binOp op t x y yt=>simp only[aop,hop];rw[h x (by simp[hop,Op.operands]),h y (by simp[hop,Op.operands])]
 | unOp op t x=>simp only[aop,hop];rw[h x (by simp[hop,Op.operands])]
 | convert s t x=>simp only[aop,hop];rw[h x (by simp[hop,Op.operands])]
 | makeFunc f first cap =>
  simp only[aop,hop];rw[r first.toList (fun x e=>by simp[hop,Op.operands];left;simpa using e),r cap.toList (fun x e=>by simp[hop,Op.operands];right;simpa using e)]
 | makeSlice t l c=>simp only[aop,hop];rw[h l (by simp[hop,Op.operands]),h c (by simp[hop,Op.operands])]
 | slice t x lo hi mx =>
  simp only[aop,hop];have u:∀q:Option Operand,(∀x,q=some x->x∈o.op.operands.toList)->q.map ev=q.map ev':=fun q z=>by
   cases q with
   | none=>rfl
   | some x=>simp only[Option.map_some];rw[h x (z x rfl)]
  rw[h x (by simp[hop,Op.operands]),u lo (fun y j=>by subst j;simp[hop,Op.operands]),u hi (fun y j=>by subst j;simp[hop,Op.operands]),u mx (fun y j=>by subst j;simp[hop,Op.operands])]
 | sliceToArrayPointer t x=>simp only[aop,hop];rw[h x (by simp[hop,Op.operands])]
 | fieldAddr s x f=>simp only[aop,hop];rw[h x (by simp[hop,Op.operands])]
 | field s x f=>simp only[aop,hop];rw[h x (by simp[hop,Op.operands])]
 | indexAddr t x ix=>simp only[aop,hop];rw[h x (by simp[hop,Op.operands]),h ix (by simp[hop,Op.operands])]
 | index t x ix=>simp only[aop,hop];rw[h x (by simp[hop,Op.operands]),h ix (by simp[hop,Op.operands])]
 | extract x i=>simp only[aop,hop];rw[h x (by simp[hop,Op.operands])]
 | mapUpdate t m k x=>simp only[aop,hop];rw[h m (by simp[hop,Op.operands]),h k (by simp[hop,Op.operands]),h x (by simp[hop,Op.operands])]
 | insert t m k x=>simp only[aop,hop];rw[h m (by simp[hop,Op.operands]),h k (by simp[hop,Op.operands]),h x (by simp[hop,Op.operands])]
 | lookup t m k ok=>simp only[aop,hop];rw[h m (by simp[hop,Op.operands]),h k (by simp[hop,Op.operands])]
 | range t x=>simp only[aop,hop];rw[h x (by simp[hop,Op.operands])]
 | next x isS=>simp only[aop,hop];rw[h x (by simp[hop,Op.operands])]
 | entry x=>simp only[aop,hop];rw[h x (by simp[hop,Op.operands])]
 | call c =>
  obtain⟨d,g,ats⟩:=c;cases d with
  | builtin b =>
   simp only[aop,hop];rw[r g.toList (fun x e=>by simp[hop,Op.operands,Call.operands];simpa using e)]
  | _=>simp only[aop,hop]
 | _=>simp only[aop,hop]
theorem zZ {p q:Rec->Bool}{tm:List (Nat×AV)}{t:Nat}:∀(recs:List Rec),(∀r,r∈recs->r.dst=some t->p r=q r)->look (YL (recs.filter p)++tm) t=look (YL (recs.filter q)++tm) t
 | [],_=>rfl
 | r::l,h=>by
  have d:=zZ (p:=p) (q:=q) (tm:=tm) (t:=t) l (fun i c=>h i (jmj _ c));have hc:∀(f:Rec->Bool),(r::l).filter f=if f r then r::l.filter f else l.filter f:=fun f=>by simp[List.filter_cons]
  by_cases b:r.dst=some t
  ·have:=h r jMj b;rw[hc,hc,this];split
   ·simp only[YL,b,List.cons_append,Qf]
   ·exact d
  ·have a:∀f:Rec->Bool,look (YL ((r::l).filter f)++tm) t=look (YL (l.filter f)++tm) t:=by
    intro f;rw[hc];split
    ·simp only[YL];split
     ·rename_i u g;rw[List.cons_append,Qc];intro e;subst e;exact b g
     ·rfl
    ·rfl
   rw[a,a,d]
theorem KA {p q:Rec->Bool}{hp:List (Nat×Blk)}{b:Nat}:∀(recs:List Rec),(∀r,r∈recs->look r.up b≠none->p r=q r)->look (WR (recs.filter p)++hp) b=look (WR (recs.filter q)++hp) b
 | [],_=>rfl
 | r::l,h=>by
  have d:=KA (p:=p) (q:=q) (hp:=hp) (b:=b) l (fun e c=>h e (jmj _ c));have hc:∀(f:Rec->Bool),(r::l).filter f=if f r then r::l.filter f else l.filter f:=fun f=>by simp[List.filter_cons]
  cases hu:look r.up b with
  | some k =>
   have:=h r jMj (by rw[hu];simp);rw[hc,hc,this];split
   ·simp only[WR,List.append_assoc];rw[WH r.up,WH r.up,hu]
   ·exact d
  | none =>
   have a:∀f:Rec->Bool,look (WR ((r::l).filter f)++hp) b=look (WR (l.filter f)++hp) b:=by
    intro f;rw[hc];split
    ·simp only[WR,List.append_assoc];rw[WH,hu]
    ·rfl
   rw[a,a,d]
theorem YM {p:Rec->Bool}{hp:List (Nat×Blk)}{b:Nat}{k:Blk}:∀(recs:List Rec),look (WR (recs.filter p)++hp) b=some k->(∃r,r∈recs/\p r=true/\look r.up b≠none)\/look hp b=some k
 | [],h=>.inr h
 | r::l,h=>by
  rw[List.filter_cons] at h;split at h
  ·rename_i e;simp only[WR,List.append_assoc] at h;rw[WH] at h;cases hu:look r.up b with
   | some g=>exact .inl ⟨r,jMj,e,by rw[hu];simp⟩
   | none =>
    rw[hu] at h;obtain⟨f,a,c,d⟩|h:=YM l h
    ·exact .inl ⟨f,jmj _ a,c,d⟩
    ·exact .inr h
  ·obtain⟨f,a,c,d⟩|h:=YM l h
   ·exact .inl ⟨f,jmj _ a,c,d⟩
   ·exact .inr h
theorem U2 (a:Nat):∀(recs:List Rec),Jo a recs=recs.filter fun r=>a.testBit r.i
 | []=>rfl
 | r::l=>by simp only[Jo,List.filter_cons];rw[U2 a l];cases a.testBit r.i<;>rfl
end
theorem Ea {p:Rec->Bool}{hp:List (Nat×Blk)}{b:Nat}{R:Rec}{k:Blk}(d:look R.up b=some k)(a:p R=true):∀(recs:List Rec),recs.Pairwise (fun x y=>y.i<x.i)->R∈recs ->
  (∀r,r∈recs->p r=true->look r.up b≠none->r.i<=R.i)->look (WR (recs.filter p)++hp) b=some k
 | [],_,h,_=>by simp at h
 | r::l,hs,h,hno=>by
  rw[List.filter_cons];rw[List.pairwise_cons] at hs;by_cases f:r=R
  ·subst f;rw[jTj a];simp only[WR,List.append_assoc];rw[WH,d]
  ·have e:R∈l:=by simpa[Ne.symm f] using h
   have m:=hs.1 R e;have g:=Ea (hp:=hp) d a l hs.2 e (fun n j=>hno n (jmj _ j));split
   ·rename_i c;simp only[WR,List.append_assoc];rw[WH];cases hu:look r.up b with
    | none=>exact g
    | some k' =>
     have:=hno r jMj c (by rw[hu];simp);omega
   ·exact g
theorem kY {p:Rec->Bool}{tm:List (Nat×AV)}{t:Nat}{R:Rec}(d:R.dst=some t)(a:p R=true):∀(recs:List Rec),recs.Pairwise (fun x y=>y.i<x.i)->R∈recs ->
  (∀r,r∈recs->p r=true->r.dst=some t->r.i<=R.i)->look (YL (recs.filter p)++tm) t=some R.val
 | [],_,h,_=>by simp at h
 | r::l,hs,h,hno=>by
  rw[List.filter_cons];rw[List.pairwise_cons] at hs;by_cases g:r=R
  ·subst g;rw[jTj a];simp only[YL,d,List.cons_append,Qf]
  ·have f:R∈l:=by simpa[Ne.symm g] using h
   have k:=hs.1 R f;have c:=kY (tm:=tm) d a l hs.2 f (fun n j=>hno n (jmj _ j));split
   ·rename_i b;simp only[YL];split
    ·rename_i u m;rw[List.cons_append,Qc]
     ·exact c
     ·intro e;subst e;have:=hno r jMj b m;omega
    ·exact c
   ·exact c
theorem V9 {hp:List (Nat×Blk)}{b:Nat}:Vo hp b=true↔look hp b≠none:=by unfold Vo;cases look hp b<;>simp
theorem Gd {d:Type}{l:List (Nat×d)}{b:Nat}(h:look l b≠none):∃x,(b,x)∈l:=by
 induction l with
 | nil=>exact absurd rfl h
 | cons p l ih =>
  obtain⟨k,x⟩:=p;by_cases a:k=b
  ·subst a;exact⟨x,jMj⟩
  ·rw[Qc _ _ a] at h;obtain⟨y,c⟩:=ih h;exact⟨y,jmj _ c⟩
structure DOk (ops:Array Oper) (masks:List Nat) (base:Nat) (s:St) (recs:List Rec):Prop where
 spec:∀(j:Nat) (o:Oper),nth ops.toList j=some o->Vq masks j=QeL masks o j/\(∀e,e∈o.after.toList->Region.binds .any e=true->e.on<j)
 trans:∀j,j<ops.toList.length->∀i,i<j->(Vq masks j).testBit i=true->∀q,(Vq masks i).testBit q=true->(Vq masks j).testBit q=true
 tmps:∀i j,i<ops.toList.length->j<ops.toList.length->JK ops masks i j=true
 blks:∀r q,r∈recs->q∈recs->G1 ops masks base r q=true
 names:∀r,r∈recs->∀b,look r.up b≠none->(b=base+r.i/\look s.hp b=none)\/(b≠base+r.i/\(look s.hp b≠none\/(∃i,i<r.i/\b=base+i/\ZZ masks i r.i=true)\/base+ops.toList.length<=b))
 free:∀i,i<ops.toList.length->look s.hp (base+i)=none
 touch:∀r,r∈recs->JI base r=true->Uc ops r.i=true
 dst:∀r,r∈recs->∀d,r.dst=some d->d<s.nt
 pivs:∀r,r∈recs->r.piv=true->∀q,q∈recs->q.i=r.i\/ZZ masks q.i r.i=true\/ZZ masks r.i q.i=true\/q.up=[]
theorem Qd3 {ops:Array Oper}{masks:List Nat}{base:Nat}{s:St}{recs:List Rec}(h:Qct ops masks base s recs=true):DOk ops masks base s recs:=by
 simp only[Qct,jAj] at h;obtain⟨⟨⟨⟨⟨⟨⟨⟨K,A⟩,C⟩,G⟩,L⟩,g⟩,M⟩,N⟩,v⟩:=h;have O:∀j,j<ops.toList.length->∃o,nth ops.toList j=some o/\Vq masks j=QeL masks o j/\(∀e,e∈o.after.toList->Region.binds .any e=true->e.on<j) /\
   ∀i,i<j->(Vq masks j).testBit i=true->(Vq masks i &&& Vq masks j)=Vq masks i:=by
  intro j n;simp only[QfN,List.all_eq_true,List.mem_range] at A;have:=A j n;split at this
  ·rename_i o z;simp only[jAj,List.all_eq_true,List.mem_range] at this;refine⟨o,z,Z1 this.1.1,fun e u m=>?_,fun i f m=>?_⟩
   ·have:=this.1.2 e u;rw[m] at this;simpa using this
   ·have:=this.2 i f;rw[m] at this;simpa using this
  ·cases this
 refine⟨fun j o z=>?_,fun j n i f m q t=>?_,fun i j f n=>?_,fun r q c t=>?_,fun r c b m=>?_,fun i f=>?_,fun r c S=>?_,fun r c d P=>?_,fun r c hp q t=>?_⟩
 ·have n:j<ops.toList.length:=by rw[ZY] at z;exact(jGj z).1
  obtain⟨o',p,K,A,_⟩:=O j n;rw[z] at p;cases p;exact⟨K,A⟩
 ·obtain⟨o',p,_,_,C⟩:=O j n;have:=C i f m;rw[<-this,Nat.testBit_and,jAj] at t;exact t.2
 ·simp only[List.all_eq_true,List.mem_range] at C;exact C i f j n
 ·simp only[List.all_eq_true,Bool.or_eq_true,Bool.not_eq_true'] at G;obtain h|h:=G r c
  ·obtain E|E:=G q t
   ·simp[G1,h,E]
   ·have:=E r c;unfold G1 at this ⊢;simp only[Bool.or_eq_true,jAj] at this ⊢;obtain((a|a)|a)|a:=this
    ·exact .inl (.inl (.inr a))
    ·exact .inl (.inl (.inl a))
    ·exact .inl (.inr (by have:=jqj a;rw[this];exact Nat.beq_refl _))
    ·exact .inr ⟨a.2,a.1⟩
  ·exact h q t
 ·simp only[List.all_eq_true] at L;obtain⟨k,Q⟩:=Gd m;have:=L r c _ Q;simp only at this;split at this
  ·rename_i u;refine .inl ⟨Z1 u,?_⟩;simp only[Bool.not_eq_true'] at this;cases hl:look s.hp b with
   | none=>rfl
   | some x=>simp[Vo,hl] at this
  ·rename_i u;refine .inr ⟨fun e=>(by rw[<-e,Nat.beq_refl] at u;cases u),?_⟩;simp only[Bool.or_eq_true,List.any_eq_true,List.mem_range,jAj] at this;obtain(h|⟨i,f,H,J⟩)|h:=this
   ·exact .inl (V9.1 h)
   ·exact .inr (.inl ⟨i,f,Z1 H,J⟩)
   ·exact .inr (.inr (Nat.le_of_ble_eq_true h.2))
 ·rw[Bool.or_eq_true] at g;obtain g|g:=g
  ·cases hl:look s.hp (base+i) with
   | none=>rfl
   | some x =>
    obtain⟨y,T⟩:=Gd (l:=s.hp) (b:=base+i) (by rw[hl];simp);simp only[YG,List.all_eq_true] at g;have:=g _ T;simp only[Nat.blt_eq] at this;omega
  ·simp only[List.all_eq_true,List.mem_range] at g;have:=g i f;simp only[Bool.not_eq_true'] at this;cases hl:look s.hp (base+i) with
   | none=>rfl
   | some x=>simp[Vo,hl] at this
 ·simp only[List.all_eq_true] at M;have:=M r c;rw[S] at this;simpa using this
 ·simp only[List.all_eq_true] at N;have:=N r c;rw[P] at this;simpa using this
 ·simp only[List.all_eq_true] at v;have:=v r c;simp only[hp,Bool.not_true,Bool.false_or,List.all_eq_true,Bool.or_eq_true] at this;obtain((h|h)|h)|h:=this q t
  ·exact .inl (Z1 h)
  ·exact .inr (.inl h)
  ·exact .inr (.inr (.inl h))
  ·exact .inr (.inr (.inr (List.isEmpty_iff.1 h)))
theorem Q3 {masks:List Nat}{i j:Nat}:ZZ masks i j=(Vq masks j).testBit i:=by unfold ZZ Vq;cases nth masks j<;>simp
theorem we (masks:List Nat)(j:Nat)(i:Nat):∀(l:List Edge) (m:Nat),(l.foldl (fun s e=>match Region.binds .any e&&Nat.blt e.on j with
  | true=>s ||| (2 ^ e.on ||| (match nth masks e.on with|some m=>m|none=>0))
  | false=>s) m).testBit i=true->m.testBit i=true\/∃e,e∈l/\Region.binds .any e=true/\e.on<j/\(e.on=i\/(Vq masks e.on).testBit i=true)
 | [],m,h=>.inl h
 | e::l,m,h=>by
  simp only[List.foldl_cons] at h;obtain h|⟨a,b,c⟩:=we masks j i l _ h
  ·split at h
   ·rename_i hc;simp only[jAj] at hc;rw[Nat.testBit_or,Nat.testBit_or] at h;simp only[Bool.or_eq_true] at h;obtain h|h|h:=h
    ·exact .inl h
    ·rw[Nat.testBit_two_pow] at h;exact .inr ⟨e,jMj,hc.1,by simpa using hc.2,.inl (of_decide_eq_true h)⟩
    ·exact .inr ⟨e,jMj,hc.1,by simpa using hc.2,.inr h⟩
   ·exact .inl h
  ·exact .inr ⟨a,jmj _ b,c⟩
theorem U5 {ops:Array Oper}{masks:List Nat}{base:Nat}{s:St}{recs:List Rec}(d:DOk ops masks base s recs):∀(j:Nat),j<ops.toList.length->∀i,(Vq masks j).testBit i=true->i<j:=by
 intro j;induction j using Nat.strongRecOn with
 | _ j k =>
  intro f i b;obtain⟨o,g⟩:∃o,nth ops.toList j=some o:=⟨ops.toList[j],by rw[ZY];simp[f]⟩
  rw[(d.spec j o g).1] at b;obtain h|⟨e,_,_,c,a⟩:=we masks j i _ 0 b
  ·simp at h
  ·obtain a|a:=a
   ·omega
   ·have:=k e.on c (by omega) i a;omega
theorem QeK {ops:Array Oper}{masks:List Nat}{base:Nat}{s:St}{recs:List Rec}(k:DOk ops masks base s recs){S:Nat->Bool}(b:∀j,S j=true->∀i,ZZ masks i j=true->S i=true){j:Nat}{o:Oper}
  (l:nth ops.toList j=some o) (g:∀e,e∈o.after.toList->Region.binds .any e=true->S e.on=true):∀i,ZZ masks i j=true->S i=true:=by
 intro i f;rw[Q3,(k.spec j o l).1] at f;obtain h|⟨e,c,d,m,a⟩:=we masks j i _ 0 f
 ·simp at h
 ·obtain a|a:=a
  ·rw[<-a];exact g e c d
  ·exact b e.on (g e c d) i (by rw[Q3];exact a)
section
variable {cx:Cx}{F:Nat->Prop}{ρ0:Nat->Value}{w0:World}{ops:Array Oper}{masks:List Nat}{base:Nat}{s:St}{recs:List Rec}
def hpS (s:St)(recs:List Rec)(S:Nat->Bool):List (Nat×Blk):=WR (recs.filter fun r=>S r.i)++s.hp
def tmS (s:St)(recs:List Rec)(S:Nat->Bool):List (Nat×AV):=YL (recs.filter fun r=>S r.i)++s.tm
structure DInv (cx:Cx) (ops:Array Oper) (ds0:List Deferred) (F:Nat->Prop) (ρ0:Nat->Value) (w0:World) (masks:List Nat) (s:St) (recs:List Rec) (S:Nat->Bool) (a:Act) (w:World):Prop where
 clo:∀j,S j=true->∀i,ZZ masks i j=true->S i=true
 old:∀t x,look s.tm t=some x->(∀r,r∈recs->S r.i=true->r.dst≠some t)->VR w0 (MM F s.hp ρ0) s.hp ρ0 x (a.tmps.getD t undef)
 mov:∀r,r∈recs->S r.i=true->∀p t0 t x,nth ops.toList r.i=some p->p.op=.move (.tmp t0)->p.guard=none->p.dst=some t->(∀q,q∈recs->q.i<r.i->q.dst≠some t0)->(∀q,q∈recs->S q.i=true->q.dst=some t->q.i=r.i)->look s.tm t0=some x->VR w0 (MM F s.hp ρ0) s.hp ρ0 x (a.tmps.getD t undef)
 sim:∃ρ,HSim cx F (hpS s recs S) ρ w/\TSim F (tmS s recs S) (hpS s recs S) ρ a w/\a.tmps.size=s.nt/\a.defers=ds0/\Steps1 s.hp ρ0 w0 (hpS s recs S) ρ w
structure Recs (cx:Cx) (call:Jt) (yc:Uu) (ops:Array Oper) (masks:List Nat) (base:Nat) (s:St) (recs:List Rec) (n:Nat):Prop where
 sorted:recs.Pairwise fun x y=>y.i<x.i
 lt:∀r,r∈recs->r.i<n
 all:∀j,j<n->∃r,r∈recs/\r.i=j
 told:∀r,r∈recs->∃orc ob o',EW cx call yc ops masks base s r.i (recs.filter fun q=>Nat.blt q.i r.i) orc=some (r,ob,o')/\∀p,p∈ob->p
theorem Recs.uniq {call:Jt}{f:Uu}{n:Nat}(h:Recs cx call f ops masks base s recs n){r q:Rec}(d:r∈recs)(e:q∈recs)(g:r.i=q.i):r=q:=by
 have c:=h.sorted;clear h;induction recs with
 | nil=>simp at d
 | cons x l ih =>
  rw[List.pairwise_cons] at c;obtain rfl|b:=List.mem_cons.1 d<;>obtain rfl|a:=List.mem_cons.1 e
  ·rfl
  ·have:=c.1 q a;omega
  ·have:=c.1 r b;omega
  ·exact ih b a c.2
theorem ke {r:Rec}{t:Nat}:Qbz r t=true↔r.dst=some t:=by
 unfold Qbz;cases h:r.dst with
 | none=>simp
 | some d=>simp
theorem uw {t:Nat}:∀{l:List Rec} {r:Rec},Qcf t l=some r->r∈l/\r.dst=some t
 | [],r,h=>by cases h
 | q::l,r,h=>by
  unfold Qcf at h;cases hq:Qbz q t with
  | true =>
   rw[hq] at h;cases h;exact⟨jMj,ke.1 hq⟩
  | false =>
   rw[hq] at h;obtain⟨a,b⟩:=uw h;exact⟨jmj _ a,b⟩
theorem Jc {H:List (Nat×Blk)}{nm i:Nat}{dst:Option Tmp}{p:Nat×Blk}{a:RC}{R:Rec}{ob:List Prop}{o' : List Orc}(h:uN H nm i dst p a=some (R,ob,o')) :
  ∃b k v,R={ i,dst,val:=v,up:=[(nm,stamp k)] }/\p=(b,k)/\renF b k.ver nm a.val=some v/\ob=a.ob/\look H b=none/\jU k=true:=by
 unfold uN at h;split at h;case h_2=>cases h
 rename_i v e hc;simp only[jAj,Bool.not_eq_true'] at hc;simp only[jIj,jPj] at h;obtain⟨c,d,f⟩:=h;refine⟨p.1,p.2,v,c.symm,rfl,e,d.symm,?_,hc.1⟩;cases hl:look H p.1 with
 | none=>rfl
 | some k =>
  have:=V9.2 (show look H p.1≠none by rw[hl];simp);rw[hc.2] at this;cases this
theorem YA {call:Jt}{e:Uu}{i:Nat}{d:List Rec}{orc:List Orc}{r:Rec}{ob:List Prop}{o' : List Orc}(h:EW cx call e ops masks base s i d orc=some (r,ob,o')) :
  r.i=i/\∃o,nth ops.toList i=some o/\r.dst=o.dst:=by
 unfold EW at h;split at h;case h_2=>cases h
 rename_i o b a f;simp only at h;split at h
 ·cases h
 ·simp only[jIj,jPj] at h;obtain⟨rfl,_⟩:=h;exact⟨rfl,o,a,rfl⟩
 ·split at h
  ·split at h
   ·split at h
    ·cases h
    split at h
    ·split at h;case h_2=>cases h
     simp only[jIj,jPj] at h;obtain⟨rfl,_⟩:=h;exact⟨rfl,o,a,rfl⟩
    ·simp only[jIj,jPj] at h;obtain⟨rfl,_⟩:=h;exact⟨rfl,o,a,rfl⟩
    ·cases h
   split at h
   ·split at h;case h_2=>cases h
    split at h;case h_2=>cases h
    split at h;case h_2=>cases h
    simp only[jIj,jPj] at h;obtain⟨rfl,_⟩:=h;exact⟨rfl,o,a,rfl⟩
   split at h
   ·cases h
   split at h;case h_2=>cases h
   split at h
   ·split at h;case h_2=>cases h
    simp only[jIj,jPj] at h;obtain⟨rfl,_⟩:=h;exact⟨rfl,o,a,rfl⟩
   ·simp only[jIj,jPj] at h;obtain⟨rfl,_⟩:=h;exact⟨rfl,o,a,rfl⟩
   ·obtain⟨_,_,_,c,_⟩:=Jc h;rw[c];exact⟨rfl,o,a,rfl⟩
   ·cases h
  ·split at h
   ·simp only[jIj,jPj] at h;obtain⟨rfl,_⟩:=h;exact⟨rfl,o,a,rfl⟩
   split at h
   ·simp only[jIj,jPj] at h;obtain⟨rfl,_⟩:=h;exact⟨rfl,o,a,rfl⟩
   split at h
   ·cases h
   split at h
   ·split at h;case h_2=>cases h
    simp only[jIj,jPj] at h;obtain⟨rfl,_⟩:=h;exact⟨rfl,o,a,rfl⟩
   ·simp only[jIj,jPj] at h;obtain⟨rfl,_⟩:=h;exact⟨rfl,o,a,rfl⟩
theorem wW {call:Jt}{u:Uu}:∀(m k:Nat) (d recs:List Rec) (c ob:List Prop) (a orc:List Orc),JA cx call u ops masks base s (List.range' k m) d c a=some (recs,ob,orc)->(∀p,p∈ob->p) ->
  Recs cx call u ops masks base s d k->Recs cx call u ops masks base s recs (k+m)/\∀p,p∈c->p:=by
 intro m;induction m with
 | zero =>
  intro k d recs c ob a orc h y f;simp only[List.range'_zero,JA,jIj,jPj] at h;obtain⟨rfl,rfl,rfl⟩:=h;exact⟨f,y⟩
 | succ m ih =>
  intro k d recs c ob a orc h y f;simp only[List.range'_succ,JA] at h;split at h;case h_2=>cases h
  rename_i r t A o;obtain⟨v,_⟩:=YA o;have l:∀q,q∈d->Nat.blt q.i k=true:=fun q e=>by simpa using f.lt q e
  -- what was owed before is owed at the end
  have z:∀(m k:Nat) (d recs:List Rec) (c ob:List Prop) (a orc:List Orc),JA cx call u ops masks base s (List.range' k m) d c a=some (recs,ob,orc)->∀p,p∈c->p∈ob:=by
   intro m;induction m with
   | zero=>intro k d recs c ob a orc h p hp;simp only[List.range'_zero,JA,jIj,jPj] at h;obtain⟨_,rfl,_⟩:=h;exact hp
   | succ m ihm =>
    intro k d recs c ob a orc h p hp;simp only[List.range'_succ,JA] at h;split at h;case h_2=>cases h
    exact ihm _ _ _ _ _ _ _ h p (by simp[hp])
  have g:=fun p hp=>y p (z _ _ _ _ _ _ _ _ h p hp);have n:Recs cx call u ops masks base s (r::d) (k+1):=by
   refine⟨List.pairwise_cons.2 ⟨fun q e=>by rw[v];exact f.lt q e,f.sorted⟩,fun q e=>?_,fun j O=>?_,fun q e=>?_⟩
   ·obtain rfl|e:=List.mem_cons.1 e
    ·omega
    ·have:=f.lt q e;omega
   ·by_cases K:j=k
    ·exact⟨r,jMj,by omega⟩
    ·obtain⟨q,e,J⟩:=f.all j (by omega);exact⟨q,jmj _ e,J⟩
   ·obtain rfl|e:=List.mem_cons.1 e
    ·refine⟨a,t,A,?_,fun p hp=>g p (by simp[hp])⟩;have:((q::d).filter fun x=>Nat.blt x.i q.i)=d:=by rw[List.filter_cons,jFj (by simp[Nat.blt_eq]),List.filter_eq_self.2];intro x M;rw[v];exact l x M
     rw[this,v];exact o
    ·obtain⟨N,b,o',G,H⟩:=f.told q e;refine⟨N,b,o',?_,H⟩;have L:=f.lt q e;have:((r::d).filter fun x=>Nat.blt x.i q.i)=d.filter fun x=>Nat.blt x.i q.i:=by rw[List.filter_cons,jFj];rw[Nat.blt_eq,v];omega
     rw[this];exact G
  obtain⟨C,E⟩:=ih (k+1) (r::d) recs (t++c) ob A orc h y n;exact⟨by rw[show k+(m+1)=k+1+m from by omega];exact C,fun p hp=>E p (by simp[hp])⟩
end
section
variable {cx:Cx}{F:Nat->Prop}{ρ0:Nat->Value}{w0:World}{ops:Array Oper}{masks:List Nat}{base:Nat}{s:St}{recs:List Rec}{call:Jt}{yc:Uu}
theorem ky {a b:Nat}(h:b<=a):Nat.blt a b=false:=by
 cases hh:Nat.blt a b with
 | false=>rfl
 | true=>rw[Nat.blt_eq] at hh;omega
def ins (S:Nat->Bool)(j:Nat):Nat->Bool:=fun i=>S i || Nat.beq i j
theorem UW {r:Rec}{b:Nat}(c:look r.up b≠none)(a:b≠base+r.i):JI base r=true:=by
 obtain⟨k,d⟩:=Gd c;refine List.any_eq_true.2 ⟨_,d,?_⟩;simp only[Bool.not_eq_true'];cases h:Nat.beq b (base+r.i) with
 | false=>rfl
 | true=>exact absurd (Z1 h) a
theorem QhS {r q:Rec}{b:Nat}(h:look q.up b≠none):wI r q=true:=by
 unfold wI;split
 ·rename_i a;rw[a] at h;simp[look] at h
 ·rfl
theorem QdH {r q:Rec}{b:Nat}(c:q.adr=false)(d:look r.up b≠none)(h:∀a,q.fp=some a->a.contains b=true):wI r q=true:=by
 unfold wI;split
 ·rename_i a e _;obtain⟨x,f⟩:=Gd d;exact List.any_eq_true.2 ⟨_,f,by rw[c,h a e];rfl⟩
 ·rfl
theorem QgC {r q:Rec}{b:Nat}{k:Blk}(e:(b,k)∈r.up)(h:wI r q=false)(d:∀a,q.fp=some a->a.contains b=true):boxB k=true:=by
 unfold wI at h;split at h
 ·rename_i a c _;have:=List.any_eq_false.1 h _ e;simp only[d a c,Bool.true_and,Bool.not_eq_true,Bool.not_eq_false',jAj] at this;simpa using this.2
 ·cases h
theorem Qbf {a:Type}:∀{l:List (Nat×a)} {b:Nat} {k:a},look l b=some k->(b,k)∈l
 | [],b,k,h=>by cases h
 | (c,x)::l,b,k,h=>by
  by_cases hc:c=b
  ·subst hc;rw[Qf] at h;cases h;exact jMj
  ·rw[Qc _ _ hc] at h;exact jmj _ (Qbf h)
theorem QhX (p:Rec->Bool)(b:Nat):∀(recs:List Rec),recs.Pairwise (fun x y=>y.i<x.i)->(∀r,r∈recs->p r=true->look r.up b=none) \/
  ∃R' d,R'∈recs/\p R'=true/\look R'.up b=some d/\∀r,r∈recs->p r=true->look r.up b≠none->r.i<=R'.i
 | [],_=>.inl fun _ h=>by cases h
 | r::l,hs=>by
  rw[List.pairwise_cons] at hs;by_cases hp:p r=true/\look r.up b≠none
  ·right;cases hk:look r.up b with
   | none=>exact absurd hk hp.2
   | some d =>
    refine⟨r,d,jMj,hp.1,hk,fun q c _ _=>?_⟩;obtain rfl|c:=List.mem_cons.1 c
    ·exact jLj _
    ·exact Nat.le_of_lt (hs.1 q c)
  ·obtain h|⟨R',d,f,g,j,k⟩:=QhX p b l hs.2
   ·left;intro q c a;obtain rfl|c:=List.mem_cons.1 c
    ·cases hk:look q.up b with
     | none=>rfl
     | some d=>exact absurd ⟨a,by rw[hk];simp⟩ hp
    ·exact h q c a
   ·right;refine⟨R',d,jmj _ f,g,j,fun q c a e=>?_⟩;obtain rfl|c:=List.mem_cons.1 c
    ·exact absurd ⟨a,e⟩ hp
    ·exact k q c a e
theorem K9 (d:List Nat):∀(hp:List (Nat×Blk)) (b:Nat) (k:Blk),look (hp.filter fun p=>d.contains p.1) b=some k->d.contains b=true/\look hp b=some k
 | [],b,k,h=>by simp[look] at h
 | (c,x)::hp,b,k,h=>by
  rw[List.filter_cons] at h;by_cases a:c=b
  ·subst a;split at h
   ·rename_i hc;exact⟨hc,by rw[Qf] at h ⊢;exact h⟩
   ·rename_i hc;exact absurd (K9 d hp c k h).1 hc
  ·split at h
   ·rw[Qc _ _ a] at h ⊢;exact K9 d hp b k h
   ·rw[Qc _ _ a];exact K9 d hp b k h
theorem Qfa (l:DOk ops masks base s recs){r q:Rec}(m:r∈recs)(g:q∈recs){b:Nat}(c:look r.up b≠none)(a:look q.up b≠none)(d:r.i≠q.i)
  (e:r.i<ops.toList.length) (n:q.i<ops.toList.length) :
  ZZ masks r.i q.i=true\/ZZ masks q.i r.i=true:=by
 have j:∀r q:Rec,r∈recs->q∈recs->look r.up b≠none->look q.up b≠none->r.i≠q.i->r.i<ops.toList.length->b=base+r.i->ZZ masks r.i q.i=true:=by
  intro r q m g c a d e p;obtain⟨k,_⟩|⟨k,f|⟨i,v,f,o⟩|f⟩:=l.names q g b a
  ·omega
  ·exact absurd (p ▸ l.free r.i e) f
  ·have:i=r.i:=by omega
   rw[<-this];exact o
  ·omega
 by_cases k:b=base+r.i
 ·exact .inl (j r q m g c a d e k)
 ·by_cases f:b=base+q.i
  ·exact .inr (j q r g m a c (Ne.symm d) n f)
  ·have t:=UW c k;have u:=UW a f;have:=l.blks r q m g;simp only[G1,Bool.or_eq_true,jAj,Bool.not_eq_true',t,l.touch q g u,QhS (r:=r) a] at this;obtain((h|h)|h)|h:=this
   ·exact .inl h
   ·exact .inr h
   ·exact absurd (Z1 h) d
   ·simp at h
theorem QbA {W:List Deferred}(c:Recs cx call yc ops masks base s recs ops.toList.length)(U:DOk ops masks base s recs){S:Nat->Bool}{a:Act}{w' : World}{R:Rec}(A:R∈recs)(hS:S R.i=false)
  (l:∀j,S j=true->∀i,ZZ masks i j=true->S i=true) (a4:∀i,ZZ masks i R.i=true->S i=true) {ρ' : Nat->Value} {v:Value}
  (L:∀t x,look s.tm t=some x->(∀r,r∈recs->S r.i=true->r.dst≠some t)->VR w0 (MM F s.hp ρ0) s.hp ρ0 x (a.tmps.getD t undef))
  (a0:∀r,r∈recs->S r.i=true->∀p o t x,nth ops.toList r.i=some p->p.op=.move (.tmp o)->p.guard=none->p.dst=some t->(∀q,q∈recs->q.i<r.i->q.dst≠some o)->(∀q,q∈recs->S q.i=true->q.dst=some t->q.i=r.i)->look s.tm o=some x->VR w0 (MM F s.hp ρ0) s.hp ρ0 x (a.tmps.getD t undef))
  (b2:∀p o,nth ops.toList R.i=some p->p.op=.move (.tmp o)->p.guard=none->v=a.tmps.getD o undef)
  (hs:HSim cx F (R.up++hpS s recs S) ρ' w') (ht:TSim F (tmS s recs S) (R.up++hpS s recs S) ρ' a w') (Q:a.tmps.size=s.nt) (a9:a.defers=W) (b4:Steps1 s.hp ρ0 w0 (R.up++hpS s recs S) ρ' w')
  (hv:VR w' (MM F (R.up++hpS s recs S) ρ') (R.up++hpS s recs S) ρ' R.val v):DInv cx ops W F ρ0 w0 masks s recs (ins S R.i) (a.put R.dst v) w':=by
 have H:=U5 U;have m:=c.lt R A;have M:∀b,look (hpS s recs (ins S R.i)) b=look (R.up++hpS s recs S) b:=by
  intro b;rw[WH];cases hu:look R.up b with
  | some k =>
   simp only;refine Ea hu (by simp[ins]) recs c.sorted A fun r g hp hb=>?_;by_cases K:r.i=R.i
   ·omega
   ·have f:S r.i=true:=by
     simp only[ins,Bool.or_eq_true] at hp;obtain h|h:=hp
     ·exact h
     ·exact absurd (Z1 h) K
    obtain h|h:=Qfa U g A hb (by rw[hu];simp) K (c.lt r g) m
    ·have:=H R.i m r.i (by rw[<-Q3];exact h);omega
    ·have:=l r.i f R.i h;rw[hS] at this;cases this
  | none =>
   simp only;refine KA recs fun r g hb=>?_;have J:r≠R:=by intro e;subst e;exact hb hu
   have V:r.i≠R.i:=fun e=>J (c.uniq g A e);have:Nat.beq r.i R.i=false:=by
    cases h:Nat.beq r.i R.i with
    | false=>rfl
    | true=>exact absurd (Z1 h) V
   simp[ins,this]
 have b5:∀t,look (tmS s recs (ins S R.i)) t=if R.dst=some t then some R.val else look (tmS s recs S) t:=by
  intro t;by_cases d:R.dst=some t
  ·rw[jTj d];refine kY d (by simp[ins]) recs c.sorted A fun r g hp P=>?_;by_cases K:r.i=R.i
   ·omega
   ·have f:S r.i=true:=by
     simp only[ins,Bool.or_eq_true] at hp;obtain h|h:=hp
     ·exact h
     ·exact absurd (Z1 h) K
    have E:=U.tmps r.i R.i (c.lt r g) m;obtain⟨_,_,_,h1,_⟩:=c.told r g;obtain⟨_,x,n,b6⟩:=YA h1;obtain⟨_,_,_,h2,_⟩:=c.told R A;obtain⟨_,y,hy,T⟩:=YA h2;simp only[JK,Bool.or_eq_true] at E;obtain((h|h)|h)|h:=E
    ·have:=H R.i m r.i (by rw[<-Q3];exact h);omega
    ·have:=l r.i f R.i h;rw[hS] at this;cases this
    ·exact absurd (Z1 h) K
    ·rw[n,hy] at h;simp only[<-b6,<-T,P,d,Nat.beq_refl,Bool.not_true,Bool.and_false] at h;cases h
  ·rw[jFj d];refine zZ recs fun r g P=>?_;have J:r≠R:=by intro e;subst e;exact d P
   have V:r.i≠R.i:=fun e=>J (c.uniq g A e);have:Nat.beq r.i R.i=false:=by
    cases h:Nat.beq r.i R.i with
    | false=>rfl
    | true=>exact absurd (Z1 h) V
   simp[ins,this]
 obtain⟨g1,g2⟩:=W6 M hs;have G:∀t,R.dst≠some t->(a.put R.dst v).tmps.getD t undef=a.tmps.getD t undef:=by
  intro t d;cases hdd:R.dst with
  | none=>rfl
  | some u =>
   simp only[Act.put];rw[Array.getD_eq_getD_getElem?,Array.getElem?_setIfInBounds,jFj (by intro e;subst e;exact d hdd),<-Array.getD_eq_getD_getElem?]
 refine⟨fun j hj i V=>?_,fun t x n a1=>?_,fun r g f p o t x hp O a3 a2 a6 a7 n=>?_,ρ',g1,?_,by rw[Qdm];exact Q,by rw[UQ];exact a9,b4.trans g2⟩
 ·simp only[ins,Bool.or_eq_true] at hj ⊢;obtain h|h:=hj
  ·exact .inl (l j h i V)
  ·have:=Z1 h;subst this;exact .inl (a4 i V)
 ·rw[G t (a1 R A (by simp[ins]))];exact L t x n fun r g f=>a1 r g (by simp[ins,f])
 ·by_cases K:r.i=R.i
  ·have b3:=c.uniq g A K;subst b3;obtain⟨_,_,_,h1,_⟩:=c.told r g;obtain⟨_,y,hy,T⟩:=YA h1;rw[hp] at hy;cases hy;have d:r.dst=some t:=by rw[T];exact a2
   have N:=U.dst r g t d;have a5:(a.put r.dst v).tmps.getD t undef=v:=by rw[d];simp only[Act.put];rw[Array.getD_eq_getD_getElem?,Array.getElem?_setIfInBounds,jTj rfl,jTj (by rw[Q];exact N)];rfl
   rw[a5,b2 p o hp O a3];refine L o x n fun q hq C a8=>?_;by_cases Y:q.i<r.i
   ·exact a6 q hq Y a8
   ·have J:q.i≠r.i:=fun e=>by rw[e,hS] at C;cases C
    have E:=U.tmps q.i r.i (c.lt q hq) m;obtain⟨_,_,_,h2,_⟩:=c.told q hq;obtain⟨_,z,hz,b7⟩:=YA h2;simp only[JK,Bool.or_eq_true] at E;obtain((h|h)|h)|h:=E
    ·have:=H r.i m q.i (by rw[<-Q3];exact h);omega
    ·have:=l q.i C r.i h;rw[hS] at this;cases this
    ·exact absurd (Z1 h) J
    ·rw[hz,hp] at h;simp only[<-b7,a8,jAj,Bool.not_eq_true'] at h;have Z:(J2 p ops).contains o=true:=by rw[List.contains_iff_mem];unfold J2;refine List.mem_append_left _ (List.mem_filterMap.2 ⟨.tmp o,?_,rfl⟩);rw[O];simp[Op.operands]
     rw[Z] at h;cases h.1
  ·have X : S r.i=true:=by
    simp only[ins,Bool.or_eq_true] at f;obtain h|h:=f
    ·exact h
    ·exact absurd (Z1 h) K
   have d:R.dst≠some t:=fun h=>K (a7 R A (by simp[ins]) h).symm;rw[G t d];exact a0 r g X p o t x hp O a3 a2 a6 (fun q hq C=>a7 q hq (by simp[ins,C])) n
 ·intro t x n;rw[b5] at n;by_cases d:R.dst=some t
  ·rw[jTj d] at n;simp only[jIj] at n;subst n;have N:=U.dst R A t d;rw[d];simp only[Act.put];rw[Array.getD_eq_getD_getElem?,Array.getElem?_setIfInBounds,jTj rfl,jTj (by rw[Q];exact N)];exact g2.vr hv
  ·rw[jFj d] at n;have:(a.put R.dst v).tmps.getD t undef=a.tmps.getD t undef:=by
    cases hdd:R.dst with
    | none=>rfl
    | some u =>
     simp only[Act.put];rw[Array.getD_eq_getD_getElem?,Array.getElem?_setIfInBounds,jFj (by intro e;subst e;exact d hdd),<-Array.getD_eq_getD_getElem?]
   rw[this];exact g2.vr (ht t x n)
theorem QaD {tm a : List (Nat×AV)}{o:Oper}(h:∀t,t∈J2 o ops->look tm t=look a t):GM ops tm o=GM ops a o:=by
 unfold GM;split
 ·rfl
 ·rename_i j c e;split
  ·rfl
  ·rename_i g f;split
   ·rfl
   ·rename_i d b;rw[h d (by simp[J2,e,f,b])]
theorem ze {tm a : List (Nat×AV)}{o:Oper}(h:∀t,t∈J2 o ops->look tm t=look a t):∀x,x∈o.op.operands.toList->evA cx tm x=evA cx a x:=by
 intro x b;cases x with
 | tmp t =>
  simp only[evA];rw[h t (by simp only[J2,List.mem_append,List.mem_filterMap];exact .inl ⟨_,b,rfl⟩)]
 | _=>rfl
theorem QgH (a:Recs cx call yc ops masks base s recs ops.toList.length)(f:DOk ops masks base s recs){S:Nat->Bool}{R:Rec}(m:R∈recs)(n:S R.i=false)
  (c:∀j,S j=true->∀i,ZZ masks i j=true->S i=true) (d:∀i,ZZ masks i R.i=true->S i=true) {o:Oper} (y:nth ops.toList R.i=some o) :
  ∀t,t∈J2 o ops->look (YL (recs.filter fun q=>Nat.blt q.i R.i)++s.tm) t=look (tmS s recs S) t:=by
 intro t z;refine zZ recs fun r g k=>?_;by_cases p:r.i=R.i
 ·rw[p,n];exact ky (by omega)
 ·have b:=f.tmps r.i R.i (a.lt r g) (a.lt R m);obtain⟨_,_,_,u,_⟩:=a.told r g;obtain⟨_,x,A,l⟩:=YA u;simp only[JK,Bool.or_eq_true] at b;obtain((h|h)|h)|h:=b
  ·have:=U5 f R.i (a.lt R m) r.i (by rw[<-Q3];exact h);rw[d r.i h];simpa[Nat.blt_eq] using this
  ·have v:=U5 f r.i (a.lt r g) R.i (by rw[<-Q3];exact h);have e:S r.i=false:=by
    cases hh:S r.i with
    | false=>rfl
    | true=>have:=c r.i hh R.i h;rw[n] at this;cases this
   rw[e];exact ky (by omega)
  ·exact absurd (Z1 h) p
  ·rw[A,y] at h;simp only[<-l,k] at h;simp only[jAj,Bool.not_eq_true'] at h;have:(J2 o ops).contains t=true:=by simpa using z
   rw[this] at h;exact absurd h.1 (by simp)
theorem zI {R:Rec}{o:Oper}(a:nth ops.toList R.i=some o):Uc ops R.i=yL o:=by simp[Uc,a]
theorem Qew (f:Recs cx call yc ops masks base s recs ops.toList.length)(p:DOk ops masks base s recs){S:Nat->Bool}{R:Rec}(V:R∈recs)(W:S R.i=false)
  (y:∀j,S j=true->∀i,ZZ masks i j=true->S i=true) (z:∀i,ZZ masks i R.i=true->S i=true) {o:Oper} (ho:nth ops.toList R.i=some o) {a:Nat} (Z:nth masks R.i=some a) (v:R.adr=false) :
  YU (E1 masks s (recs.filter fun q=>Nat.blt q.i R.i) o a R.fp) (hpS s recs S):=by
 intro b k c;unfold E1 at c;split at c;case h_2=>simp[look] at c
 rename_i C;have l:(∀t,R.fp=some t->t.contains b=true)/\look (WR (Jo a (recs.filter fun q=>Nat.blt q.i R.i))++s.hp) b=some k:=by
  split at c
  ·rename_i J;exact⟨fun t h=>(by rw[J] at h;cases h),c⟩
  ·rename_i t J;obtain⟨E,u⟩:=K9 t _ b k c;exact⟨fun X h=>(by rw[J] at h;cases h;exact E),u⟩
 obtain⟨l,c⟩:=l;rw[U2,List.filter_filter] at c;have m:Vq masks R.i=a:=by simp[Vq,Z]
 rw[<-c];refine(KA recs fun r P n=>?_).symm;-- the writers of b are the same
 have a0:=f.lt r P;have g:=f.lt R V;have Q:Uc ops R.i=true:=by rw[zI ho];exact C
 by_cases hin:ZZ masks r.i R.i=true
 ·have K:=U5 p R.i g r.i (by rw[<-Q3];exact hin);rw[z r.i hin];rw[Q3,m] at hin;rw[hin];simpa[Nat.blt_eq] using K
 ·have H:S r.i=false:=by
   cases hh:S r.i with
   | false=>rfl
   | true =>
    exfalso;have G:¬ZZ masks R.i r.i=true:=fun h=>by have:=y r.i hh R.i h;rw[W] at this;cases this
    have L:r.i≠R.i:=fun e=>by rw[e,W] at hh;cases hh
    obtain⟨T,U⟩|⟨T,_⟩:=p.names r P b n
    ·-- r's own new block: whoever sees it comes behind r
     obtain⟨q,hq,A,N⟩|x:=YM recs c
     ·simp only[jAj] at A;have d:ZZ masks q.i R.i=true:=by rw[Q3,m];exact A.1
      by_cases O:q.i=r.i
      ·rw[O] at d;exact hin d
      ·obtain⟨E,_⟩|⟨E,u|⟨i,hi,u,Y⟩|u⟩:=p.names q hq b N
       ·omega
       ·exact u U
       ·have:i=r.i:=by omega
        subst this;have M:=U5 p R.i g q.i (by rw[<-Q3];exact d);have:=p.trans R.i g q.i M (by rw[<-Q3];exact d) r.i (by rw[<-Q3];exact Y);rw[<-Q3] at this;exact hin this
       ·omega
     ·rw[U] at x;cases x
    ·have w1:=UW n T;have:=p.blks r R P V;simp only[G1,Bool.or_eq_true,jAj,Bool.not_eq_true',w1,Q,QdH v n l] at this;obtain((h|h)|h)|h:=this
     ·exact hin h
     ·exact G h
     ·exact L (Z1 h)
     ·simp at h
  rw[H];have:a.testBit r.i=false:=by
   cases h:a.testBit r.i with
   | false=>rfl
   | true=>exact absurd (by rw[Q3,m];exact h) hin
  simp[this]
theorem Qex (c:Recs cx call yc ops masks base s recs ops.toList.length)(y:DOk ops masks base s recs){S:Nat->Bool}{R:Rec}(hR:R∈recs)(hS:S R.i=false)
  (G:∀j,S j=true->∀i,ZZ masks i j=true->S i=true) (H:∀i,ZZ masks i R.i=true->S i=true) {o:Oper} (ho:nth ops.toList R.i=some o) {a:Nat} (hm:nth masks R.i=some a) {b:Nat} {k:Blk}
  (f:look (E1 masks s (recs.filter fun q=>Nat.blt q.i R.i) o a R.fp) b=some k) (hk:boxB k=true):∃M,look (hpS s recs S) b=some M/\boxB M=true:=by
 unfold E1 at f;split at f;case h_2=>simp[look] at f
 rename_i L;have v:(∀z,R.fp=some z->z.contains b=true)/\look (WR (Jo a (recs.filter fun q=>Nat.blt q.i R.i))++s.hp) b=some k:=by
  split at f
  ·rename_i T;exact⟨fun z h=>(by rw[T] at h;cases h),f⟩
  ·rename_i z T;obtain⟨O,A⟩:=K9 z _ b k f;exact⟨fun a2 h=>(by rw[T] at h;cases h;exact O),A⟩
 obtain⟨v,f⟩:=v;rw[U2,List.filter_filter] at f;have x:Vq masks R.i=a:=by simp[Vq,hm]
 have u:=c.lt R hR;have a1:Uc ops R.i=true:=by rw[zI ho];exact L
 have toS:∀q:Rec,(a.testBit q.i&&Nat.blt q.i R.i)=true->S q.i=true:=fun q N=>by simp only[jAj] at N;exact H q.i (by rw[Q3,x];exact N.1)
 obtain l|⟨Q,M,C,n,m,g⟩:=QhX (fun r=>S r.i) b recs c.sorted
 ·have e1:look (WR (recs.filter fun r=>S r.i)++s.hp) b=look (WR (recs.filter fun _=>false)++s.hp) b:=KA recs fun r K d=>by
   cases h:S r.i with
   | false=>rfl
   | true=>exact absurd (l r K h) d
  have e2:look (WR (recs.filter fun q=>a.testBit q.i&&Nat.blt q.i R.i)++s.hp) b=look (WR (recs.filter fun _=>false)++s.hp) b:=KA recs fun r K d=>by
   cases h:(a.testBit r.i&&Nat.blt r.i R.i) with
   | false=>rfl
   | true=>exact absurd (l r K (toS r h)) d
  refine⟨k,?_,hk⟩;show look (WR (recs.filter fun r=>S r.i)++s.hp) b=some k;rw[e1,<-e2];exact f
 ·have hl:look (hpS s recs S) b=some M:=Ea (p:=fun r=>S r.i) m n recs c.sorted C g;refine⟨M,hl,?_⟩;by_cases hin:ZZ masks Q.i R.i=true
  ·have U:=U5 y R.i u Q.i (by rw[<-Q3];exact hin);have X:(a.testBit Q.i&&Nat.blt Q.i R.i)=true:=by rw[Q3,x] at hin;rw[hin];simpa[Nat.blt_eq] using U
   have:=Ea (p:=fun q=>a.testBit q.i&&Nat.blt q.i R.i) (hp:=s.hp) m X recs c.sorted C (fun r K hp hn=>g r K (toS r hp) hn);rw[this] at f;cases f;exact hk
  ·have P:¬ZZ masks R.i Q.i=true:=fun h=>by have:=G Q.i n R.i h;rw[hS] at this;cases this
   have W:Q.i≠R.i:=fun e=>by rw[e,hS] at n;cases n
   have d:look Q.up b≠none:=by rw[m];simp
   obtain⟨h1,h2⟩|⟨h1,_⟩:=y.names Q C b d
   ·exfalso;obtain⟨q,N,J,Z⟩|E:=YM recs f
    ·simp only[jAj] at J;have t:ZZ masks q.i R.i=true:=by rw[Q3,x];exact J.1
     by_cases a0:q.i=Q.i
     ·rw[a0] at t;exact hin t
     ·obtain⟨O,_⟩|⟨O,A|⟨i,hi,A,g3⟩|A⟩:=y.names q N b Z
      ·omega
      ·exact A h2
      ·have:i=Q.i:=by omega
       subst this;have Y:=U5 y R.i u q.i (by rw[<-Q3];exact t);have:=y.trans R.i u q.i Y (by rw[<-Q3];exact t) Q.i (by rw[<-Q3];exact g3);rw[<-Q3] at this;exact hin this
      ·have:=c.lt Q C;omega
    ·rw[h2] at E;cases E
   ·have w1:=UW d h1;have:=y.blks Q R C hR;simp only[G1,Bool.or_eq_true,jAj,Bool.not_eq_true',w1,a1] at this;obtain((h|h)|h)|h:=this
    ·exact absurd h hin
    ·exact absurd h P
    ·exact absurd (Z1 h) W
    ·have V:wI Q R=false:=by simpa using h.1
     exact QgC (Qbf m) V v
theorem QdA (a:Recs cx call yc ops masks base s recs ops.toList.length)(g:DOk ops masks base s recs){S:Nat->Bool}{R:Rec}(f:R∈recs)(l:S R.i=false)
  (b:∀j,S j=true->∀i,ZZ masks i j=true->S i=true):look (hpS s recs S) (base+R.i)=none:=by
 cases h:look (hpS s recs S) (base+R.i) with
 | none=>rfl
 | some k =>
  exfalso;obtain⟨r,p,hp,c⟩|c:=YM recs h
  ·have o:r.i≠R.i:=fun e=>by rw[e,l] at hp;cases hp
   obtain⟨m,_⟩|⟨m,d|⟨i,q,d,n⟩|d⟩:=g.names r p _ c
   ·omega
   ·exact d (g.free R.i (a.lt R f))
   ·have:i=R.i:=by omega
    subst this;have:=b r.i hp _ n;rw[l] at this;cases this
   ·have:=a.lt R f;omega
  ·rw[g.free R.i (a.lt R f)] at c;cases c
mutual
theorem VR.shrink {w:World}{M M2:Nat->Prop}{Hh hp' : List (Nat×Blk)}{ρ ρ' : Nat->Value}(hag:∀b k,look Hh b=some k->look hp' b=some k/\ρ' b=ρ b)(hM:∀r,r<w.heap.size->M2 r->M r) :
  ∀(x:AV) (y:Value),x.inH Hh=true->VR w M hp' ρ' x y->VR w M2 Hh ρ x y
 | .d x,y,_,h=>by
  cases h with
  | d _ _ h=>exact .d _ _ (h.ext (jLj _) (fun _ _ _=>rfl) hM)
 | .agg cs,y,hi,h=>by
  cases h with
  | agg _ ys hl hh=>exact .agg cs ys hl (VR.shrinks hag hM cs ys (by simpa[AV.inH] using hi) hh)
 | .tup cs,y,hi,h=>by
  cases h with
  | tup _ ys hl hh=>exact .tup cs ys hl (VR.shrinks hag hM cs ys (by simpa[AV.inH] using hi) hh)
 | .dptr x o,y,_,h=>by
  cases h with
  | dptr _ _ blk o' hd=>exact .dptr _ _ _ _ (hd.ext (jLj _) (fun _ _ _=>rfl) hM)
 | .ptr b ver sz i off,y,hi,h=>by
  cases h with
  | ptr _ _ _ _ _ k _ hb hv ho hh =>
   have hn:=V9.1 (by simpa[AV.inH] using hi:Vo Hh b=true);cases hl:look Hh b with
   | none=>exact absurd hl hn
   | some k' =>
    obtain⟨h1,h2⟩:=hag b k' hl;rw[h1] at hb;cases hb;exact .ptr b ver sz i off k y hl hv ho fun he=>by obtain⟨r,hr,hy⟩:=hh he;exact⟨r,by rw[<-h2];exact hr,hy⟩
 | .own b ver,y,hi,h=>by
  cases h with
  | own _ _ k _ hb hv ho hh =>
   have hn:=V9.1 (by simpa[AV.inH] using hi:Vo Hh b=true);cases hl:look Hh b with
   | none=>exact absurd hl hn
   | some k' =>
    obtain⟨h1,h2⟩:=hag b k' hl;rw[h1] at hb;cases hb;exact .own b ver k y hl hv ho fun he=>by rw[<-h2];exact hh he
 | .sub b ver sz lo n,y,hi,h=>by
  cases h with
  | sub _ _ _ _ _ k _ hb hv ho hh =>
   have hn:=V9.1 (by simpa[AV.inH] using hi:Vo Hh b=true);cases hl:look Hh b with
   | none=>exact absurd hl hn
   | some k' =>
    obtain⟨h1,h2⟩:=hag b k' hl;rw[h1] at hb;cases hb;exact .sub b ver sz lo n k y hl hv ho fun he=>by obtain⟨r,c,hr,hy⟩:=hh he;exact⟨r,c,by rw[<-h2];exact hr,hy⟩
 | .fn f p q,y,hi,h=>by
  cases h with
  | fn _ _ _ xs ys hl hm hh hk =>
   simp only[AV.inH,jAj] at hi;exact .fn f p q xs ys hl hm (VR.shrinks hag hM p xs hi.1 hh) (VR.shrinks hag hM q ys hi.2 hk)
 | .junk,y,_,_=>.junk y
theorem VR.shrinks {w:World}{M M2:Nat->Prop}{Hh hp' : List (Nat×Blk)}{ρ ρ' : Nat->Value}(hag:∀b k,look Hh b=some k->look hp' b=some k/\ρ' b=ρ b)(hM:∀r,r<w.heap.size->M2 r->M r) :
  ∀(cs:List AV) (ys:List Value),inHs Hh cs=true->(∀(i:Nat) (c:AV) (y:Value),cs[i]?=some c->ys[i]?=some y->VR w M hp' ρ' c y) ->
   ∀(i:Nat) (c:AV) (y:Value),cs[i]?=some c->ys[i]?=some y->VR w M2 Hh ρ c y
 | [],ys,_,_=>by intro i c y hc;simp at hc
 | x::cs,ys,hi,hh=>by
  intro i c y hc hy;simp only[inHs,jAj] at hi;cases i with
  | zero =>
   simp only[jzj,jIj] at hc;subst hc;exact VR.shrink hag hM x y hi.1 (hh 0 x y rfl hy)
  | succ i =>
   cases ys with
   | nil=>simp at hy
   | cons z ys=>exact VR.shrinks hag hM cs ys hi.2 (fun i c y hc hy=>hh (i+1) c y (by simpa using hc) (by simpa using hy)) i c y (by simpa using hc) (by simpa using hy)
end
theorem HSim.glue {H G:List (Nat×Blk)}{ρ ρ1:Nat->Value}{p l:World}(g:HSim cx F G ρ1 p)(a:∀b k,look H b=some k->look G b=some k/\ρ1 b=ρ b)
  (q : HSim cx (fun r=>F r\/(Mut G ρ1 r/\¬Mut H ρ r)) H ρ l) (C:Ext p (Mut H ρ) l):HSim cx F G ρ1 l/\Steps1 G ρ1 p G ρ1 l:=by
 have i:∀r,Mut H ρ r->Mut G ρ1 r:=by rintro r ⟨b,k,c,m,n⟩;obtain⟨e,f⟩:=a b k c;exact⟨b,k,e,m,by rw[f];exact n⟩
 have t:∀r,MM F G ρ1 r->MM (fun r=>F r\/(Mut G ρ1 r/\¬Mut H ρ r)) H ρ r:=by
  rintro r (h|h)
  ·exact .inl (.inl h)
  ·by_cases A:Mut H ρ r
   ·exact .inr A
   ·exact .inl (.inr ⟨h,A⟩)
 have u:Grows H G ρ ρ1:=⟨fun b k c=>⟨k,(a b k c).1,jLj _,fun _=>(a b k c).2⟩⟩
 have j:Steps1 G ρ1 p G ρ1 l:=⟨C.mono i,fun _ _ h=>h,Grows.refl _ _⟩
 refine⟨g.step j (fun b k c=>?_) g.inj g.forb,j⟩;cases hl:look H b with
 | some o =>
  obtain⟨e,f⟩:=a b o hl;rw[e] at c;cases c;right;exact(q.blk b k hl).ext (jLj _) (fun _ _ _=>rfl) (fun r _ h=>t r h) u f (fun _ _ _=>rfl)
 | none =>
  left;refine⟨c,rfl,fun m r n=>?_⟩;have v:=(g.blk b k c).root_lt m n;refine C.same r v ?_;rintro⟨z,o,d,x,y⟩;obtain⟨e,f⟩:=a z o d;have:=g.inj b z k o r c e m x n (by rw[f];exact y);subst this;rw[hl] at d;cases d
theorem HSim.gluE {H G:List (Nat×Blk)}{ρ ρ1:Nat->Value}{i n:World}{E:Nat->Prop}(e:HSim cx F G ρ1 i)(c:∀b k,look H b=some k->look G b=some k/\ρ1 b=ρ b)
  (q : HSim cx (fun r=>(F r\/(Mut G ρ1 r/\¬Mut H ρ r))\/E r) H ρ n) (m:Ext i (Mut H ρ) n) (M:∀r,E r->i.heap.size<=r) :
  HSim cx (fun r=>F r\/E r) G ρ1 n/\Steps1 G ρ1 i G ρ1 n:=by
 have f:∀r,Mut H ρ r->Mut G ρ1 r:=by rintro r ⟨b,k,d,l,a⟩;obtain⟨o,p⟩:=c b k d;exact⟨b,k,o,l,by rw[p];exact a⟩
 have y:∀r,MM (fun r=>F r\/E r) G ρ1 r->MM (fun r=>(F r\/(Mut G ρ1 r/\¬Mut H ρ r))\/E r) H ρ r:=by
  rintro r ((h|h)|h)
  ·exact .inl (.inl (.inl h))
  ·exact .inl (.inr h)
  ·by_cases N:Mut H ρ r
   ·exact .inr N
   ·exact .inl (.inl (.inr ⟨h,N⟩))
 have t:∀r,r<i.heap.size->MM (fun r=>F r\/E r) G ρ1 r->MM F G ρ1 r:=by
  rintro r a ((h|h)|h)
  ·exact .inl h
  ·have:=M r h;omega
  ·exact .inr h
 have z:Grows H G ρ ρ1:=⟨fun b k d=>⟨k,(c b k d).1,jLj _,fun _=>(c b k d).2⟩⟩
 have K:Steps1 G ρ1 i G ρ1 n:=⟨m.mono f,fun _ _ h=>h,Grows.refl _ _⟩
 have hc:∀r,r<i.heap.size->¬MM F G ρ1 r->n.heap[r]?=i.heap[r]?:=fun r a P=>m.same r a fun l=>P (.inr (f r l));refine⟨⟨fun b k d=>?_,e.inj,fun r a u=>?_,fun r a=>?_,fun g x O=>(e.glob g x O).ext m.size hc t⟩,K⟩
 ·cases hl:look H b with
  | some v =>
   obtain⟨o,p⟩:=c b v hl;rw[o] at d;cases d;exact(q.blk b k hl).ext (jLj _) (fun _ _ _=>rfl) (fun r _ h=>y r h) z p (fun _ _ _=>rfl)
  | none =>
   refine(e.blk b k d).ext m.size hc t (Grows.refl _ _) rfl fun l r a=>?_;have A:=(e.blk b k d).root_lt l a;refine m.same r A ?_;rintro⟨L,v,j,C,J⟩;obtain⟨o,p⟩:=c L v j;have:=e.inj b L k v r d o l C a (by rw[p];exact J);subst this;rw[hl] at j;cases j
 ·obtain u|u:=u
  ·exact e.forb r a u
  ·have:=e.mut_lt a;have:=M r u;omega
 ·obtain a|a:=a
  ·exact Nat.lt_of_lt_of_le (e.bnd r a) m.size
  ·exact q.bnd r (.inr a)
end
section
variable {cx:Cx}{F:Nat->Prop}{ρ0:Nat->Value}{w0:World}{ops:Array Oper}{masks:List Nat}{base:Nat}{s:St}{recs:List Rec}{call:Jt}{yc:Uu}
theorem HSim.back {H G:List (Nat×Blk)}{ρ0 ρ1:Nat->Value}{w0 O:World}(h:HSim cx F H ρ0 w0)(L:HSim cx F G ρ1 O)(P:Steps1 H ρ0 w0 G ρ1 O)(N:YU H G) :
  HSim cx (fun r=>F r\/(Mut G ρ1 r/\¬Mut H ρ0 r)) H ρ0 O/\(∀b k,look H b=some k->look G b=some k/\ρ1 b=ρ0 b):=by
 have q:∀b k,look H b=some k->look G b=some k/\ρ1 b=ρ0 b:=by intro b k E;obtain⟨k',K,o,Z⟩:=P.grow.dom b k E;have W:=N b k E;rw[K] at W;cases W;exact⟨K,Z rfl⟩
 have C:∀r,Mut H ρ0 r->Mut G ρ1 r:=by rintro r ⟨b,k,E,hm,u⟩;obtain⟨K,o⟩:=q b k E;exact⟨b,k,K,hm,by rw[o];exact u⟩
 have m:∀r,r<O.heap.size->MM (fun r=>F r\/(Mut G ρ1 r/\¬Mut H ρ0 r)) H ρ0 r->MM F G ρ1 r:=by
  rintro r _ ((h|h)|h)
  ·exact .inl h
  ·exact .inr h.1
  ·exact .inr (C r h)
 refine⟨⟨fun b k E=>?_,h.inj,fun r u M=>?_,fun r u=>?_,fun g x hg=>?_⟩,q⟩
 ·obtain⟨K,o⟩:=q b k E;have X:=h.blk b k E;have f:=L.blk b k K;cases k with
  | box x =>
   obtain⟨r,e,v,cs,n,z,A,J⟩:=f;obtain⟨_,_,v0,_,_,_,_,p4⟩:=X;exact⟨r,e,v,cs,by rw[<-o];exact n,z,A,VR.restrict q m p4 v J⟩
  | loop rdy tm ps as bd nt =>
   obtain⟨l,V,n,A,J,T,U,q7,q8,q9,S⟩:=f;obtain⟨_,_,_,_,_,_,_,_,_,_,Q⟩:=X;exact⟨l,V,by rw[<-o];exact n,A,J,T,U,q7,q8,q9,fun t x Y=>VR.restrict q m (Q t x Y) _ (S t x Y)⟩
  | mp es =>
   obtain⟨r,es',c,n,z,A⟩:=f;exact⟨r,es',c,by rw[<-o];exact n,z,A.ext (jLj _) (fun _ _ _=>rfl) m⟩
  | it s p =>
   obtain⟨r,n,z⟩:=f;exact⟨r,by rw[<-o];exact n,z.ext rfl (fun _ _ _=>rfl) m⟩
  | left e =>
   obtain⟨l,V,n,A,J⟩:=f;exact⟨l,V,by rw[<-o];exact n,A,J⟩
  | fbox x =>
   obtain⟨r,n,z⟩:=f;exact⟨r,by rw[<-o];exact n,z.ext (jLj _) (fun _ _ _=>rfl) m⟩
  | dead=>trivial
  | row ver sz es =>
   obtain⟨q0,a0,n⟩|⟨r,c,e,cap,n,z,A,J,T,U⟩:=f
   ·exact .inl ⟨q0,a0,by rw[<-o];exact n⟩
   refine .inr ⟨r,c,e,cap,by rw[<-o];exact n,z,A,J,T,fun i d j a hd ha=>?_⟩;obtain⟨y,y1,y2,y3⟩:=U i d j a hd ha;exact⟨y,y1,y2,y3.ext (jLj _) (fun _ _ _=>rfl) m⟩
  | frozen ver sz es =>
   simp only[BlkR] at f ⊢;rw[<-o];exact f.ext (jLj _) (fun _ _ _=>rfl) m
  | virt ver sz es =>
   simp only[BlkR] at f ⊢;rw[<-o];exact f.ext (jLj _) (fun _ _ _=>rfl) m
 ·obtain M|M:=M
  ·exact L.forb r (C r u) M
  ·exact M.2 u
 ·obtain u|u:=u
  ·exact L.bnd r u
  ·exact L.mut_lt u.1
 ·exact(L.glob g x hg).ext (jLj _) (fun _ _ _=>rfl) m
theorem kR {p q:Rec->Bool}:∀{l:List Rec},(∀r,r∈l->r.up=[]\/p r=q r)->WR (l.filter p)=WR (l.filter q)
 | [],_=>rfl
 | r::l,h=>by
  have b:=kR (l:=l) fun r c=>h r (jmj _ c);simp only[List.filter_cons];obtain a|a:=h r jMj
  ·split<;>split<;>simp only[WR,a,List.nil_append,b]
  ·rw[a];split<;>simp only[WR,b]
theorem QdR (b:Recs cx call yc ops masks base s recs ops.toList.length)(n:DOk ops masks base s recs){S:Nat->Bool}{R:Rec}(p:R∈recs)(r:S R.i=false)
  (d:∀j,S j=true->∀i,ZZ masks i j=true->S i=true) (g:∀i,ZZ masks i R.i=true->S i=true) {a:Nat} (c:nth masks R.i=some a) (f:R.piv=true) :
  WR (Jo a (recs.filter fun q=>Nat.blt q.i R.i))++s.hp=hpS s recs S:=by
 unfold hpS;congr 1
 rw[U2,List.filter_filter];refine kR fun q t=>?_;have o:Vq masks R.i=a:=by simp[Vq,c]
 have l:=b.lt R p;by_cases k:q.i=R.i
 ·right;rw[k,r];have:Nat.blt R.i R.i=false:=by rw[<-Bool.not_eq_true];intro h;rw[Nat.blt_eq] at h;omega
  rw[this,Bool.and_false]
 ·obtain h|h|h|h:=n.pivs R p f q t
  ·exact absurd h k
  ·right;rw[g q.i h];have e:=U5 n R.i l q.i (by rw[<-Q3];exact h);rw[Q3,o] at h;rw[h];simpa[Nat.blt_eq] using e
  ·right;have m:S q.i=false:=by
    cases hh:S q.i with
    | false=>rfl
    | true=>have:=d q.i hh R.i h;rw[r] at this;cases this
   have e:=U5 n q.i (b.lt q t) R.i (by rw[<-Q3];exact h);have:Nat.blt q.i R.i=false:=by rw[<-Bool.not_eq_true];intro h;rw[Nat.blt_eq] at h;omega
   rw[m,this,Bool.and_false]
  ·exact .inl h
theorem Qe3 {H u:List (Nat×Blk)}{a:RC}(h:Qip H a=some u)(c:a.sfx=true->∀h,a.full=some h->∃new,h=new++H):u++H=a.heap H\/a.full=some u:=by
 unfold Qip at h;unfold RC.heap;cases hf:a.full with
 | none =>
  rw[hf] at h;simp only[jIj] at h;left;rw[<-h]
 | some g =>
  cases hx:a.sfx with
  | false=>rw[hf,hx] at h;cases h;exact .inr rfl
  | true =>
   left;rw[hf,hx] at h;simp only[jIj] at h;obtain⟨new,b⟩:=c hx g hf;rw[<-h,b];simp
theorem Qep {rr:Option Nat}{m:Nat}{g7:List Deferred}(c3:QaB cx call)(m0:zj call)(o5:jm cx yc)(E:Recs cx call yc ops masks base s recs ops.toList.length)(hd:DOk ops masks base s recs)(h0:HSim cx F s.hp ρ0 w0){S:Nat->Bool}{a:Act}{w:World}
    (h9:DInv cx ops g7 F ρ0 w0 masks s recs S a w) {R:Rec} (hR:R∈recs) (hS:S R.i=false) (a2:∀i,ZZ masks i R.i=true->S i=true) {Q:Exit->Act->World->Prop} {K:Act->World->Prop}
    (hK:∀a' w',DInv cx ops g7 F ρ0 w0 masks s recs (ins S R.i) a' w'->K a' w'):wpOpIn (fen rr) m cx.P ops Q R.i K a w:=by
  obtain⟨N,d5,d4,ρ,hs,ht,j1,h5,f8⟩:=h9;obtain⟨orc,ob,o',j,a4⟩:=E.told R hR;have h8:=YA j;obtain⟨_,o,ho,e7⟩:=h8;have n5:ops[R.i]?=some o:=by rw[<-Ga];exact ho
  have d3:=QgH E hd hR hS N a2 ho;unfold wpOpIn;rw[n5];simp only;unfold EW at j;rw[ho] at j;split at j;case h_2=>cases j
  rename_i o2 a6 n4 a3;cases n4;simp only at j;rw[QaD d3] at j;split at j
  · cases j
  · -- passed Ky
    rename_i e5;rw[KS ht e5];simp only[Bool.false_eq_true,if_false];simp only[jIj,jPj] at j;obtain⟨z,_,_⟩:=j;refine⟨fun _ _=>trivial,hK _ _ ?_⟩;have X:R.up=[]:=by rw[<-z]
    have h2:R.val=.d (.v undef):=by rw[<-z]
    have:=QbA (v:=undef) E hd hR hS N a2 d5 d4 (fun p t0 hp _ f5=>by rw[ho] at hp;cases hp;simp[GM,f5] at e5) (by rw[X];exact hs) (by rw[X];exact ht) j1 h5 (by rw[X];exact f8) (by rw[h2];exact .d _ _ (.v _))
    rw[e7] at this;exact this
  · rename_i e5
    rw[KS ht e5];simp only[if_true];have hev:=jX hs ht;have O:∀{R' : Rec} {up:List (Nat×Blk)} {x:AV} {ρ' : Nat->Value} {v:Value} {w' : World},R=R'->R'.up=up->HSim cx F (up++hpS s recs S) ρ' w'->Steps1 (hpS s recs S) ρ w (up++hpS s recs S) ρ' w' ->
        VR w' (MM F (up++hpS s recs S) ρ') (up++hpS s recs S) ρ' R'.val v->(∀t0,o.op=.move (.tmp t0)->v=a.eval (.tmp t0))->K (a.put o.dst v) w':=by
      intro R' up x ρ' v w' e1 e2 g1 W g3 g4;subst e1;subst e2;refine hK _ _ ?_;have:=QbA (v:=v) E hd hR hS N a2 d5 d4 (fun p t0 hp f6 _=>by rw[ho] at hp;cases hp;exact g4 t0 f6) g1 (fun t x hx=>W.vr (ht t x hx)) j1 h5 (f8.trans W) g3
      rw[e7] at this;exact this
    split at j
    · -- a call
      rename_i fv args a8;have e8:∀x,x∈o.op.operands.toList->evA cx (YL (recs.filter fun q=>Nat.blt q.i R.i)++s.tm) x=evA cx (tmS s recs S) x:=ze d3;obtain⟨ats,U⟩:=GY a8;have m5:evA cx (YL (recs.filter fun q=>Nat.blt q.i R.i)++s.tm) fv=evA cx (tmS s recs S) fv:=e8 fv (by simp[U,Op.operands,Call.operands]);have c2:args.map (evA cx (YL (recs.filter fun q=>Nat.blt q.i R.i)++s.tm))=args.map (evA cx (tmS s recs S)) :=
        List.map_congr_left fun x hx=>e8 x (by simp[U,Op.operands,Call.operands];exact .inr hx)
      rw[m5,c2] at j;split at j
      · -- yield
        rename_i yb ver o7;split at j
        · cases j
        rename_i rc b3;have k7 : ∃h,rc.full=some h/\R.up=h/\R.piv=true/\(∀p,p∈rc.ob->p)/\∀{M:Nat->Prop} {i5 : List (Nat×Blk)} {ρ' : Nat->Value} {w' : World} {v:Value},VR w' M i5 ρ' rc.val v->VR w' M i5 ρ' R.val v:=by
          split at j
          · rename_i h A _
            split at j;case h_2=>cases j
            rename_i y j7 o2 b9;simp only[jIj,jPj] at j;obtain⟨z,C,_⟩:=j;refine⟨h,A,by rw[<-z],by rw[<-z],fun p hp=>a4 p (by rw[<-C];simp[hp]),fun hv=>?_⟩;rw[<-z];exact Eb b9 (fun p hp=>a4 p (by rw[<-C];simp[hp])) hv
          · rename_i h A _
            simp only[jIj,jPj] at j;obtain⟨z,C,_⟩:=j;exact⟨h,A,by rw[<-z],by rw[<-z],fun p hp=>a4 p (by rw[<-C];exact hp),fun hv=>by rw[<-z];exact hv⟩
          · cases j
        obtain⟨H2,A,Z,d7,b4,a5⟩:=k7;-- what has been run is just what must come before it
        have V:=QdR E hd hR hS N a2 a3 d7;rw[V] at b3;obtain⟨l2,k2⟩:=GT hev args;obtain⟨⟨k,hk,j3⟩,ly,p2,c0,hl,j2,e4⟩:=o5 _ _ _ _ _ _ _ rc b3 b4 rr (m - 1) F ρ w _ hs l2 k2;have d2:=hev fv;rw[yT o7] at d2;have hv:a.eval fv=.func (.yield ly) #[] #[]:=by
          generalize a.eval fv=y at d2;cases d2 with
          | own _ _ k' _ L hv ho h =>
            rw[hk] at L;cases L;rw[h j3,c0]
        rw[Oper.wpIn,Oper.semAt_eq _ _ _ (VV a8),QaV a8 hv,run_yield hl (by simpa using j2.symm)];refine⟨fun _ _=>trivial,?_⟩;rw[Oper.uponIn_round];refine⟨fun h=>(by cases h),e4.mono ?_⟩;rintro e w' ⟨v,rfl,ρ',g1,W,g3⟩;have d8:rc.heap (hpS s recs S)=H2:=by rw[RC.heap,A]
        rw[d8] at g1 W g3;have c4:∀b,look (H2++hpS s recs S) b=look H2 b:=by
          intro b;rw[WH];cases h:look H2 b with
          | some k=>rfl
          | none =>
            simp only;cases h2:look (hpS s recs S) b with
            | none=>rfl
            | some k =>
              obtain⟨k',h3,_⟩:=W.grow.dom b k h2;rw[h] at h3;cases h3
        obtain⟨u1,u2⟩:=W6 c4 g1;exact O (R':=R) (up:=H2) (x:=R.val) rfl Z u1 (W.trans u2) (a5 (u2.vr g3)) (fun t0 h=>by rw[U] at h;cases h)
      split at j
      · -- a call with effects
        split at j;case h_2=>cases j
        rename_i f p q f2 _;split at j;case h_2=>cases j
        rename_i rc b3;split at j;case h_2=>cases j
        rename_i u hu;simp only[jIj,jPj] at j;obtain⟨z,C,_⟩:=j;have d7:R.piv=true:=by rw[<-z]
        have Z:R.up=u:=by rw[<-z]
        have a5:R.val=rc.val:=by rw[<-z]
        have V:=QdR E hd hR hS N a2 a3 d7;rw[V] at b3 hu;obtain⟨xs,ys,hv,l1,l3,k1,k3⟩:=KY f2 (hev fv);obtain⟨l2,k2⟩:=GT hev args;obtain⟨l4,k4⟩:=wx l1 l2 l3 k1 k2 k3;have:=c3 _ _ _ _ _ _ _ rc b3 (fun p hp=>a4 p (by rw[<-C];exact hp)) F ρ w _ hs l4 k4;have T:=Qe3 hu (m0 _ _ _ _ _ _ _ rc b3);rw[Oper.wpIn,Oper.semAt_eq _ _ _ (VV a8),jb a8 hv];refine⟨fun _ _=>trivial,?_⟩;obtain⟨v,r1,hf,o1,r4⟩|⟨r1,r2⟩:=this
        · rw[r1]
          simp only[Oper.uponIn];have o3:rc.heap (hpS s recs S)=hpS s recs S:=by rw[RC.heap,hf,o1];rfl
          have T:=T.resolve_right (by rw[hf];simp);rw[o3] at T;have p1:u=[]:=by have:=congrArg List.length T;simp only[jaj] at this;exact List.length_eq_zero_iff.1 (by omega)
          refine O (R':=R) (up:=u) (x:=R.val) (ρ':=ρ) rfl Z ?_ ?_ ?_ (fun t0 h=>by rw[U] at h;cases h)
          · rw[T];exact hs
          · rw[T];exact Steps1.refl _ _ _
          · rw[T,a5];exact r4
        · rw[r1]
          simp only[Oper.uponIn];refine⟨fun h=>(by cases h),Qah rr (r2.mono ?_)⟩;rintro e w' ⟨v,rfl,ρ',g1,W,g3⟩;obtain T|A:=T;case inr =>
            have d8:rc.heap (hpS s recs S)=u:=by rw[RC.heap,A]
            rw[d8] at g1 W g3;have c4:∀b,look (u++hpS s recs S) b=look u b:=by
              intro b;rw[WH];cases h:look u b with
              | some k=>rfl
              | none =>
                simp only;cases h2:look (hpS s recs S) b with
                | none=>rfl
                | some k =>
                  obtain⟨k',h3,_⟩:=W.grow.dom b k h2;rw[h] at h3;cases h3
            obtain⟨u1,u2⟩:=W6 c4 g1;exact O (R':=R) (up:=u) (x:=R.val) rfl Z u1 (W.trans u2) (by rw[a5];exact u2.vr g3) (fun t0 h=>by rw[U] at h;cases h)
          rw[<-T] at g1 W g3;exact O (R':=R) (up:=u) (x:=R.val) rfl Z g1 W (by rw[a5];exact g3) (fun t0 h=>by rw[U] at h;cases h)
      split at j
      · cases j
      rename_i f p q f2;split at j;case h_2=>cases j
      rename_i rc hin b3;obtain⟨xs,ys,hv,l1,l3,k1,k3⟩:=KY f2 (hev fv);obtain⟨l2,k2⟩:=GT hev args;obtain⟨l4,k4⟩:=wx l1 l2 l3 k1 k2 k3;have o9:R.piv=false:=by
        split at j
        · split at j
          case h_2=>cases j
          simp only[jIj,jPj] at j;rw[<-j.1]
        · simp only[jIj,jPj] at j
          rw[<-j.1]
        · obtain⟨_,_,_,hR,_⟩:=Jc j
          rw[hR]
        · cases j
      have m3:R.fp=none:=by
        split at j
        · split at j
          case h_2=>cases j
          simp only[jIj,jPj] at j;rw[<-j.1]
        · simp only[jIj,jPj] at j
          rw[<-j.1]
        · obtain⟨_,_,_,hR,_⟩:=Jc j
          rw[hR]
        · cases j
      have n8:R.adr=false:=by
        split at j
        · split at j
          case h_2=>cases j
          simp only[jIj,jPj] at j;rw[<-j.1]
        · simp only[jIj,jPj] at j
          rw[<-j.1]
        · obtain⟨_,_,_,hR,_⟩:=Jc j
          rw[hR]
        · cases j
      -- what was there at the region's head is unwritten so far,or nothing is seen of it
      have j9:∃H,qj s (recs.filter fun q=>Nat.blt q.i R.i) a6=H/\HSim cx (fun r=>F r\/(Mut (hpS s recs S) ρ r/\¬Mut H ρ0 r)) H ρ0 w/\(∀b k,look H b=some k->look (hpS s recs S) b=some k/\ρ b=ρ0 b):=by
       cases hany:((Jo a6 (recs.filter fun q=>Nat.blt q.i R.i)).any fun r=>r.up.any fun p=>Vo s.hp p.1) with
       | true =>
        have he:qj s (recs.filter fun q=>Nat.blt q.i R.i) a6=[]:=by unfold qj;rw[hany]
        refine⟨[],he,⟨fun b k L=>(by cases L),fun b b' k k' r L=>(by cases L),fun r J=>?_,fun r J=>?_,fun g x hg=>?_⟩,fun b k L=>(by cases L)⟩
        · obtain⟨b,k,L,_⟩:=J;cases L
        · obtain J|J:=J
          · exact hs.bnd r J
          · exact hs.mut_lt J.1
        · refine(hs.glob g x hg).ext (jLj _) (fun _ _ _=>rfl) ?_
          rintro r _ ((h|h)|⟨b,k,L,_⟩)
          · exact .inl h
          · exact .inr h.1
          · cases L
       | false =>
        have he:qj s (recs.filter fun q=>Nat.blt q.i R.i) a6=s.hp:=by unfold qj;rw[hany]
        have d9:∀r,r∈recs->(∃b,look r.up b≠none/\look s.hp b≠none)->ZZ masks r.i R.i=false:=by
          rintro r J ⟨b,d0,l8⟩;cases hm:ZZ masks r.i R.i with
          | false=>rfl
          | true =>
            exfalso;have a9:=U5 hd R.i (E.lt R hR) r.i (by rw[<-Q3];exact hm);have n0:Vq masks R.i=a6:=by simp[Vq,a3]
            rw[Q3,n0] at hm;obtain⟨k,hk⟩:=Gd d0;have X:(r.up.any fun p=>Vo s.hp p.1)=true:=List.any_eq_true.2 ⟨_,hk,V9.2 l8⟩;have h2:((Jo a6 (recs.filter fun q=>Nat.blt q.i R.i)).any fun r=>r.up.any fun p=>Vo s.hp p.1)=true:=by refine List.any_eq_true.2 ⟨r,?_,X⟩;rw[U2];exact List.mem_filter.2 ⟨List.mem_filter.2 ⟨J,by simpa[Nat.blt_eq] using a9⟩,hm⟩
            rw[hany] at h2;cases h2
        refine⟨s.hp,he,h0.back hs f8 ?_⟩;intro b k L;have:look (WR (recs.filter fun r=>S r.i)++s.hp) b=look (WR (recs.filter fun _=>false)++s.hp) b:=by
          refine KA recs fun r J f7=>?_;cases hh:S r.i with
          | false=>rfl
          | true =>
            exfalso;have c8:r.i≠R.i:=fun e=>by rw[e,hS] at hh;cases hh
            have l9:b≠base+r.i:=fun e=>by rw[e,hd.free r.i (E.lt r J)] at L;cases L
            have w1:=UW f7 l9;have n2:=d9 r J ⟨b,f7,by rw[L];simp⟩;have o0:Uc ops R.i=true:=by rw[zI ho];simp[yL,U]
            have:=hd.blks r R J hR;simp only[G1,Bool.or_eq_true,jAj,Bool.not_eq_true',w1,o0,QdH (q:=R) n8 f7 (fun fs hf=>by rw[m3] at hf;cases hf)] at this;obtain((h|h)|h)|h:=this
            · rw[n2] at h;cases h
            · have:=N r.i hh R.i h;rw[hS] at this;cases this
            · exact c8 (Z1 h)
            · simp at h
        have h2:(recs.filter fun _=>false)=[]:=by simp
        show look (WR (recs.filter fun r=>S r.i)++s.hp) b=some k;rw[this,h2];exact L
      obtain⟨H,g8,d0,c7⟩:=j9;rw[g8] at hin b3;have k6:∀r,r<w.heap.size->MM (fun r=>F r\/(Mut (hpS s recs S) ρ r/\¬Mut H ρ0 r)) H ρ0 r->MM F (hpS s recs S) ρ r:=by
        rintro r _ ((h|h)|⟨b,k,L,hm,J⟩)
        · exact .inl h
        · exact .inr h.1
        · obtain⟨X,h2⟩:=c7 b k L
          exact .inr ⟨b,k,X,hm,by rw[h2];exact J⟩
      have k5:=VR.shrinks c7 k6 _ _ hin k4;have e9:∀(b4:∀p,p∈rc.ob->p),rc.full=none->rc.up=[]->(∀{y:AV} {v:Value} {w' : World} {ρ' : Nat->Value},HSim cx F (hpS s recs S) ρ w'->Steps1 (hpS s recs S) ρ w (hpS s recs S) ρ w' ->
          VR w' (MM F (hpS s recs S) ρ) (hpS s recs S) ρ rc.val v->K (a.put o.dst v) w')->o.wpIn (fen rr) m cx.P a w K Q:=by
        intro b4 A Z hk;have:=c3 _ _ _ _ _ _ _ rc b3 b4 _ ρ0 w _ d0 l4 k5;have V:rc.heap H=H:=by rw[RC.heap,A,Z];rfl
        have h6:Grows H (hpS s recs S) ρ0 ρ:=⟨fun b k L=>⟨k,(c7 b k L).1,jLj _,fun _=>(c7 b k L).2⟩⟩
        have e6:∀r,MM F (hpS s recs S) ρ r->MM (fun r=>F r\/(Mut (hpS s recs S) ρ r/\¬Mut H ρ0 r)) H ρ0 r:=by
          rintro r (h|h)
          · exact .inl (.inl h)
          · by_cases hh:Mut H ρ0 r
            · exact .inr hh
            · exact .inl (.inr ⟨h,hh⟩)
        rw[Oper.wpIn,Oper.semAt_eq _ _ _ (VV a8),jb a8 hv];refine⟨fun _ _=>trivial,?_⟩;obtain⟨v,r1,_,_,r4⟩|⟨r1,r2⟩:=this
        · rw[r1]
          simp only[Oper.uponIn];exact hk (y:=rc.val) (ρ':=ρ) hs (Steps1.refl _ _ _) (r4.ext (jLj _) (fun _ _ _=>rfl) (fun r _ h=>e6 r h) h6)
        · rw[r1]
          simp only[Oper.uponIn];refine⟨fun h=>(by cases h),Qah rr (r2.mono ?_)⟩;rintro e w' ⟨v,rfl,ρ',g1,W,g3⟩;rw[V] at g1 W g3;-- the names of the head stand for what they stood
          have c0:∀b k,look H b=some k->ρ' b=ρ0 b:=fun b k L=>by obtain⟨k',X,_,h3⟩:=W.grow.dom b k L;rw[L] at X;cases X;exact h3 rfl
          have h7:Grows H H ρ' ρ0:=⟨fun b k L=>⟨k,L,jLj _,fun _=>(c0 b k L).symm⟩⟩
          have i3:∀r,Mut H ρ0 r↔Mut H ρ' r:=fun r=>by
            constructor
            · rintro⟨b,k,L,hm,J⟩;exact⟨b,k,L,hm,by rw[c0 b k L];exact J⟩
            · rintro⟨b,k,L,hm,J⟩;exact⟨b,k,L,hm,by rw[<-c0 b k L];exact J⟩
          have f0:Steps1 H ρ' w' H ρ0 w':=⟨Ext.refl _ _,fun r _ hm=>(i3 r).1 hm,h7⟩
          have f1:=g1.step f0 (fun b k L=>.inl ⟨L,(c0 b k L).symm,fun _ _ _=>rfl⟩)
            (fun b b' k k' r X h2 m1 m2 r1 r2=>g1.inj b b' k k' r X h2 m1 m2 (by rw[c0 b k X];exact r1) (by rw[c0 b' k' h2];exact r2)) (fun r J=>g1.forb r ((i3 r).1 J))
          obtain⟨q1,q2⟩:=hs.glue c7 f1 W.ext;have j8:=f0.vr g3;exact hk (y:=rc.val) (ρ':=ρ) q1 q2 (j8.ext (jLj _) (fun _ _ _=>rfl) (fun r _ h=>e6 r h) h6)
      split at j
      · rename_i A Z _
        split at j;case h_2=>cases j
        rename_i y j7 o2 b9;simp only[jIj,jPj] at j;obtain⟨z,C,_⟩:=j;refine e9 (fun p hp=>a4 p (by rw[<-C];simp[hp])) A Z fun {_ v w' ρ'} q1 q2 q3=>?_;exact O (up:=[]) (x:=y) z.symm rfl q1 q2 (Eb b9 (fun p hp=>a4 p (by rw[<-C];simp[hp])) q3) (fun t0 h=>by rw[U] at h;cases h)
      · rename_i A Z _
        simp only[jIj,jPj] at j;obtain⟨z,C,_⟩:=j;refine e9 (fun p hp=>a4 p (by rw[<-C];exact hp)) A Z fun {_ v w' ρ'} q1 q2 q3=>?_;exact O (up:=[]) (x:=rc.val) z.symm rfl q1 q2 q3 (fun t0 h=>by rw[U] at h;cases h)
      · -- a row that the call has made
        rename_i p0 A Z _;obtain⟨b,k0,v0,z,n6,a5,C,h4,f3⟩:=Jc j;rw[g8] at h4;have:=c3 _ _ _ _ _ _ _ rc b3 (fun p hp=>a4 p (by rw[C];exact hp)) _ ρ0 w _ d0 l4 k5;have V:rc.heap H=(b,k0)::H:=by rw[RC.heap,A,Z,n6];rfl
        have i4:look (hpS s recs S) (base+R.i)=none:=QdA E hd hR hS N;rw[Oper.wpIn,Oper.semAt_eq _ _ _ (VV a8),jb a8 hv];refine⟨fun _ _=>trivial,?_⟩;obtain⟨v,r1,_,hu,_⟩|⟨r1,r2⟩:=this
        · rw[Z] at hu;cases hu
        · rw[r1]
          simp only[Oper.uponIn];refine⟨fun h=>(by cases h),Qah rr (r2.mono ?_)⟩;rintro e w' ⟨v,rfl,ρ',g1,W,g3⟩;rw[V] at g1 W g3;have c8:∀b' k,look H b'=some k->b'≠b:=fun b' k a0 e=>by rw[e,h4] at a0;cases a0
          have c6:∀b' k,look H b'=some k->look ((b,k0)::H) b'=some k/\ρ' b'=ρ0 b':=fun b' k a0=>by
            have X:look ((b,k0)::H) b'=some k:=by rw[Qc _ _ (Ne.symm (c8 b' k a0))];exact a0
            obtain⟨k',h2,_,h3⟩:=W.grow.dom b' k a0;rw[X] at h2;cases h2;exact⟨X,h3 rfl⟩
          have hE:∀r,QX (ρ' b)=some r->Mut ((b,k0)::H) ρ' r/\w.heap.size<=r:=by
            intro r J;have hm:Mut ((b,k0)::H) ρ' r:=⟨b,_,Qf _ _ _,GV f3,J⟩
            refine⟨hm,?_⟩;obtain a9|m6:=Nat.lt_or_ge r w.heap.size
            · exfalso
              obtain⟨b',k',a0,c5,a1⟩:=W.mt r a9 hm;obtain⟨X,h2⟩:=c6 b' k' a0;have:=g1.inj b' b k' _ r X (Qf _ _ _) c5 (GV f3) (by rw[h2];exact a1) J;exact c8 b' k' a0 this
            · exact m6
          have f1:=d0.restrictE g1 c6 W.ext hE;obtain⟨q1,q2⟩:=hs.gluE c7 f1 W.ext (fun r J=>(hE r J).2);have i9:FreshV w' (MM (fun r=>F r\/QX (ρ' b)=some r) (hpS s recs S) ρ) (ρ' b) (stamp k0):=by
            have h0:FreshV w' (MM (fun r=>F r\/(Mut (hpS s recs S) ρ r/\¬Mut H ρ0 r)) ((b,k0)::H) ρ') (ρ' b) k0:=jT f3 (g1.blk b _ (Qf _ _ _));refine h0.stamp.sub ?_;rintro r _ ((h|h)|h)
            · exact .inl (.inl h)
            · exact .inr (hE r h).1
            · by_cases hh:Mut H ρ0 r
              · obtain⟨b',k',a0,c5,a1⟩:=hh
                obtain⟨X,h2⟩:=c6 b' k' a0;exact .inr ⟨b',k',X,c5,by rw[h2];exact a1⟩
              · exact .inl (.inr ⟨h,hh⟩)
          have q3:=q1.name (nm:=base+R.i) i4 (fun r h=>h) (fun r J hf=>by have X:=hs.bnd r hf;have h2:=(hE r J).2;omega) i9
          have q4:Steps1 (hpS s recs S) ρ w ((base+R.i,stamp k0)::hpS s recs S) (VI ρ (base+R.i) (ρ' b)) w':=by
            refine⟨q2.ext,fun r J hm=>?_,⟨fun n k hn=>?_⟩⟩
            · obtain⟨n,k',hn,c5,a1⟩:=hm
              by_cases b2:n=base+R.i
              · subst b2
                rw[Qx] at a1;have:=(hE r a1).2;omega
              · rw[Qc _ _ (Ne.symm b2)] at hn;rw[QL _ _ b2] at a1;exact⟨n,k',hn,c5,a1⟩
            · have b2:n≠base+R.i:=fun e=>by rw[e,i4] at hn;cases hn
              exact⟨k,by rw[Qc _ _ (Ne.symm b2)];exact hn,jLj _,fun _=>QL _ _ b2⟩
          refine O (R':=R) (up:=[(base+R.i,stamp k0)]) (x:=R.val) rfl (by rw[z]) q3 q4 ?_ (fun t0 h=>by rw[U] at h;cases h);have k8:R.val=v0:=by rw[z]
          rw[k8];refine Qfy (Qf _ _ _) rfl (Qf _ _ _) (Qx _ _ _) ?_ a5 g3;rintro r _ (h|⟨n,k',hn,c5,a1⟩)
          · exact .inl (.inl h)
          · have hn:look ((base+R.i,stamp k0)::hpS s recs S) n=some k':=hn
            by_cases b2:n=base+R.i
            · subst b2
              rw[Qx] at a1;exact .inr (hE r a1).1
            · rw[Qc _ _ (Ne.symm b2)] at hn;rw[QL _ _ b2] at a1
              by_cases hh:Mut H ρ0 r
              · obtain⟨b',j5,a0,i1,i6⟩:=hh
                obtain⟨X,h2⟩:=c6 b' j5 a0;exact .inr ⟨b',j5,X,i1,by rw[h2];exact i6⟩
              · exact .inl (.inr ⟨⟨n,k',hn,c5,a1⟩,hh⟩)
      · cases j
    · -- another operation
      rename_i a8;have b8:∀{t ty:Nat} {b5:List TypeId} {args:Array Operand} {ats:Array TypeId} {el:TypeId} {b ver:Nat} {es:jVj},o.op=.call { callee:=.builtin .len,args,argTypes:=ats }->args.toList=[.tmp t]->ats.toList=ty::b5->cx.P.underlying ty=some (.slice el) ->
          Ka s.hp (.own b ver)=some es->VR w0 (MM F s.hp ρ0) s.hp ρ0 (.own b ver) (a.tmps.getD t undef)->({ i:=R.i,dst:=o.dst,val:=.d (.v (.int .i64 es.length)),up:=[],fp:=some [] }:Rec)=R->o.wpIn (fen rr) m cx.P a w K Q:=by
        intro t ty b5 args ats el b ver es Y c1 b7 hu d1 g5 z;obtain⟨ax,g6,hv⟩:=wV h0 d1 g5;have l6:ats=(ty::b5).toArray:=by rw[<-b7]
        have c2:args=#[.tmp t]:=by rw[<-Array.toArray_toList (xs:=args),c1]
        have X:=Qk hu w;have G:(execOp a.eval o).run cx.P w=.ok (.value (.int .i64 es.length)) w:=by have l7:a.eval (.tmp t)=.slice ax es.length g6:=hv;subst c2;subst l6;simp only[execOp,Y,resolve];simp only[List.map_toArray,jCj,jnj,l7];show(do pure (Next.value (<-Builtin.len_ (ty::b5).toArray o.type #[.slice ax es.length g6]))).run cx.P w=_;simp[Builtin.len_,X,goInt]
        unfold Oper.wpIn;rw[Oper.semAt_eq _ _ _ (fun c hc=>by rw[Y] at hc;cases hc)];refine⟨fun _ _=>trivial,?_⟩;rw[G];exact O (up:=[]) (x:=R.val) z.symm (by rw[<-z]) hs (Steps1.refl _ _ _) (.d _ _ (.v _)) (fun t0 h=>by rw[Y] at h;cases h)
      -- who writes to the operand of this operation comes before it
      have j4:∀{t:Nat},(.tmp t)∈o.op.operands.toList->∀r,r∈recs->S r.i=true->r.dst=some t->r.i<R.i:=by
        intro t f4 r J c9 e0;by_cases a9:r.i<R.i
        · exact a9
        · exfalso
          have c8:r.i≠R.i:=fun e=>by rw[e,hS] at c9;cases c9
          have g9:=hd.tmps r.i R.i (E.lt r J) (E.lt R hR);obtain⟨_,_,_,X,_⟩:=E.told r J;obtain⟨_,x,hx,o4⟩:=YA X;simp only[JK,Bool.or_eq_true] at g9;obtain((h|h)|h)|h:=g9
          · have:=U5 hd R.i (E.lt R hR) r.i (by rw[<-Q3];exact h);omega
          · have:=N r.i c9 R.i h
            rw[hS] at this;cases this
          · exact absurd (Z1 h) c8
          · rw[hx,ho] at h
            simp only[<-o4,e0,jAj,Bool.not_eq_true'] at h;have i2:(J2 o ops).contains t=true:=by rw[List.contains_iff_mem];unfold J2;exact List.mem_append_left _ (List.mem_filterMap.2 ⟨.tmp t,f4,rfl⟩)
            rw[i2] at h;cases h.1
      split at j
      · -- the length of what was there
        rename_i k l;simp only[jIj,jPj] at j;obtain⟨z,_,_⟩:=j;unfold QfR at l;split at l;case h_2=>cases l
        rename_i args ats Y;split at l;case h_2=>cases l
        rename_i t ty b5 c1 b7;split at l;case h_2=>cases l
        rename_i el b ver hu f9 b6;split at l;case h_2=>cases l
        rename_i es d1;simp only[jIj] at l;subst l;have n3:∀r,r∈recs->S r.i=true->r.dst≠some t:=by intro r J c9 e0;have a9:=j4 (by rw[Y];simp[Op.operands,Call.operands,c1]) r J c9 e0;simp only[List.all_eq_true] at b6;have:=b6 r (List.mem_filter.2 ⟨J,by simpa[Nat.blt_eq] using a9⟩);rw[e0] at this;simp at this
        exact b8 Y c1 b7 hu d1 (d5 t _ f9 n3) z
      split at j
      · -- ... through a copy
        rename_i k l;simp only[jIj,jPj] at j;obtain⟨z,_,_⟩:=j;unfold QhW at l;split at l;case h_2=>cases l
        rename_i args ats Y;split at l;case h_2=>cases l
        rename_i t ty b5 c1 b7;split at l;case h_2=>cases l
        rename_i el r hu n1;split at l;case h_2=>cases l
        rename_i p hp;split at l;case h_2=>cases l
        rename_i t0 f6 f5;split at l;case h_2=>cases l
        rename_i b ver f9 b6;split at l;case h_2=>cases l
        rename_i es d1;simp only[jIj] at l;subst l;simp only[jAj,List.all_eq_true,Bool.or_eq_true,Bool.not_eq_true'] at b6;obtain⟨⟨m7,m8⟩,m9⟩:=b6;obtain⟨i8,n9⟩:=uw n1;have j0:=(List.mem_filter.1 i8).1;have o8:r.i<R.i:=by simpa[Nat.blt_eq] using(List.mem_filter.1 i8).2
        have n7:p.dst=some t:=by obtain⟨_,_,_,X,_⟩:=E.told r j0;obtain⟨_,y,hy,o6⟩:=YA X;rw[hp] at hy;cases hy;rw[<-o6,n9]
        have g5:=d4 r j0 (a2 r.i m7) p t0 t _ hp f6 f5 n7
          (fun q hq a9 e3=>by
            obtain h|h:=m9 q (List.mem_filter.2 ⟨hq,by rw[Nat.blt_eq];omega⟩)
            · rw[show Nat.blt q.i r.i=true by rw[Nat.blt_eq];exact a9] at h;cases h
            · rw[ke.2 e3] at h;cases h)
          (fun q hq k9 e3=>by
            have a9:=j4 (by rw[Y];simp[Op.operands,Call.operands,c1]) q hq k9 e3;obtain h|h:=m8 q (List.mem_filter.2 ⟨hq,by rw[Nat.blt_eq];omega⟩)
            · rw[ke.2 e3] at h;cases h
            · exact Z1 h) f9
        exact b8 Y c1 b7 hu d1 g5 z
      split at j
      · cases j
      rename_i r J;rw[Qg9 (ze d3)] at J;have m4:uR (evA cx (YL (recs.filter fun q=>Nat.blt q.i R.i)++s.tm)) o=R.fp:=by
        split at j
        · split at j
          case h_2=>cases j
          simp only[jIj,jPj] at j;rw[<-j.1]
        · simp only[jIj,jPj] at j
          rw[<-j.1]
      have a7:adrB (E1 masks s (recs.filter fun q=>Nat.blt q.i R.i) o a6 (uR (evA cx (YL (recs.filter fun q=>Nat.blt q.i R.i)++s.tm)) o)) (qA (evA cx (YL (recs.filter fun q=>Nat.blt q.i R.i)++s.tm)) o)=R.adr:=by
        split at j
        · split at j
          case h_2=>cases j
          simp only[jIj,jPj] at j;rw[<-j.1]
        · simp only[jIj,jPj] at j
          rw[<-j.1]
      rw[m4] at J a7;have i7:aop cx s.sym orc (hpS s recs S) (base+R.i) (evA cx (tmS s recs S)) o=some r:=by
        cases ha:R.adr with
        | false=>exact Qiz (Qew E hd hR hS N a2 ho a3 ha) (QdA E hd hR hS N) J
        | true =>
          rw[ha] at a7;have l5:qA (evA cx (YL (recs.filter fun q=>Nat.blt q.i R.i)++s.tm)) o=qA (evA cx (tmS s recs S)) o:=by
            unfold qA;split
            · rename_i d6
              rw[ze d3 _ (by rw[d6];simp[Op.operands])]
            · rename_i d6
              rw[ze d3 _ (by rw[d6];simp[Op.operands])]
            · rfl
          rw[l5] at a7;unfold adrB at a7;split at a7;case h_2=>cases a7
          rename_i b l0;split at a7;case h_2=>cases a7
          rename_i k i0;obtain⟨k',g1,W⟩:=Qex E hd hR hS N a2 ho a3 i0 a7;refine QiA l0 (fun v hv=>?_) J;unfold El at hv ⊢;rw[i0] at hv;rw[g1];have hz:∀{k:Blk},boxB k=true->k.ver=0:=fun {k} h=>by cases k<;>first|rfl|cases h
          simp only[hz a7] at hv;simp only[hz W];exact hv
      have j6:(∀p,p∈r.ob->p)->(∀{ρ' : Nat->Value} {v:Value} {w' : World},HSim cx F (r.up++hpS s recs S) ρ' w'->Steps1 (hpS s recs S) ρ w (r.up++hpS s recs S) ρ' w' ->
          VR w' (MM F (r.up++hpS s recs S) ρ') (r.up++hpS s recs S) ρ' r.val v->(∀t0,o.op=.move (.tmp t0)->v=a.eval (.tmp t0))->K (a.put o.dst v) w')->o.wpIn (fen rr) m cx.P a w K Q:=by
        intro b4 hk;obtain⟨v,w',G,ρ',g1,W,g3⟩:=QbK hs (fun _=>rfl) hev i7 b4;have:=hk g1 W g3 (fun t0 h=>by
          have he:(execOp a.eval o).run cx.P w=.ok (.value (a.eval (.tmp t0))) w:=by simp only[execOp,h];rfl
          obtain G|⟨G,_⟩:=G
          · rw[he] at G;cases G;rfl
          · rw[he] at G;cases G)
        unfold Oper.wpIn;rw[Oper.semAt_eq _ _ _ (yq i7)];refine⟨fun _ _=>trivial,?_⟩;obtain G|⟨G,rfl⟩:=G
        · rw[G];exact this
        · rw[G];exact this
      split at j
      · split at j
        case h_2=>cases j
        rename_i y j7 o2 b9;simp only[jIj,jPj] at j;obtain⟨z,C,_⟩:=j;refine j6 (fun p hp=>a4 p (by rw[<-C];simp[hp])) fun {ρ' v w'} g1 W g3 g4=>?_;exact O (x:=y) z.symm rfl g1 W (Eb b9 (fun p hp=>a4 p (by rw[<-C];simp[hp])) g3) g4
      · simp only[jIj,jPj] at j
        obtain⟨z,C,_⟩:=j;refine j6 (fun p hp=>a4 p (by rw[<-C];exact hp)) fun {ρ' v w'} g1 W g3 g4=>?_;exact O (x:=r.val) z.symm rfl g1 W g3 g4
def lst (listed:Array Bool):Nat->Bool:=fun i=>listed.getD i false
theorem QfP {listed:Array Bool}{j:Nat}(a:j<listed.size):lst (listed.setIfInBounds j true)=ins (lst listed) j:=by
 funext i
 simp only[lst,ins,Array.getD_eq_getD_getElem?,Array.getElem?_setIfInBounds];by_cases h:j=i
 ·subst h;rw[jTj rfl,jTj a];have:Nat.beq j j=true:=Nat.beq_refl j;simp[this]
 ·rw[jFj h];have:Nat.beq i j=false:=by
   cases hb:Nat.beq i j with
   | false=>rfl
   | true=>exact absurd (Z1 hb).symm h
  simp[this]
def unl (n:Nat)(listed:Array Bool):List Nat:=(List.range n).filter fun i=>!(lst listed i)
theorem QiI {n:Nat}{listed:Array Bool}{j k:Nat}(e:j<n)(b:j<listed.size)(g:lst listed j=false)(f:(unl n listed).length=k+1):(unl n (listed.setIfInBounds j true)).length=k:=by
 have a:j∈unl n listed:=by simp[unl,e,g]
 have c:(unl n listed).Nodup:=List.Pairwise.filter _ List.nodup_range;have d:unl n (listed.setIfInBounds j true)=(unl n listed).erase j:=by
  rw[List.Nodup.erase_eq_filter c];simp only[unl,List.filter_filter];refine List.filter_congr fun i _=>?_;rw[QfP b];simp only[ins];by_cases h:i=j
  ·subst h;have:Nat.beq i i=true:=Nat.beq_refl i;simp[this]
  ·have:Nat.beq i j=false:=by
    cases hb:Nat.beq i j with
    | false=>rfl
    | true=>exact absurd (Z1 hb) h
   simp[this,h]
 rw[d,List.length_erase_of_mem a,f];rfl
theorem Qha {rr:Option Nat}{m:Nat}{x:List Deferred}(y:QaB cx call)(L:zj call)(S:jm cx yc)(t:Recs cx call yc ops masks base s recs ops.toList.length)(M:DOk ops masks base s recs)(U:HSim cx F s.hp ρ0 w0){Q:Exit->Act->World->Prop}
  (Z:∀ρ' A w',HSim cx F (WR recs++s.hp) ρ' w'->TSim F (YL recs++s.tm) (WR recs++s.hp) ρ' A w'->A.tmps.size=s.nt->A.defers=x->Steps1 s.hp ρ0 w0 (WR recs++s.hp) ρ' w'->Q .normal A w') :
  ∀(d:Nat) (listed:Array Bool) (a:Act) (w:World),listed.size=ops.size->(unl ops.size listed).length=d->DInv cx ops x F ρ0 w0 masks s recs (lst listed) a w->wpAnyIn (fen rr) m cx.P .any ops Q d listed a w:=by
 have hn:ops.toList.length=ops.size:=by simp
 have q:∀(listed:Array Bool) (a:Act) (w:World),(∀i,i<ops.size->lst listed i=true)->DInv cx ops x F ρ0 w0 masks s recs (lst listed) a w->Q .normal a w:=by intro listed a w g b;obtain⟨_,_,_,ρ,u,f,n,V,T⟩:=b;have X:(recs.filter fun r=>lst listed r.i)=recs:=List.filter_eq_self.2 fun r O=>g r.i (by have:=t.lt r O;omega);simp only[hpS,tmS,X] at u f T;exact Z ρ a w u f n V T
 have c:∀(listed:Array Bool),listed.size=ops.size->∀i,i∈Region.ready .any ops listed↔i<ops.size/\lst listed i=false/\∃o,ops[i]?=some o/\∀e,e∈o.after.toList->Region.binds .any e=true->lst listed e.on=true:=by
  intro listed k i;simp only[Region.ready,List.mem_filter,List.mem_range,jAj,Bool.not_eq_true'];constructor
  ·rintro⟨u,f,n⟩;refine⟨u,?_,?_⟩
   ·simp only[lst];rw[Array.getD_eq_getD_getElem?] at f ⊢;have:i<listed.size:=by omega
    simp[this] at f ⊢;exact f
   ·cases C:ops[i]? with
    | none=>rw[C] at n;simp at n
    | some o =>
     rw[C] at n;simp only[Option.map_some,Option.getD_some,Array.all_eq_true'] at n;refine⟨o,rfl,fun e E v=>?_⟩;have:=n e (by simpa using E);rw[v] at this;simpa[lst] using this
  ·rintro⟨u,f,o,C,n⟩;refine⟨u,?_,?_⟩
   ·simp only[lst] at f;rw[Array.getD_eq_getD_getElem?] at f ⊢;have:i<listed.size:=by omega
    simp[this] at f ⊢;exact f
   ·rw[C];simp only[Option.map_some,Option.getD_some,Array.all_eq_true'];intro e E;by_cases v:Region.binds .any e=true
    ·have:=n e (by simpa using E) v;simp only[lst] at this;rw[v];simpa using this
    ·simp only[Bool.not_eq_true] at v;rw[v];rfl
 intro d;induction d with
 | zero =>
  intro listed a w k p b;have g:∀i,i<ops.size->lst listed i=true:=by
   intro i G;have:unl ops.size listed=[]:=List.length_eq_zero_iff.1 p;cases h:lst listed i with
   | true=>rfl
   | false =>
    have K:i∈unl ops.size listed:=by simp[unl,G,h]
    rw[this] at K;simp at K
  refine⟨?_,q listed a w g b⟩;cases O:Region.ready .any ops listed with
  | nil=>rfl
  | cons i l =>
   have K:i∈Region.ready .any ops listed:=by rw[O];exact jMj
   obtain⟨u,f,_⟩:=(c listed k i).1 K;rw[g i u] at f;cases f
 | succ d ih =>
  intro listed a w k p b;refine⟨fun H=>q listed a w (fun i=>?_) b,fun j Y=>?_⟩
  ·induction i using Nat.strongRecOn with
   | _ i ihi =>
    intro G;cases h:lst listed i with
    | true=>rfl
    | false =>
     exfalso;have:i∈Region.ready .any ops listed:=by rw[c listed k i];refine⟨G,h,ops[i],by simp[G],fun e E v=>?_⟩;have N:=(M.spec i ops[i] (by rw[Ga];simp[G])).2 e E v;exact ihi e.on N (by omega)
     rw[H] at this;simp at this
  ·obtain⟨u,f,o,C,n⟩:=(c listed k j).1 Y;obtain⟨R,W,rfl⟩:=t.all j (by omega);have J:=QeK M b.clo (by rw[Ga];exact C) n;refine Qep y L S t M U b W f J fun A w' z=>?_;refine ih _ A w' (by simp[k]) (QiI u (by omega) f p) ?_;rw[QfP (by omega)];exact z
theorem Qe4 {rr:Option Nat}(E:cx.P.follows .mixedOrders=true)(d:QaB cx call)(l:zj call)(u:jm cx yc){ob:List Prop}{orc:List Orc}(c:JA cx call yc ops masks base s (List.range ops.toList.length) [] s.ob s.orc=some (recs,ob,orc))
  (o:Qct ops masks base s recs=true) (G:∀p,p∈ob->p) {a:Act} {ρ:Nat->Value} {w:World} (g:Sim cx F s ρ a w) {Q:Exit->Act->World->Prop} {id:Nat}
  (H:∀ρ' k w',HSim cx F (WR recs++s.hp) ρ' w'->TSim F (YL recs++s.tm) (WR recs++s.hp) ρ' k w'->k.tmps.size=s.nt->k.defers=a.defers->Steps1 s.hp ρ w (WR recs++s.hp) ρ' w'->Q .normal k w') :
  wpR rr cx.P (Code.region id ops true) Q a w/\∀p,p∈s.ob->p:=by
 have C:=Qd3 o;rw[List.range_eq_range'] at c;obtain⟨b,n⟩:=wW _ 0 [] recs s.ob ob s.orc orc c G ⟨List.Pairwise.nil,fun r f=>by simp at f,fun j y=>by omega,fun r f=>by simp at f⟩;rw[Nat.zero_add] at b;refine⟨fun m=>wpIn_region_any E ?_,n⟩;show wpAnyIn (fen rr) m cx.P .any ops Q ops.size (Array.replicate ops.size false) a w.drew;obtain⟨A,v⟩:=g.hs.drew;have z:lst (Array.replicate ops.size false)=fun _=>false:=by
  funext i
  simp only[lst,Array.getD_eq_getD_getElem?,Array.getElem?_replicate];split<;>rfl
 refine Qha d l u b C g.hs H ops.size _ a w.drew (by simp) ?_ ?_
 ·simp only[unl,z,Bool.not_false];rw[List.filter_eq_self.2 (fun _ _=>rfl)];simp
 ·rw[z];have e:(recs.filter fun _=>false)=[]:=List.filter_eq_nil_iff.2 (fun _ _ h=>by cases h);refine⟨(fun j y=>by cases y),fun t x q _=>g.ts t x q,(fun r _ f=>by cases f),ρ,?_,?_,g.nt,rfl,?_⟩
  ·simp only[hpS,e];exact A
  ·simp only[hpS,tmS,e];exact fun t x q=>v.vr (g.ts t x q)
  ·simp only[hpS,e];exact v
end
theorem wg {ops:Array Oper}{i:Nat}{o:Oper}{s s' : St}{x:AV}{b : List (Nat×Blk)}{k:Nat}{orc:List Orc}{ob:List Prop}{g:Bool}(h:Ee ops i o s x b k orc ob g=some s') :
  s'.hp=b/\s'.vis=s.vis/\s'.nr=s.nr/\(s'.sfx=true->s.sfx=true/\g=true):=by
 unfold Ee at h;split at h
 ·split at h;case h_2=>cases h
  obtain⟨c,j,d,e,f⟩:=Uw h;exact⟨c,d,e,fun a=>by rw[f] at a;simpa using a⟩
 ·obtain⟨c,j,d,e,f⟩:=Uw h;exact⟨c,d,e,fun a=>by rw[f] at a;simpa using a⟩
def Qaz (f:Uu):Prop :=
 ∀(H:List (Nat×Blk)) (e:Nat) (d:Bool) (orc:List Orc) (b ver:Nat) (a:List AV) (c:RC),f H e d orc b ver a=some c->c.sfx=true->∀h,c.full=some h->∃new,h=new++H
def yu (a:Code->St->Option (Ex×St)):Prop :=
 ∀(c:Code) (s:St) (e:Ex) (s' : St),a c s=some (e,s')->s'.vis=s.vis/\s'.nr=s.nr/\(s'.sfx=true->s.sfx=true/\∃new,s'.hp=new++s.hp)
theorem Qjt {c:Type}(x y:c)(b a H:List c):∃new,x::(b++y::(a++H))=new++H:=⟨x::(b++y::a),by simp⟩
theorem yU {m:Code->St->Option (Ex×St)}(g:yu m):Qaz (jr m):=by
 intro H u t orc b ver l v h;unfold jr at h;split at h;case h_2=>cases h
 split at h;case h_2=>cases h
 split at h;case h_2=>cases h
 rename_i x n;split at h;case h_2=>cases h
 split at h;case h_3=>cases h
 ·rename_i s k;split at h;case h_2=>cases h
  simp only[jIj] at h;subst h;intro c o a;simp only[jIj] at a;subst a;simp only[jAj] at c;obtain⟨_,_,i⟩:=g _ _ _ _ n;obtain⟨_,_,j⟩:=g _ _ _ _ k;obtain⟨k1,r,d⟩:=j c.2;obtain⟨_,q,f⟩:=i k1;simp only at d f;rw[d,f];exact Qjt _ _ _ _ _
 ·rename_i e s p k;split at h;case h_2=>cases h
  simp only[jIj] at h;subst h;intro c o a;simp only[jIj] at a;subst a;simp only[jAj] at c;obtain⟨_,_,i⟩:=g _ _ _ _ n;obtain⟨_,_,j⟩:=g _ _ _ _ k;obtain⟨k1,r,d⟩:=j c.2;obtain⟨_,q,f⟩:=i k1;simp only at d f;rw[d,f];exact Qjt _ _ _ _ _
theorem Qc3 {cx:Cx}{call:Jt}(hc:zj call){m:Uu}(p:Qaz m){ops:Array Oper}{base i:Nat}{s s' : St}(h:qN cx call m ops base i s=some s') :
  s'.vis=s.vis/\s'.nr=s.nr/\(s'.sfx=true->s.sfx=true/\∃new,s'.hp=new++s.hp):=by
 unfold qN at h;split at h
 ·cases h
 split at h
 ·cases h
 ·obtain⟨a,g,b,c,n⟩:=Uw h;exact⟨b,c,fun e=>⟨by rw[<-n];exact e,[],by rw[a];rfl⟩⟩
 ·split at h
  ·split at h
   ·split at h
    ·cases h
    rename_i j f;obtain⟨a,g,b,c⟩:=wg h;refine⟨g,b,fun e=>?_⟩;obtain⟨k,l⟩:=c e;refine⟨k,?_⟩;rw[a];unfold RC.heap;split
    ·rename_i o d;exact p _ _ _ _ _ _ _ j f l _ d
    ·exact⟨j.up,rfl⟩
   split at h
   ·cases h
   split at h
   ·cases h
   rename_i j f;obtain⟨a,g,b,c⟩:=wg h;refine⟨g,b,fun e=>?_⟩;obtain⟨k,l⟩:=c e;refine⟨k,?_⟩;rw[a];unfold RC.heap;split
   ·rename_i o d;exact hc _ _ _ _ _ _ _ j f l _ d
   ·exact⟨j.up,rfl⟩
  ·split at h
   ·cases h
   obtain⟨a,g,b,c⟩:=wg h;refine⟨g,b,fun e=>⟨(c e).1,_,a⟩⟩
theorem zN {cx:Cx}{call:Jt}(hc:zj call){c:Uu}(b:Qaz c){ops:Array Oper}{base:Nat}:∀(l:List Nat) (s s' : St),UZ cx call c ops base l s=some s' ->
  s'.vis=s.vis/\s'.nr=s.nr/\(s'.sfx=true->s.sfx=true/\∃new,s'.hp=new++s.hp)
 | [],s,s',h=>by simp only[UZ,jIj] at h;subst h;exact⟨rfl,rfl,fun a=>⟨a,[],rfl⟩⟩
 | i::l,s,s',h=>by
  simp only[UZ] at h;split at h;case h_2=>cases h
  rename_i t p;obtain⟨d,e,f⟩:=Qc3 hc b p;obtain⟨b1,g,j⟩:=zN hc b l t s' h;refine⟨b1.trans d,g.trans e,fun a=>?_⟩;obtain⟨k,q,m⟩:=j a;obtain⟨n,r,o⟩:=f k;exact⟨n,q++r,by rw[m,o,List.append_assoc]⟩
theorem Eh {c:Code->St->Option (Ex×St)}(e:yu c){cx:Cx}{f:FuncId}{a:List AV}{s s' : St}{x:AV}(h:KM c cx f a s=some (x,s')):s'.sfx=true->∃new,s'.hp=new++s.hp:=by
 unfold KM at h;split at h
 ·cases h
 split at h
 ·cases h
 split at h
 ·cases h
 ·rename_i i _ g;obtain⟨_,_,d⟩:=e _ _ _ _ g;split at h
  ·simp only[jIj,jPj] at h;obtain⟨rfl,rfl⟩:=h;exact fun b=>(d b).2
  ·simp only[jIj,jPj] at h;obtain⟨rfl,rfl⟩:=h;exact fun b=>(d b).2
  ·cases h
 ·cases h
 ·cases h
theorem jP {H:List (Nat×Blk)}{nx:Nat}{x:AV}{s' : St}{a:RC}(h:uC H nx x s'=some a) :
  YG H nx=true/\a={ val:=x,up:=[],full:=some s'.hp,nx:=s'.nx,ob:=s'.ob,orc:=s'.orc,sfx:=s'.sfx }:=by
 unfold uC at h;split at h
 ·rename_i b;simp only[jIj] at h;exact⟨b,h.symm⟩
 ·cases h
theorem wd {H:List (Nat×Blk)}{nx:Nat}{x:AV}{s' : St}{d:RC}(h:zb H nx x s'=some d) :
  ∃b k,x=.own b k.ver/\s'.sfx=true/\JW H (s'.hp.length - H.length) s'.hp=true/\YG H nx=true/\look s'.hp b=some k/\look H b=none/\jU k=true /\
   d={ val:=.own b k.ver,up:=[(b,k)],full:=none,nx,ob:=s'.ob,orc:=s'.orc,sfx:=true }:=by
 unfold zb at h;split at h;case h_2=>cases h
 rename_i b ver hc;split at h;case h_2=>cases h
 rename_i k e f;split at h;case h_2=>cases h
 rename_i a;simp only[jAj] at a;have c:=Z1 a.2;subst c;simp only[jAj] at hc;simp only[jIj] at h;refine⟨b,k,rfl,hc.1.1,hc.1.2,hc.2,e,?_,a.1,h.symm⟩;cases hl:look H b with
 | none=>rfl
 | some k =>
  have:=V9.2 (show look H b≠none by rw[hl];simp);rw[f] at this;cases this
theorem uO {H:List (Nat×Blk)}{a:Nat}{x:AV}{s' : St}{b:RC}(h:zb H a x s'=some b):YG H a=true/\b.ob=s'.ob:=by obtain⟨_,_,_,_,_,c,_,_,_,rfl⟩:=wd h;exact⟨c,rfl⟩
theorem yr {A:Code->St->Option (Ex×St)}{cx:Cx}{keepable:Bool}{H:List (Nat×Blk)}{nx:Nat}{sym:Bool}{orc:List Orc}{f:FuncId}{c:List AV}{b:RC}(h:QbM A cx keepable H nx sym orc f c=some b) :
    ∃k,cx.P.funcs[f]?=some k /\
      ((k.body=none/\∃vs v,allV c=some vs/\Zu cx.P (callFunc f vs.toArray)=some (.value v)/\b.val=.d (ofV v)/\b.up=[]/\b.full=none/\b.sfx=true) \/
       (k.body.isSome=true/\∃r ds l,Kr H c=some (ds,l)/\b.val=.d r/\(b.up=Qd H l\/(b.up=[]/\Qev r=true))/\b.full=none/\(b.ob=[Computes cx f ds r]\/∃g,cx.K f=some g/\g ds=some r)) \/
       (k.body.isSome=true/\YG H nx=true/\∃o' x s',KM A cx f c { nt:=0,sym,tm:=[],hp:=H,nx,orc:=o',ob:=[],vis:=nx,sfx:=true }=some (x,s')/\b.ob=s'.ob /\
          ((b.val=x/\b.up=[]/\b.full=some s'.hp/\b.sfx=s'.sfx)\/(∃y,QbZ H x s'=some y/\b.val=y/\b.up=[]/\b.full=none)\/(zb H nx x s'=some b))) \/
       (k.body.isSome=true/\∃bo r o ks o',kH cx H nx f c bo r o ks o'=some b)):=by
  unfold QbM at h;split at h
  · cases h
  rename_i k q;refine⟨k,q,?_⟩;split at h
  · rename_i p
    split at h;case h_2=>cases h
    rename_i vs z;split at h;case h_2=>cases h
    rename_i v F;simp only[jIj] at h;subst h;exact .inl ⟨p,vs,v,z,F,rfl,rfl,rfl,rfl⟩
  · rename_i J p
    have a:k.body.isSome=true:=by rw[p];rfl
    right;split at h
    · split at h
      case h_2=>cases h
      rename_i ds l n;simp only[jIj] at h;subst h;exact .inl ⟨a,_,ds,l,n,rfl,.inl rfl,rfl,.inl rfl⟩
    · exact .inr (.inr ⟨a,_,_,_,_,_,h⟩)
    · split at h
      case h_3=>cases h
      rename_i x s' e;obtain⟨k1,j⟩:=jP h;subst j;exact .inr (.inl ⟨a,k1,_,x,s',e,rfl,.inl ⟨rfl,rfl,rfl,rfl⟩⟩);rename_i x s' e;obtain⟨k1,j⟩:=uO h;exact .inr (.inl ⟨a,k1,_,x,s',e,j,.inr (.inr h)⟩)
    · split at h
      case h_2=>cases h
      rename_i ds l s n;simp only[jIj] at h;subst h;exact .inl ⟨a,_,ds,l,n,rfl,.inr ⟨rfl,s⟩,rfl,.inl rfl⟩
    · split at h
      · rename_i G i
        simp only[jIj] at h;subst h;unfold Qh3 at i;split at i;case h_2=>cases i
        rename_i g0 E C;split at i;case h_2=>cases i
        rename_i ds l n;split at i;case h_2=>cases i
        rename_i L t;simp only[jIj] at i;subst i;exact .inl ⟨a,_,ds,l,n,rfl,.inl rfl,rfl,.inr ⟨_,E,t⟩⟩
      split at h;case h_2=>cases h
      rename_i x s' m e;right;left;split at h
      · rename_i y _ u
        simp only[jIj] at h;subst h;exact⟨a,m,_,x,s',e,rfl,.inr (.inl ⟨y,u,rfl,rfl,rfl⟩)⟩
      · split at h
        · obtain⟨k1,j⟩:=jP h
          subst j;exact⟨a,k1,_,x,s',e,rfl,.inl ⟨rfl,rfl,rfl,rfl⟩⟩
        · cases h
      · split at h
        · obtain⟨k1,j⟩:=jP h
          subst j;exact⟨a,k1,_,x,s',e,rfl,.inl ⟨rfl,rfl,rfl,rfl⟩⟩
        · simp only[jIj] at h;subst h
          exact⟨a,m,_,x,s',e,rfl,.inr (.inl ⟨_,by assumption,rfl,rfl,rfl⟩)⟩
        · split at h
          · cases h
          · obtain⟨k1,j⟩:=uO h
            exact⟨a,k1,_,x,s',e,j,.inr (.inr h)⟩
    · cases h
theorem Qg7 {cx:Cx}{H:List (Nat×Blk)}{e:Nat}{f:FuncId}{a:List AV}{b ver sz:Nat}{es:jVj}{r:AV}{c : List OC}{o' : List Orc}{d:RC}(h:arow cx H e f a b ver sz es r c o'=some d):d.full=none:=by
 unfold arow at h;split at h;case h_2=>cases h
 split at h;case h_2=>cases h
 split at h
 ·cases h
 ·simp only[jIj] at h;subst h;rfl
theorem Qhb {cx:Cx}{H:List (Nat×Blk)}{e:Nat}{f:FuncId}{a:List AV}{b:Nat}{es:jVj}{r:AV}{c : List OC}{o' : List Orc}{d:RC}(h:amap cx H e f a b es r c o'=some d):d.full=none:=by
 unfold amap at h;split at h;case h_2=>cases h
 split at h
 ·cases h
 ·simp only[jIj] at h;subst h;rfl
theorem Qel {cx:Cx}{H:List (Nat×Blk)}{d:Nat}{f:FuncId}{a:List AV}{bo:Option Nat}{r:AV}{b : List OC}{ks:List Bool}{o' : List Orc}{c:RC}(h:kH cx H d f a bo r b ks o'=some c):c.full=none:=by
 unfold kH at h;split at h;case h_2=>cases h
 split at h
 ·split at h;case h_3 =>
   unfold QiB at h;split at h;case h_2=>cases h
   exact Qhb h
  case h_2=>exact Qg7 h
  split at h;case h_2=>cases h
  split at h;case h_2=>cases h
  split at h;case h_2=>cases h
  split at h<;>(simp only[jIj] at h;subst h;rfl)
 ·split at h
  ·split at h;case h_2=>cases h
   simp only[jIj] at h;subst h;rfl
  split at h;case h_2=>cases h
  simp only[jIj] at h;subst h;rfl
theorem kG {g:Code->St->Option (Ex×St)}(j:yu g)(cx:Cx):zj (QbM g cx):=by
 intro keepable H o l orc f e p h k n a;obtain⟨m,_,hc⟩:=yr h;obtain⟨_,_,_,_,_,_,_,b,_⟩|⟨_,_,_,_,_,_,_,b,_⟩|⟨_,_,o',x,s',b,_,i⟩|⟨_,_,_,_,_,_,d⟩:=hc;case inr.inr.inr=>rw[Qel d] at a;cases a
 ·rw[b] at a;cases a
 ·rw[b] at a;cases a
 ·obtain⟨_,_,c,d⟩|⟨_,_,_,_,c⟩|c:=i
  ·rw[c] at a;cases a;exact Eh j b (by rw[<-d];exact k)
  ·rw[c] at a;cases a
  ·obtain⟨_,_,_,_,_,_,_,_,_,rfl⟩:=wd c;cases a
theorem QiY (ops:Array Oper)(s:St):∃new,(X4 ops s).hp=new++s.hp:=by
 unfold X4;split
 ·split
  ·rename_i c _ a _ _ _ _ _ _;obtain⟨new,b⟩:=Qba c (Qd s.hp a++s.hp);exact⟨new++Qd s.hp a,by rw[List.append_assoc];exact b⟩
  ·exact⟨[],rfl⟩
 ·exact⟨_,rfl⟩
theorem XG (cx:Cx):∀n,yu (We n cx):=by
 intro n;induction n with
 | zero=>intro c s e s' h;simp[We] at h
 | succ n ih =>
  intro c s e s' h;have hc:=kG ih cx;cases c with
  | skip=>simp only[We,jIj,jPj] at h;obtain⟨rfl,rfl⟩:=h;exact⟨rfl,rfl,fun j=>⟨j,[],rfl⟩⟩
  | label l=>simp only[We,jIj,jPj] at h;obtain⟨rfl,rfl⟩:=h;exact⟨rfl,rfl,fun j=>⟨j,[],rfl⟩⟩
  | region id ops draw =>
   simp only[We,St.force_eq] at h;split at h
   ·split at h;case h_2=>cases h
    rename_i H k;simp only[jIj,jPj] at h;obtain⟨rfl,rfl⟩:=h;(have d:=zN hc (yU ih) _ _ _ k;exact d)
   ·split at h;case h_2=>cases h
    split at h;case h_2=>cases h
    simp only[jIj,jPj] at h;obtain⟨rfl,rfl⟩:=h;refine⟨rfl,rfl,fun j=>⟨j,?_⟩⟩;obtain⟨new,o⟩:=QiY ops s;rw[o];exact⟨_++new,by rw[List.append_assoc]⟩
  | seq a b =>
   simp only[We] at h;split at h
   ·rename_i H k;obtain⟨q,r,u⟩:=ih _ _ _ _ k;obtain⟨b1,v,y⟩:=ih _ _ _ _ h;refine⟨b1.trans q,v.trans r,fun j=>?_⟩;obtain⟨z,F,A⟩:=y j;obtain⟨C,G,E⟩:=u z;exact⟨C,F++G,by rw[A,E,List.append_assoc]⟩
   ·(have d:=ih _ _ _ _ h;exact d)
  | cond x t e' =>
   simp only[We] at h;split at h;case h_2=>cases h
   split at h
   ·(have d:=ih _ _ _ _ h;exact d)
   ·(have d:=ih _ _ _ _ h;exact d)
   ·split at h
    ·(have d:=ih _ _ _ _ h;exact d)
    ·(have d:=ih _ _ _ _ h;exact d)
   ·cases h
  | block id body =>
   simp only[We] at h;split at h
   ·rename_i i H k;have:=ih _ _ _ _ k;split at h
    ·simp only[jIj,jPj] at h;obtain⟨rfl,rfl⟩:=h;exact this
    ·simp only[jIj,jPj] at h;obtain⟨rfl,rfl⟩:=h;exact this
   ·(have d:=ih _ _ _ _ h;exact d)
  | scope body=>simp only[We] at h;(have d:=ih _ _ _ _ h;exact d)
  | loop body =>
   simp only[We] at h;split at h
   ·split at h;case h_2=>cases h
    simp only[jIj,jPj] at h;obtain⟨rfl,rfl⟩:=h;exact⟨rfl,rfl,fun j=>by cases j⟩
   ·split at h
    ·rename_i H k;obtain⟨q,r,u⟩:=ih _ _ _ _ k;obtain⟨b1,v,y⟩:=ih _ _ _ _ h;refine⟨b1.trans q,v.trans r,fun j=>?_⟩;obtain⟨z,F,A⟩:=y j;obtain⟨C,G,E⟩:=u z;exact⟨C,F++G,by rw[A,E,List.append_assoc]⟩
    ·(have d:=ih _ _ _ _ h;exact d)
   ·cases h
  | rangeFunc f ps as bd =>
   simp only[We] at h;split at h;case h_2=>cases h
   rename_i g a0 b0 K J m;split at h;case h_2=>cases h
   rename_i O M;split at h;case h_3=>cases h
   all_goals simp only[jIj,jPj] at h;obtain⟨rfl,rfl⟩:=h
   all_goals refine⟨rfl,rfl,fun j=>?_⟩
   all_goals simp only[jAj] at j m
   all_goals (
    obtain⟨new,o⟩:=Eh ih M j.2.2;refine⟨j.2.1,(s.nx,.dead)::new.filter (fun p=>!(Nat.beq p.1 s.nx)),?_⟩;simp only at o;have L:s.hp.filter (fun p=>!(Nat.beq p.1 s.nx))=s.hp:=by
     refine List.filter_eq_self.2 fun p hp=>?_;have:=List.all_eq_true.1 m.1 p hp;simp only[Nat.blt_eq] at this;cases hq:Nat.beq p.1 s.nx with
     | true=>have:=jqj hq;omega
     | false=>rfl
    have N:(!(Nat.beq s.nx s.nx))=false:=by simp
    simp only[o,List.filter_append,List.cons_append];rw[List.filter_cons_of_neg (by simp),L])
  | exit id=>simp only[We,jIj,jPj] at h;obtain⟨rfl,rfl⟩:=h;exact⟨rfl,rfl,fun j=>⟨j,[],rfl⟩⟩
  | ret=>simp only[We,jIj,jPj] at h;obtain⟨rfl,rfl⟩:=h;exact⟨rfl,rfl,fun j=>⟨j,[],rfl⟩⟩
  | _=>simp only[We] at h;cases h
def ExOK (cx:Cx)(f:Code->St->Option (Ex×St)):Prop :=
 ∀(c:Code) (s:St) (e:Ex) (s' : St),f c s=some (e,s')->(∀p,p∈s'.ob->p)->(∀p,p∈s.ob->p) /\
  ∀(rr:Option Nat) (F:Nat->Prop) (ρ:Nat->Value) (a:Act) (w:World),(s.rnd=false->rr=none)->Sim cx F s ρ a w ->
   wpR rr cx.P c (fun d b w'=>d=Jk e/\After cx F s.vis s.nt s.hp ρ w a.defers s'.tm s'.hp b w') a w
theorem wU:∀(a:List AV) (n t:Nat),look (Eg n a) (n+t)=a[t]?
 | [],n,t=>by simp[Eg,look]
 | x::l,n,t=>by
  simp only[Eg];cases t with
  | zero=>show look ((n,x)::Eg (n+1) l) n=_;rw[Qf];rfl
  | succ t =>
   rw[Qc _ _ (by omega),show n+(t+1)=n+1+t from by omega,wU l (n+1) t];rfl
def resF (tmps:Array Value):ResultVar->Sem Value
 | .tmp t=>pure (tmps.getD t undef)
 | .cell b t=>do loadVar t (<-asAddr (tmps.getD b undef))
theorem Qes (a:Func)(tmps:Array Value):results a tmps=(do let vs <-a.results.mapM (resF tmps);pure (if h:vs.size=1 then vs[0] else .tuple vs)):=by unfold results;exact congrArg (fun f:ResultVar->Sem Value=>(do let vs <-a.results.mapM f;pure (if h:vs.size=1 then vs[0] else .tuple vs):Sem Value)) (by funext x;cases x<;>rfl)
def QjB:List AV->AV
 | [x]=>x
 | l=>AV.norm (.tup l)
theorem J4 {cx:Cx}{F:Nat->Prop}{hp:List (Nat×Blk)}{ρ:Nat->Value}{w:World}{a:Act}{tm:List (Nat×AV)}(h:HSim cx F hp ρ w)(j:TSim F tm hp ρ a w):∀(N:List ResultVar) (xs:List AV),U1 cx tm hp N=some xs ->
  ∃vs:List Value,(N.mapM (resF a.tmps)).run cx.P w=.ok vs w/\xs.length=vs.length /\
   ∀(i:Nat) (c:AV) (y:Value),xs[i]?=some c->vs[i]?=some y->VR w (MM F hp ρ) hp ρ c y
 | [],xs,hx=>by simp only[U1,jIj] at hx;subst hx;exact⟨[],by simp,rfl,by simp⟩
 | .tmp t::l,xs,hx=>by
  simp only[U1] at hx;split at hx;case h_2=>cases hx
  rename_i x r A E;simp only[jIj] at hx;subst hx;obtain⟨vs,o,p,q⟩:=J4 h j l r E;refine⟨a.tmps.getD t undef::vs,by simp only[List.mapM_cons,resF,Sem.run_bind,Sem.run_pure,Result.andThen_ok,o],by simp[p],fun i c y hc f=>?_⟩;cases i with
  | zero=>simp only[jzj,jIj] at hc f;subst hc;subst f;exact j t x A
  | succ i=>exact q i c y (by simpa using hc) (by simpa using f)
 | .cell b t::l,xs,hx=>by
  simp only[U1] at hx;split at hx;case h_2=>cases hx
  rename_i L ver sz off s g r A S O E;split at hx;case h_2=>cases hx
  rename_i x M;split at hx;case h_2=>cases hx
  rename_i y f;simp only[jIj] at hx;subst hx;obtain⟨vs,o,p,q⟩:=J4 h j l r E;have d:=j b _ A;have u:KZ false [] hp L ver sz 0=some (x,[],[]):=by simp[KZ,M]
  have H:∀m,VR w (MM F hp ρ) hp ρ (.ptr L ver sz 0 off) m->∃v,(do loadVar t (<-asAddr m):Sem Value).run cx.P w=.ok v w/\VR w (MM F hp ρ) hp ρ y v:=by
   intro m d;obtain⟨v,n,J⟩:=uA h d S O u (by simp) f;have C:∃K,m=.pointer (some K):=by
    cases d with
    | ptr _ _ _ _ _ k _ e T U Q =>
     rw[M] at e;cases e;obtain⟨V,_,rfl⟩:=Q (by simp only[Blk.ver] at T ⊢;omega);exact⟨_,rfl⟩
   obtain⟨K,rfl⟩:=C;exact⟨v,n,J⟩
  obtain⟨v,n,J⟩:=H _ d;refine⟨v::vs,?_,by simp[p],fun i c z hc G=>?_⟩
  ·simp only[List.mapM_cons,resF,Sem.run_bind] at n ⊢;rw[n];simp only[Result.andThen_ok,o,Sem.run_pure]
  ·cases i with
   | zero=>simp only[jzj,jIj] at hc G;subst hc;subst G;exact J
   | succ i=>exact q i c z (by simpa using hc) (by simpa using G)
theorem Qde {cx:Cx}{F:Nat->Prop}{hp:List (Nat×Blk)}{ρ:Nat->Value}{w:World}{a:Act}{tm:List (Nat×AV)}(h:HSim cx F hp ρ w)(i:TSim F tm hp ρ a w){d:Func}{xs:List AV}(f:U1 cx tm hp d.results.toList=some xs) :
  ∃v,(results d a.tmps).run cx.P w=.ok v w/\VR w (MM F hp ρ) hp ρ (QjB xs) v:=by
 obtain⟨vs,e,g,c⟩:=J4 h i _ xs f;have b:(results d a.tmps).run cx.P w=.ok (if h:vs.toArray.size=1 then vs.toArray[0] else .tuple vs.toArray) w:=by rw[Qes,Array.mapM_eq_mapM_toList];simp only[Sem.run_bind,Sem.run_map,e,Result.andThen_ok,Sem.run_pure]
 clear f e;match xs,vs,g,c,b with
 | [x],[v],_,c,b=>exact⟨v,by rw[b];rfl,c 0 x v rfl rfl⟩
 | [],[],_,_,b =>
  refine⟨.tuple #[],by rw[b];rfl,?_⟩;have:=VR.tup (w:=w) (M:=MM F hp ρ) (hp:=hp) (ρ:=ρ) [] [] rfl (by simp);exact Ug this
 | x::y::l,v::u::m,hl,c,b =>
  refine⟨.tuple (v::u::m).toArray,by rw[b];simp,?_⟩;have:=VR.tup (w:=w) (M:=MM F hp ρ) (hp:=hp) (ρ:=ρ) _ _ hl c;exact Ug this
theorem QY (hp:List (Nat×Blk))(b:Nat):∀l:List Nat,¬b∈l->look (Qd hp l++hp) b=look hp b
 | [],_=>rfl
 | q::l,hq=>by
  simp only[List.mem_cons,not_or] at hq;simp only[Qd];split
  ·rw[List.cons_append,Qc _ _ (fun e=>hq.1 e.symm)];exact QY hp b l hq.2
  ·split
   ·rw[List.cons_append,Qc _ _ (fun e=>hq.1 e.symm)];exact QY hp b l hq.2
   ·exact QY hp b l hq.2
  ·rw[List.cons_append,Qc _ _ (fun e=>hq.1 e.symm)];exact QY hp b l hq.2
  ·exact QY hp b l hq.2
theorem Gk {H:List (Nat×Blk)}:∀(new a:List (Nat×Blk)),JW H new.length (new++a)=true->∀b,look H b≠none->look new b=none
 | [],_,_,_,_=>rfl
 | (k,x)::l,a,h,b,hb=>by
  simp only[List.cons_append,List.length_cons,JW,jAj,Bool.not_eq_true'] at h;have c:k≠b:=by intro e;subst e;have:=V9.2 hb;rw[h.1] at this;cases this
  rw[Qc _ _ c];exact Gk l a h.2 b hb
theorem VO {H:List (Nat×Blk)}{a:Nat}(h:YG H a=true){b:Nat}{k:Blk}(c:look H b=some k):b<a:=by obtain⟨x,d⟩:=Gd (l:=H) (b:=b) (by rw[c];simp);simp only[YG,List.all_eq_true] at h;have:=h _ d;simpa using this
structure NoAsk (cx:Cx):Prop where
 ask:∀(f:FuncId) (fn:Func),cx.P.funcs[f]?=some fn->fn.body.isSome=true->(fn.name=="runtime.NumGoroutine")=false
 known:∀(f:FuncId) (g:jVj->Option D) (ds:jVj) (r:D),cx.K f=some g->g ds=some r->Computes cx f ds r
theorem En {cx:Cx}(h:NoAsk cx){f:FuncId}{b:Func}(d:cx.P.funcs[f]?=some b)(c:b.body.isSome=true)(a:Array Value)(w:World):(callFunc f a).run cx.P w=.ok (.enter f a) w:=by
 have e:=h.ask f b d c;have g:b.body.isNone=false:=by cases hh:b.body with
  | none=>rw[hh] at c;cases c
  | some _=>rfl
 simp only[callFunc,Sem.run_bind,run_program,Result.andThen_ok,d];simp[e,g]
def qE:Obj->Prop
 | .loop _=>True
 | .deferred _=>True
 | _=>False
theorem Qaf {w:World}{a:Nat}{o:Obj}(h:w.heap[a]?=some o)(c:qE o)(o' : Obj){p:Addr}{v:Value}(hp:w.cell? p=some v):(w.putObj a o').cell? p=some v:=by
 have b:p.block≠a:=by intro e;unfold World.cell? at hp;rw[e,h] at hp;cases o<;>simp_all [qE]
 unfold World.cell? at hp ⊢;rw[World.putObj_heap_other b];exact hp
theorem DR.put {w:World}{p:Nat}{o:Obj}(h:w.heap[p]?=some o)(n:qE o)(o' : Obj){M:Nat->Prop}{x:SX.D}{y:Value}(t:DR w M x y):DR (w.putObj p o') M x y:=by
 induction t with
 | v x=>exact .v x
 | agg cs ys hl h ih=>exact .agg cs ys hl ih
 | tup cs ys hl h ih=>exact .tup cs ys hl ih
 | lst full sz es a cap blk off ys hf hcp ha hsz hw hd ih =>
  refine .lst full sz es a cap blk off ys hf hcp (fun m=>?_) hsz (fun i e j c s l=>?_) ih
  ·obtain⟨d,g,q⟩:=ha m;exact⟨d,g,by rw[World.putObj_size];exact q⟩
  ·obtain⟨d,g⟩:=hw i e j c s l;exact⟨Qaf h n o' d,g⟩
 | fn f a b xs ys hl hm' h k ih ik=>exact .fn f a b xs ys hl hm' ih ik
 | ref x off blk o2 ys d g hw hd ih=>exact .ref x off blk o2 ys d (by rw[World.putObj_size];exact g) (fun j c l=>Qaf h n o' (hw j c l)) ih
 | nan k b h=>exact .nan k b h
 | mp es vs r es' c d g hw hl hv hk _ ih=>exact .mp es vs r es' c d (by rw[World.putObj_size];exact g) (by rw[World.putObj_heap_other (fun e=>by rw[e,h] at hw;cases hw;exact n)];exact hw) hl hv hk ih
theorem DAt.put {w:World}{a:Nat}{o:Obj}(h:w.heap[a]?=some o)(b:qE o)(o' : Obj){M:Nat->Prop}{blk off:Nat}{x:SX.D}(k:DAt w M blk off x):DAt (w.putObj a o') M blk off x:=by obtain⟨d,e,f⟩:=k;refine⟨d,by rw[World.putObj_size];exact e,fun j c i=>?_⟩;obtain⟨y,l,g⟩:=f j c i;exact⟨y,Qaf h b o' l,g.put h b o'⟩
theorem GAt.put {w:World}{a:Nat}{o:Obj}(h:w.heap[a]?=some o)(d:qE o)(o' : Obj){M:Nat->Prop}{g:Nat}{x:SX.D}(j:GAt w M g x):GAt (w.putObj a o') M g x:=by
 obtain⟨f,cs,t,fz,b,i⟩:=j;have c:g≠a:=by intro e;subst e;rw[h] at b;cases b;exact d
 exact⟨f.put h d o',cs,t,fz,by rw[World.putObj_heap_other c];exact b,i⟩
theorem VR.put {w:World}{g:Nat}{o:Obj}(h:w.heap[g]?=some o)(c:qE o)(o' : Obj){M:Nat->Prop}{hp:List (Nat×Blk)}{ρ:Nat->Value}{x:AV}{y:Value}(j:VR w M hp ρ x y):VR (w.putObj g o') M hp ρ x y:=by
 induction j with
 | d x y e=>exact .d x y (e.put h c o')
 | agg cs ys hl h ih=>exact .agg cs ys hl ih
 | tup cs ys hl h ih=>exact .tup cs ys hl ih
 | dptr x off blk o2 e=>exact .dptr x off blk o2 (e.put h c o')
 | ptr b ver sz i off k y hb hv c h=>exact .ptr b ver sz i off k y hb hv c h
 | own b ver k y hb hv c h=>exact .own b ver k y hb hv c h
 | sub b ver sz lo n k y hb hv c h=>exact .sub b ver sz lo n k y hb hv c h
 | fn f a b xs ys hl hm' h k ih ik=>exact .fn f a b xs ys hl hm' ih ik
 | junk y=>exact .junk y
theorem BlkR.put {w:World}{A:Nat}{o:Obj}(h:w.heap[A]?=some o)(z:qE o)(o' : Obj){M:Nat->Prop}{hp:List (Nat×Blk)}{ρ:Nat->Value}{b:Nat}{k:Blk}(E:(∃ds,o=.deferred ds)\/wH k=true)(q:BlkR w M hp ρ b k):BlkR (w.putObj A o') M hp ρ b k:=by
 have F:∀{r:Nat} {c:Array Value} {e:TypeId},w.heap[r]?=some (.cells c e (0,0))->r≠A:=by intro r c e C X;subst X;rw[h] at C;cases C;exact z.elim
 cases k with
 | box x =>
  obtain⟨r,e,v,cs,m,g,f,u⟩:=q;exact⟨r,e,v,cs,m,(World.putObj_heap_other (F g)).trans g,f,u.put h z o'⟩
 | row ver sz es =>
  obtain⟨m,a,g⟩|⟨r,c,e,cap,m,g,f,u,J,K⟩:=q
  ·exact .inl ⟨m,a,g⟩
  refine .inr ⟨r,c,e,cap,m,g,f,(World.putObj_heap_other (F u)).trans u,J,fun i d j a W Y=>?_⟩;obtain⟨y,y1,y2,y3⟩:=K i d j a W Y;exact⟨y,y1,y2,y3.put h z o'⟩
 | frozen ver sz es=>exact DR.put h z o' q
 | virt ver sz es=>exact DR.put h z o' q
 | loop rdy tm ps as bd nt =>
  obtain⟨ds,rfl⟩|E:=E
  ·obtain⟨l,P,m,f,u,J,K,S,T,U,H⟩:=q;have L:l≠A:=by intro e;subst e;rw[h] at f;cases f
   exact⟨l,P,m,(World.putObj_heap_other L).trans f,u,J,K,S,T,U,fun t x q=>(H t x q).put h z o'⟩
  ·cases E
 | mp es =>
  obtain⟨r,es',c,m,g,f⟩:=q;have C:r≠A:=by intro e;subst e;rw[h] at g;cases g;exact z.elim
  refine⟨r,es',c,m,(World.putObj_heap_other C).trans g,?_⟩;have N:∀{es:List SX.D} {l:List MapEntry},MR w M es l->MR (w.putObj A o') M es l:=by
   intro es;induction es with
   | nil=>intro l G;cases l with
    | nil=>trivial
    | cons e l=>exact G.elim
   | cons d es ih=>intro l G;cases l with
    | nil=>exact G.elim
    | cons e l =>
     obtain⟨⟨x,q,Z⟩,u⟩:=G;exact⟨⟨x,q,Z.put h z o'⟩,ih u⟩
  exact⟨N f.1,f.2⟩
 | it s p =>
  obtain⟨r,m,g⟩:=q;obtain⟨o1,f,u⟩:=g.obj;have C:r≠A:=by intro e;subst e;rw[h] at f;cases f;obtain⟨_,_,rfl⟩|⟨_,_,_,_,rfl⟩:=u<;>exact z.elim
  refine⟨r,m,?_⟩;cases s with
  | str s=>exact(World.putObj_heap_other C).trans g
  | mp v n =>
   obtain⟨Q,es,c,seen,q1,q2,O,q4⟩:=g;have V:Q≠A:=by intro e;subst e;rw[h] at O;cases O;exact z.elim
   exact⟨Q,es,c,seen,(World.putObj_heap_other C).trans q1,q2,(World.putObj_heap_other V).trans O,q4⟩
 | left e =>
  obtain⟨ds,rfl⟩|E:=E
  ·obtain⟨l,P,m,f,u⟩:=q;have L:l≠A:=by intro e;subst e;rw[h] at f;cases f
   exact⟨l,P,m,(World.putObj_heap_other L).trans f,u⟩
  ·cases E
 | fbox x =>
  obtain⟨r,m,g⟩:=q;exact⟨r,m,g.put h z o'⟩
 | dead=>trivial
theorem HSim.put {cx:Cx}{F:Nat->Prop}{hp:List (Nat×Blk)}{ρ:Nat->Value}{w:World}{c:Nat}{o:Obj}(h:w.heap[c]?=some o)(d:qE o)(f:∃ds,o=.deferred ds)(o' : Obj)(a:HSim cx F hp ρ w):HSim cx F hp ρ (w.putObj c o') :=
 ⟨fun b k e=>(a.blk b k e).put h d o' (.inl f),a.inj,a.forb,fun r j=>by rw[World.putObj_size];exact a.bnd r j,fun g x i=>(a.glob g x i).put h d o'⟩
theorem HSim.mut_cells {cx:Cx}{F:Nat->Prop}{hp:List (Nat×Blk)}{ρ:Nat->Value}{w:World}(u:HSim cx F hp ρ w){r:Nat}(d:Mut hp ρ r):∃o,w.heap[r]?=some o/\∀ds,o≠.deferred ds:=by
 obtain⟨b,k,q,i,d⟩:=d;have:=u.blk b k q;cases k with
 | box x =>
  obtain⟨m,e,v,cs,g,f,_⟩:=this;rw[g] at d;cases d;exact⟨_,f,nofun⟩
 | row ver sz es =>
  obtain⟨_,a,f⟩|⟨m,c,e,cap,g,f,_,j,_⟩:=this
  ·rw[f,WG] at d;cases d
  ·rw[g,Q8 f.2] at d;cases d;exact⟨_,j,nofun⟩
 | mp es =>
  obtain⟨m,es',c,g,f,_⟩:=this;rw[g] at d;cases d;exact⟨_,f,nofun⟩
 | it s p =>
  obtain⟨m,g,f⟩:=this;obtain⟨o,j,n⟩:=f.obj;rw[g] at d;cases d;refine⟨_,j,fun ds t=>?_⟩;subst t;obtain⟨_,_,h⟩|⟨_,_,_,_,h⟩:=n<;>cases h
 | frozen _ _ _=>cases i
 | virt _ _ _=>cases i
 | loop _ _ _ _ _ _ =>
  obtain⟨l,y,g,f,_⟩:=this;rw[g] at d;cases d;exact⟨_,f,nofun⟩
 | fbox _=>cases i
 | left _ =>
  obtain⟨l,y,g,f,_⟩:=this;rw[g] at d;cases d;exact⟨_,f,nofun⟩
 | dead=>cases i
theorem DfTo.trans {cx:Cx}{F:Nat->Prop}{vis:Nat}{w d s:World}{hp1 o:List (Nat×Blk)}{ρ1 t:Nat->Value}{i j k:List Deferred}(K:w.heap.size<=d.heap.size)(G:HSim cx F hp1 ρ1 d)(p:StepsV vis hp1 ρ1 d o t s)
  (y:DfTo w i d j) (z:DfTo d j s k):DfTo w i s k:=by
 obtain⟨H,rfl,q,k1⟩:=y;obtain⟨J,rfl,r,x⟩:=z;refine⟨J++H,by simp,?_,fun g l=>?_⟩
 ·refine List.nodup_append.2 ⟨r,q,fun a A b C m=>?_⟩;subst m;have:=(x a A).1;have v:=(k1 a C).2;rw[Array.getElem?_eq_none (by omega)] at v;cases v
 ·obtain l|l:=List.mem_append.1 l
  ·obtain⟨u,f⟩:=x g l;exact⟨by omega,f⟩
  ·obtain⟨u,f⟩:=k1 g l;have n:g<d.heap.size:=by
    obtain h|h:=Nat.lt_or_ge g d.heap.size
    ·exact h
    ·rw[Array.getElem?_eq_none h] at f;cases f
   refine⟨u,?_⟩;rw[p.ext.same g n (fun E=>?_)]
   ·exact f
   ·obtain⟨c,e,hc⟩:=G.mut_cells E;rw[f] at e;cases e;exact hc _ rfl
theorem wJ {cx:Cx}{F:Nat->Prop}{tm:List (Nat×AV)}{hp:List (Nat×Blk)}{ρ:Nat->Value}{a:Act}{w0:World}{n:Nat}{d:Func}{R:Ending->World->Prop}:∀(b:List Nat) (w:World),HSim cx F hp ρ w->TSim F tm hp ρ a w->b.Nodup ->
  (∀dk,dk∈b->w0.heap.size<=dk/\w.heap[dk]?=some (.deferred (some [])))->w0.heap.size<=w.heap.size ->
  (∀w',HSim cx F hp ρ w'->TSim F tm hp ρ a w'->w'.os=w.os/\w'.tape=w.tape/\w'.output=w.output/\w'.drawn=w.drawn->w'.heap.size=w.heap.size->(∀r,r<w0.heap.size->w'.heap[r]?=w.heap[r]?)->LeavesInM (fen none) n cx.P d a.tmps R [] .returning w') ->
  LeavesInM (fen none) n cx.P d a.tmps R (b.map fun dk=>{ target:=.collected dk,args:=#[] }) .returning w
 | [],w,hs,ht,_,_,_,hk=>hk w hs ht ⟨rfl,rfl,rfl,rfl⟩ rfl fun _ _=>rfl
 | dk::b,w,hs,ht,hnd,hD,hw,hk=>by
  obtain⟨p,c⟩:=hD dk jMj;rw[List.nodup_cons] at hnd;refine⟨by simp,.inl ⟨dk,_,rfl,run_takeDeferred c,?_⟩⟩;refine wJ (w0:=w0) b _ (hs.put c trivial ⟨_,rfl⟩ _) (fun t x m=>(ht t x m).put c trivial _) hnd.2 (fun E f=>?_) (by rw[World.putObj_size];exact hw) fun w' g h i j k=>?_
  ·obtain⟨k1,o⟩:=hD E (jmj _ f);exact⟨k1,by rw[World.putObj_heap_other (fun e=>by subst e;exact hnd.1 f)];exact o⟩
  ·refine hk w' g h i (by rw[j,World.putObj_size]) fun r l=>?_;rw[k r l,World.putObj_heap_other (by omega)]
theorem U9 {cx:Cx}{K:Code->St->Option (Ex×St)}(hE:ExOK cx K)(hS:yu K){f:FuncId}{a:List AV}{s b:St}{x:AV}(h:KM K cx f a s=some (x,b))(ho:∀p,p∈b.ob->p) :
  (∀p,p∈s.ob->p)/\∀(F:Nat->Prop) (ρ:Nat->Value) (w:World) (vs:List Value),HSim cx F s.hp ρ w->a.length=vs.length ->
   (∀(i:Nat) (c:AV) (y:Value),a[i]?=some c->vs[i]?=some y->VR w (MM F s.hp ρ) s.hp ρ c y) ->
   Calls cx.P f vs.toArray w fun e w'=>∃v,e=.returned v/\∃ρ',HSim cx F b.hp ρ' w'/\StepsV s.vis s.hp ρ w b.hp ρ' w'/\VR w' (MM F b.hp ρ') b.hp ρ' x v:=by
 unfold KM at h;split at h
 ·cases h
 rename_i j M;split at h
 ·cases h
 rename_i W k;split at h
 ·cases h
 ·rename_i e J O N L;have X : a.length<=j.ntmps:=Nat.le_of_ble_eq_true N;have S:∃xs,U1 cx J.tm J.hp j.results.toList=some xs/\x=QjB xs/\b.hp=J.hp/\b.ob=J.ob:=by
   split at h
   ·rename_i y u;simp only[jIj,jPj] at h;obtain⟨rfl,rfl⟩:=h;exact⟨[y],u,rfl,rfl,rfl⟩
   ·rename_i l A u;simp only[jIj,jPj] at h;obtain⟨rfl,rfl⟩:=h;refine⟨l,u,?_,rfl,rfl⟩;match l,A with
    | [],_=>rfl
    | [z],hh=>exact absurd rfl (hh z)
    | _::_::_,_=>rfl
   ·cases h
  obtain⟨xs,U,hx,m,Q⟩:=S;obtain⟨e1,e2⟩:=hE _ _ _ _ L (by rw[<-Q];exact ho);refine⟨e1,fun F ρ w vs E hl hv=>?_⟩;refine(callsIn_wide (n:=0)).1 (callsIn_of_wp_marks (F:=fen none) M k trivial ?_);have q:Sim cx F { s with nt:=j.ntmps,tm:=Eg 0 a } ρ { tmps:=vs.toArray++Array.replicate (j.ntmps - vs.toArray.size) undef,defers:=[] } w:=by
   refine⟨E,fun t y u=>?_,?_⟩
   ·have:=wU a 0 t;rw[Nat.zero_add] at this;rw[this] at u;have o:t<vs.length:=by rw[<-hl];exact(jGj u).1
    have T:vs[t]?=some vs[t]:=by simp[o]
    have hg:(vs.toArray++Array.replicate (j.ntmps - vs.toArray.size) undef).getD t undef=vs[t]:=by rw[Array.getD_eq_getD_getElem?,Array.getElem?_append_left (by simpa using o)];simp[o]
    show VR w _ _ _ y ((vs.toArray++Array.replicate (j.ntmps - vs.toArray.size) undef).getD t undef);rw[hg];exact hv t y _ u T
   ·simp;omega
  refine VW (e2 none F ρ _ w (fun _=>rfl) q) ?_ 0;rintro e' V w' ⟨rfl,ρ',g1,g2,g3,G,g⟩;obtain⟨new,G,nd,C⟩:=G;simp only[List.append_nil] at G;have d:LeavesInM (fen none) 0 cx.P j V.tmps (fun e w'=>∃v,e=.returned v/\∃ρ',HSim cx F b.hp ρ' w'/\StepsV s.vis s.hp ρ w b.hp ρ' w'/\VR w' (MM F b.hp ρ') b.hp ρ' x v) V.defers .returning w':=by rw[G];refine wJ (w0:=w) new w' g1 g2 nd C g.ext.size fun a0 Z q2 H q4 q5=>?_;obtain⟨v,r1,r2⟩:=Qde Z q2 U;refine⟨v,r1,v,rfl,ρ',by rw[m];exact Z,?_,by rw[m,hx];exact r2⟩;rw[m];refine⟨⟨fun hq=>by rw[H.2.2.2];exact g.ext.drawn hq,H.1.trans g.ext.os,H.2.1.trans g.ext.tape,H.2.2.1.trans g.ext.output,by rw[q4];exact g.ext.size,fun r Y hm=>(q5 r Y).trans (g.ext.same r Y hm)⟩,g.mt,g.grow⟩
  cases e with
  | normal=>exact d
  | ret=>exact d
  | exit id=>exact absurd rfl (O id)
 ·cases h
 ·cases h
end Go.SX
