/- Plain lemmas about loops as functions: a loop over the elements of a list, a loop with a measure, two loops in step. -/
import Derived.Test.YtabbjgnpiijghaaGreatDoorSxTwentyEight
set_option linter.unusedSimpArgs false
set_option linter.unusedVariables false
set_option linter.unnecessarySimpa false
namespace Go.SX
theorem Ub {α:Type}:∀(l:List α) (i:Nat),nth l i=l[i]?
 | [],i=>by cases i<;>rfl
 | _::_,0=>rfl
 | _::l,i+1=>by simpa[nth] using Ub l i
theorem Xr {α:Type}{un:D->Option α}{enc:α->D}(a:∀x,un (enc x)=some x){l:List α}{i:Nat}{x:α}(h:l[i]?=some x):el un (l.map enc) (i:Int)=some x:=by unfold el;rw[jTj (Int.natCast_nonneg i),jtj,Ub,List.getElem?_map,h];exact a x
theorem E3 {S E:Type}{step:S->Option (S⊕E)}{k:Nat}{s s' : S}(h:step s=some (.inl s')):Q2 step (k+1) s=Q2 step k s':=by show(match step s with|none=>none|some (.inl s')=>Q2 step k s' | some (.inr e)=>some e)=_;rw[h]
theorem JB {S E:Type}{step:S->Option (S⊕E)}{k:Nat}{s:S}{e:E}(h:step s=some (.inr e)):Q2 step (k+1) s=some e:=by show(match step s with|none=>none|some (.inl s')=>Q2 step k s' | some (.inr e)=>some e)=_;rw[h]
def Y6 {α S E:Type}(g:S->α->S⊕E)(a:S->E):List α->S->E
 | [],s=>a s
 | x::l,s=>match g s x with
  | .inl s'=>Y6 g a l s'
  | .inr e=>e
theorem wI {α S T E:Type}{step:T->Option (T⊕E)}(g:S->α->S⊕E)(f:S->E)(c:Nat->S->T)(l:List α)(inv:Nat->S->Prop)
  (a:∀(i:Nat) (s:S) (x:α),l[i]?=some x->inv i s->match g s x with
   | .inl s'=>step (c i s)=some (.inl (c (i+1) s'))/\inv (i+1) s'
   | .inr e=>step (c i s)=some (.inr e))
  (b:∀s,inv l.length s->step (c l.length s)=some (.inr (f s))) :
  ∀(k i:Nat) (s:S),inv i s->i<=l.length->l.length<i+k->Q2 step k (c i s)=some (Y6 g f (l.drop i) s)
 | 0,i,s,_,h,hk=>by omega
 | k+1,i,s,hi,h,hk=>by
  by_cases j:i<l.length
  ·have n:=jej j;rw[List.drop_eq_getElem_cons j];have d:=a i s l[i] n hi;unfold Y6;cases hg:g s l[i] with
   | inl s' =>
    rw[hg] at d;rw[E3 d.1];exact wI g f c l inv a b k (i+1) s' d.2 j (by omega)
   | inr e =>
    rw[hg] at d;exact JB d
  ·have m:i=l.length:=by omega
   subst m;rw[List.drop_length,JB (b s hi)];rfl
theorem ZK {α S T E:Type}{step:T->Option (T⊕E)}(g:S->α->S⊕E)(d:S->E)(b:Nat->S->T)(l:List α)(inv:Nat->S->Prop)
  (a:∀(i:Nat) (s:S) (x:α),l[i]?=some x->inv i s->match g s x with
   | .inl s'=>step (b i s)=some (.inl (b (i+1) s'))/\inv (i+1) s'
   | .inr e=>step (b i s)=some (.inr e))
  (c:∀s,inv l.length s->step (b l.length s)=some (.inr (d s))) {k:Nat} {s:S} (f:inv 0 s) (h:l.length<k) :
  Q2 step k (b 0 s)=some (Y6 g d l s):=by
 have:=wI g d b l inv a c k 0 s f (Nat.zero_le _) (by omega);rwa [List.drop_zero] at this
end Go.SX
