/- Plain lemmas about loops as functions: a loop over the elements of a list, a loop with a measure, two loops in step. -/
import Derived.Test.YtmhkcfjajpjigaaGreatDoorSxTwentyEight
set_option linter.unusedSimpArgs false
set_option linter.unusedVariables false
set_option linter.unnecessarySimpa false
namespace Go.SX
theorem U4 {a:Type}:∀(l:List a) (i:Nat),nth l i=l[i]?
 | [],i=>by cases i<;>rfl
 | _::_,0=>rfl
 | _::l,i+1=>by simpa[nth] using U4 l i
theorem UG {a:Type}{un:D->Option a}{enc:a->D}(b:∀x,un (enc x)=some x){l:List a}{i:Nat}{x:a}(h:l[i]?=some x):el un (l.map enc) (i:Int)=some x:=by unfold el;rw[jTj (Int.natCast_nonneg i),jtj,U4,List.getElem?_map,h];exact b x
theorem W8 {S E:Type}{step:S->Option (S⊕E)}{k:Nat}{s s' : S}(h:step s=some (.inl s')):QU step (k+1) s=QU step k s':=by show(match step s with|none=>none|some (.inl s')=>QU step k s' | some (.inr e)=>some e)=_;rw[h]
theorem ZP {S E:Type}{step:S->Option (S⊕E)}{k:Nat}{s:S}{e:E}(h:step s=some (.inr e)):QU step (k+1) s=some e:=by show(match step s with|none=>none|some (.inl s')=>QU step k s' | some (.inr e)=>some e)=_;rw[h]
def Kw {b S E:Type}(g:S->b->S⊕E)(a:S->E):List b->S->E
 | [],s=>a s
 | x::l,s=>match g s x with
  | .inl s'=>Kw g a l s'
  | .inr e=>e
theorem uy {m S T E:Type}{step:T->Option (T⊕E)}(g:S->m->S⊕E)(f:S->E)(c:Nat->S->T)(l:List m)(inv:Nat->S->Prop)
  (a:∀(i:Nat) (s:S) (x:m),l[i]?=some x->inv i s->match g s x with
   | .inl s'=>step (c i s)=some (.inl (c (i+1) s'))/\inv (i+1) s'
   | .inr e=>step (c i s)=some (.inr e))
  (b:∀s,inv l.length s->step (c l.length s)=some (.inr (f s))) :
  ∀(k i:Nat) (s:S),inv i s->i<=l.length->l.length<i+k->QU step k (c i s)=some (Kw g f (l.drop i) s)
 | 0,i,s,_,h,hk=>by omega
 | k+1,i,s,hi,h,hk=>by
  by_cases j:i<l.length
  ·have o:=jej j;rw[List.drop_eq_getElem_cons j];have d:=a i s l[i] o hi;unfold Kw;cases hg:g s l[i] with
   | inl s' =>
    rw[hg] at d;rw[W8 d.1];exact uy g f c l inv a b k (i+1) s' d.2 j (by omega)
   | inr e =>
    rw[hg] at d;exact ZP d
  ·have n:i=l.length:=by omega
   subst n;rw[List.drop_length,ZP (b s hi)];rfl
theorem Vr {f S T E:Type}{step:T->Option (T⊕E)}(g:S->f->S⊕E)(d:S->E)(b:Nat->S->T)(l:List f)(inv:Nat->S->Prop)
  (a:∀(i:Nat) (s:S) (x:f),l[i]?=some x->inv i s->match g s x with
   | .inl s'=>step (b i s)=some (.inl (b (i+1) s'))/\inv (i+1) s'
   | .inr e=>step (b i s)=some (.inr e))
  (c:∀s,inv l.length s->step (b l.length s)=some (.inr (d s))) {k:Nat} {s:S} (h:inv 0 s) (j:l.length<k) :
  QU step k (b 0 s)=some (Kw g d l s):=by
 have:=uy g d b l inv a c k 0 s h (Nat.zero_le _) (by omega);rwa [List.drop_zero] at this
end Go.SX
