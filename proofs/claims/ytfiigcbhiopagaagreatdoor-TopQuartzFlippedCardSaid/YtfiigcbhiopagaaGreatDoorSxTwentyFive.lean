/- Plain lemmas about loops as functions: a loop over the elements of a list, a loop with a measure, two loops in step. -/
import Derived.Test.YtfiigcbhiopagaaGreatDoorSxTwentyEight
set_option linter.unusedVariables false
set_option linter.unusedSimpArgs false
set_option linter.unnecessarySimpa false
namespace Go.SX
theorem Jr {α:Type}:∀ (l:List α) (i:Nat),nth l i=l[i]?
 | [],i=>by cases i <;> rfl
 | _::_,0=>rfl
 | _::l,i+1=>by simpa [nth] using Jr l i
theorem Vo {α:Type} {un:D→Option α} {enc:α→D} (hun:∀ x,un (enc x)=some x) {l:List α} {i:Nat} {x:α} (h:l[i]?=some x):el un (l.map enc) (i:Int)=some x:=by
 unfold el
 rw [if_pos (Int.natCast_nonneg i),Int.toNat_natCast,Jr,List.getElem?_map,h]
 exact hun x
theorem jh {S E:Type} {step:S→Option (S⊕E)} {k:Nat} {s s' : S} (h:step s=some (.inl s')):Qz step (k+1) s=Qz step k s':=by
 show (match step s with | none=>none | some (.inl s')=>Qz step k s' | some (.inr e)=>some e)=_
 rw [h]
theorem XA {S E:Type} {step:S→Option (S⊕E)} {k:Nat} {s:S} {e:E} (h:step s=some (.inr e)):Qz step (k+1) s=some e:=by
 show (match step s with | none=>none | some (.inl s')=>Qz step k s' | some (.inr e)=>some e)=_
 rw [h]
def K4 {α S E:Type} (g:S→α→S⊕E) (ex:S→E):List α→S→E
 | [],s=>ex s
 | x::l,s=>match g s x with
  | .inl s'=>K4 g ex l s'
  | .inr e=>e
theorem jO {α S T E:Type} {step:T→Option (T⊕E)} (g:S→α→S⊕E) (ex:S→E) (mk:Nat→S→T) (l:List α) (inv:Nat→S→Prop)
  (hstep:∀ (i:Nat) (s:S) (x:α),l[i]?=some x→inv i s→match g s x with
   | .inl s'=>step (mk i s)=some (.inl (mk (i+1) s'))∧inv (i+1) s'
   | .inr e=>step (mk i s)=some (.inr e))
  (hend:∀ s,inv l.length s→step (mk l.length s)=some (.inr (ex s))) :
  ∀ (k i:Nat) (s:S),inv i s→i≤l.length→l.length < i+k→Qz step k (mk i s)=some (K4 g ex (l.drop i) s)
 | 0,i,s,_,h,hk=>by omega
 | k+1,i,s,hi,h,hk=>by
  by_cases hl:i < l.length
  ·have hx:=List.getElem?_eq_getElem hl
   rw [List.drop_eq_getElem_cons hl]
   have hs:=hstep i s l[i] hx hi
   unfold K4
   cases hg:g s l[i] with
   | inl s' =>
    rw [hg] at hs
    rw [jh hs.1]
    exact jO g ex mk l inv hstep hend k (i+1) s' hs.2 hl (by omega)
   | inr e =>
    rw [hg] at hs
    exact XA hs
  ·have he:i=l.length:=by omega
   subst he
   rw [List.drop_length,XA (hend s hi)]
   rfl
theorem Vw {α S T E:Type} {step:T→Option (T⊕E)} (g:S→α→S⊕E) (ex:S→E) (mk:Nat→S→T) (l:List α) (inv:Nat→S→Prop)
  (hstep:∀ (i:Nat) (s:S) (x:α),l[i]?=some x→inv i s→match g s x with
   | .inl s'=>step (mk i s)=some (.inl (mk (i+1) s'))∧inv (i+1) s'
   | .inr e=>step (mk i s)=some (.inr e))
  (hend:∀ s,inv l.length s→step (mk l.length s)=some (.inr (ex s))) {k:Nat} {s:S} (h0:inv 0 s) (hk:l.length < k) :
  Qz step k (mk 0 s)=some (K4 g ex l s):=by
 have:=jO g ex mk l inv hstep hend k 0 s h0 (Nat.zero_le _) (by omega)
 rwa [List.drop_zero] at this
end Go.SX
