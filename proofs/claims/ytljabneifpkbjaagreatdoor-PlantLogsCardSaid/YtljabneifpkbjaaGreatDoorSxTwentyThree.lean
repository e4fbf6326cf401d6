/- Contracts made weaker: spare room and the width of no elements don't matter. -/
import Derived.Test.YtljabneifpkbjaaGreatDoorSxTwentyTwo
namespace Go.SX
variable {cx:Cx}
inductive LE:D→D→Prop
 | refl (x:D):LE x x
 | lst (f f' : Bool) (sz sz' : Nat) (es:jVj) (hf:f'=true→f=true) (hs:es=[] ∨ sz=sz'):LE (.lst f sz es) (.lst f' sz' es)
 | tup (xs ys:jVj) (hl:xs.length=ys.length) (h:∀ (i:Nat) (x y:D),xs[i]?=some x→ys[i]?=some y→LE x y):LE (.tup xs) (.tup ys)
 | agg (xs ys:jVj) (hl:xs.length=ys.length) (h:∀ (i:Nat) (x y:D),xs[i]?=some x→ys[i]?=some y→LE x y):LE (.agg xs) (.agg ys)
theorem DR.le {w:World} {M:Nat→Prop} {x x' : D} (hx:LE x x'):∀ {y:Value},DR w M x y→DR w M x' y:=by
 induction hx with
 | refl x=>exact fun h=>h
 | lst f f' sz sz' es hf hs =>
  intro y h
  cases h with
  | lst _ _ _ a cap blk off ys h1 h2 h3 h4 h5 h6 =>
   refine .lst f' sz' es a cap blk off ys (fun h=>h1 (hf h)) h2 h3 (fun i e he=>?_) (fun i e j c he hc=>?_) (fun i e j c he hc=>?_)
   ·rcases hs with rfl | rfl
    ·simp at he
    ·exact h4 i e he
   ·rcases hs with rfl | rfl
    ·simp at he
    ·exact h5 i e j c he hc
   ·rcases hs with rfl | rfl
    ·simp at he
    ·exact h6 i e j c he hc
 | tup xs ys hl h ih =>
  intro y hd
  cases hd with
  | tup _ vs hl' hv =>
   refine .tup ys vs (hl ▸ hl') fun i c v hc hv'=>?_
   have hlt:i < xs.length:=by rw [hl];exact (jGj hc).1
   exact ih i xs[i] c (by simp [hlt]) hc (hv i xs[i] v (by simp [hlt]) hv')
 | agg xs ys hl h ih =>
  intro y hd
  cases hd with
  | agg _ vs hl' hv =>
   refine .agg ys vs (hl ▸ hl') fun i c v hc hv'=>?_
   have hlt:i < xs.length:=by rw [hl];exact (jGj hc).1
   exact ih i xs[i] c (by simp [hlt]) hc (hv i xs[i] v (by simp [hlt]) hv')
inductive LEs:jVj→jVj→Prop
 | nil:LEs [] []
 | cons {x y:D} {xs ys:jVj} (h:LE x y) (t:LEs xs ys):LEs (x::xs) (y::ys)
theorem LEs.length {xs ys:jVj} (h:LEs xs ys):xs.length=ys.length:=by induction h with
 | nil=>rfl
 | cons _ _ ih=>simp [ih]
theorem LEs.get {xs ys:jVj} (h:LEs xs ys):∀ (i:Nat) (x y:D),xs[i]?=some x→ys[i]?=some y→LE x y:=by
 induction h with
 | nil=>intro i x y hx;simp at hx
 | cons h _ ih =>
  intro i x y hx hy
  cases i with
  | zero=>simp at hx hy;subst hx;subst hy;exact h
  | succ i=>exact ih i x y (by simpa using hx) (by simpa using hy)
theorem LE.tups {xs ys:jVj} (h:LEs xs ys):LE (.tup xs) (.tup ys):=.tup xs ys h.length h.get
theorem LE.aggs {xs ys:jVj} (h:LEs xs ys):LE (.agg xs) (.agg ys):=.agg xs ys h.length h.get
theorem LE.full (f:Bool) (sz:Nat) (es:jVj):LE (.lst f sz es) (.lst false sz es):=.lst _ _ _ _ _ nofun (.inr rfl)
theorem LE.nilF {f:Bool} {sz sz' : Nat}:LE (.lst f sz []) (.lst false sz' []):=.lst _ _ _ _ _ nofun (.inl rfl)
theorem LE.none (f:Bool) (sz sz' : Nat):LE (.lst f sz []) (.lst f sz' []):=.lst _ _ _ _ _ id (.inl rfl)
theorem LEs.refl:∀ xs:jVj,LEs xs xs
 | []=>.nil
 | _::xs=>.cons (.refl _) (LEs.refl xs)
theorem Computes.le {f:FuncId} {args args' : jVj} {r r' : D} (h:Computes cx f args r) (ha:LEs args' args) (hr:LE r r'):Computes cx f args' r':=by
 intro w F vs hF hG hl hv
 refine (h w F vs hF hG (by rw [← ha.length];exact hl) fun i c y hc hy=>?_).mono ?_
 ·have hlt:i < args'.length:=by rw [ha.length];exact (jGj hc).1
  exact DR.le (ha.get i args'[i] c (by simp [hlt]) hc) (hv i args'[i] y (by simp [hlt]) hy)
 ·rintro e w' ⟨y,h1,h2,h3⟩
  exact ⟨y,h1,DR.le hr h2,h3⟩
end Go.SX
