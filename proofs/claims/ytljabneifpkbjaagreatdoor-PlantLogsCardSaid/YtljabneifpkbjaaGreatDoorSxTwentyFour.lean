/- What the printed contracts lean on: readers of data, owed facts, loops as functions. -/
import Derived.Test.YtljabneifpkbjaaGreatDoorSxTwentyThree
import Derived.KernelRfl
namespace Go.SX
variable {cx:Cx}
instance (n:Int):Decidable (Qh n):=by unfold Qh;infer_instance
theorem Qdz {α:Type} {p:Prop} [Decidable p] {x:Option α} {r:α} (h:(if p then x else none)=some r):p∧x=some r:=by
 by_cases hp:p
 ·rw [jTj hp] at h;exact ⟨hp,h⟩
 ·rw [jFj hp] at h;cases h
theorem QdT {α:Type} {p:Prop} [Decidable p] {x y:Option α} {r:α} (h:(if p then x else y)=some r) (hp:p):x=some r:=by rwa [jTj hp] at h
theorem QdU {α:Type} {p:Prop} [Decidable p] {x y:Option α} {r:α} (h:(if p then x else y)=some r) (hp:¬ p):y=some r:=by rwa [jFj hp] at h
theorem ZX {α β:Type} {x:Option α} {f:α→Option β} {r:β} (h:x.bind f=some r):∃ t,x=some t∧f t=some r:=Option.bind_eq_some_iff.1 h
theorem eqt {a b:Int} (h:a=b):(a == b)=true:=by simpa using h
theorem eqf {a b:Int} (h:¬ a=b):(a == b)=false:=by simpa using h
theorem net {a b:Int} (h:¬ a=b):(a != b)=true:=by simpa using h
theorem nef {a b:Int} (h:a=b):(a != b)=false:=by simpa using h
theorem QA {b:Bool} (h:¬ b=true):b=false:=by simpa using h
theorem Uc {b:Bool} (h:b=false):(!b)=true:=by simp [h]
theorem Ud {b:Bool} (h:b=true):(!b)=false:=by simp [h]
def minI (a b:Int):Int:=if b < a then b else a
def Wa (b n:Nat):Prop:=n * b≤140737488355328
instance (b n:Nat):Decidable (Wa b n):=by unfold Wa;infer_instance
theorem ZB {e b n:Nat} (hb:cx.bytes e=some b) (h0:0 < b) (h:Wa b n):room cx e n:=by
 unfold room
 rw [hb]
 exact ⟨h,h0⟩
def Ya (k:IntKind):D→Option Int
 | .v (.int k' n)=>if k'=k then some n else none
 | _=>none
theorem WS {k:IntKind} {d:D} {x:Int} (h:Ya k d=some x):d=.v (.int k x):=by
 unfold Ya at h
 split at h
 ·split at h
  ·rename_i hk;cases h;rw [hk]
  ·cases h
 ·cases h
def Gw:D→Option Bool
 | .v (.bool b)=>some b
 | _=>none
theorem KG {d:D} {x:Bool} (h:Gw d=some x):d=.v (.bool x):=by
 unfold Gw at h
 split at h
 ·cases h;rfl
 ·cases h
def JR:D→Option jSj
 | .v (.string s)=>some s
 | _=>none
theorem YU {d:D} {x:jSj} (h:JR d=some x):d=.v (.string x):=by
 unfold JR at h
 split at h
 ·cases h;rfl
 ·cases h
abbrev FnD:=Fn×jVj×jVj
def ye:D→Option FnD
 | .fn f a c=>some (f,a,c)
 | _=>none
theorem jU {d:D} {x:FnD} (h:ye d=some x):d=.fn x.1 x.2.1 x.2.2:=by
 unfold ye at h
 split at h
 ·cases h;rfl
 ·cases h
def Em (sz:Nat):D→Option (jVj)
 | .lst false s es=>if s=sz then some es else none
 | _=>none
theorem J7 {sz:Nat} {d:D} {x:jVj} (h:Em sz d=some x):d=.lst false sz x:=by
 unfold Em at h
 split at h
 ·split at h
  ·rename_i hk;cases h;rw [hk]
  ·cases h
 ·cases h
def el {α:Type} (un:D→Option α) (es:jVj) (i:Int):Option α:=if 0≤i then (nth es i.toNat).bind un else none
theorem QX {α:Type} {un:D→Option α} {enc:α→D} (hun:∀ {d:D} {x:α},un d=some x→d=enc x) {es:jVj} {i:Nat} {x:α} (h:(nth es i).bind un=some x):nth es i=some (enc x):=by
 obtain ⟨d,h1,h2⟩:=ZX h
 rw [h1,hun h2]
theorem Qf {α:Type} {un:D→Option α} {enc:α→D} (hun:∀ {d:D} {x:α},un d=some x→d=enc x) {es:jVj} {i:Int} {x:α} (h:el un es i=some x):0≤i∧nth es i.toNat=some (enc x):=by
 unfold el at h
 split at h
 ·rename_i hi;exact ⟨hi,QX hun h⟩
 ·cases h
def Q2 {S E:Type} (step:S→Option (S⊕E)):Nat→S→Option E
 | 0,_=>none
 | n+1,s=>match step s with
  | none=>none
  | some (.inl s')=>Q2 step n s'
  | some (.inr e)=>some e
def Rd {S E:Type} (cx:Cx) (c:Code) (nt vis:Nat) (rnd:Bool) (T:S→List (Nat×AV)) (H:S→List (Nat×Blk)) (X:E→Ex) (XT:E→List (Nat×AV)) (XH:E→List (Nat×Blk)) (s:S):S⊕E→Prop
 | .inl s'=>∃ n nx orc pr kt kb,Round n cx c nt vis rnd nx (T s) (H s) orc pr kt kb .normal (T s') (H s')
 | .inr e=>(∃ n nx orc pr kt kb,Round n cx c nt vis rnd nx (T s) (H s) orc pr kt kb (X e) (XT e) (XH e))∧X e≠.normal
theorem QbJ (hN:NoAsk cx) (hm:cx.P.follows .mixedOrders=true) {c:Code} {n nt vis nx:Nat} {rnd:Bool} {tm tm' : List (Nat×AV)} {hp hp' : List (Nat×Blk)} {orc:List Orc} {pr kt kb:List Nat} {e:Ex}
  (hR:Round n cx c nt vis rnd nx tm hp orc pr kt kb e tm' hp') (hne:e≠.normal):kZ cx c nt vis rnd tm hp e tm' hp':=by
 intro rr F ρ a w hrr hs
 refine XG (Vk (zw hN hm hR hrr hs rfl rfl rfl rfl) ?_)
 rintro e' a' w' ⟨rfl,haft⟩
 cases e with
 | normal=>exact absurd rfl hne
 | exit id=>exact ⟨rfl,haft⟩
 | ret=>exact ⟨rfl,haft⟩
theorem QbI (hN:NoAsk cx) (hm:cx.P.follows .mixedOrders=true) {c:Code} {n nt vis nx:Nat} {rnd:Bool} {tm tm1 tm' : List (Nat×AV)} {hp hp1 hp' : List (Nat×Blk)} {orc:List Orc} {pr kt kb:List Nat} {e:Ex}
  (hR:Round n cx c nt vis rnd nx tm hp orc pr kt kb .normal tm1 hp1) (h:kZ cx c nt vis rnd tm1 hp1 e tm' hp'):kZ cx c nt vis rnd tm hp e tm' hp':=by
 intro rr F ρ a w hrr hs
 refine XG (Vk (zw hN hm hR hrr hs rfl rfl rfl rfl) ?_)
 rintro e' a' w' ⟨rfl,haft⟩
 obtain ⟨ρ',g1,g2,g3,g4,g5⟩:=haft
 have hsim:Sim cx F { nt,sym:=true,tm:=tm1,hp:=hp1,nx:=0,orc:=[],ob:=[],vis,sfx:=true,rnd } ρ' a' w':=⟨g1,g2,g3⟩
 have:=h rr F ρ' a' w' hrr hsim
 intro b q cs hro
 obtain ⟨e',a'',w'',⟨q1,q2⟩,q3⟩:=this b q cs hro
 refine ⟨e',a'',w'',⟨q1,?_⟩,q3⟩
 exact After.trans g5 g1 g4 q2
theorem uN (hN:NoAsk cx) (hm:cx.P.follows .mixedOrders=true) {S E:Type} {c:Code} {nt vis:Nat} {rnd:Bool} {T:S→List (Nat×AV)} {H:S→List (Nat×Blk)} {X:E→Ex} {XT:E→List (Nat×AV)} {XH:E→List (Nat×Blk)}
  {step:S→Option (S⊕E)} (hr:∀ s r,step s=some r→Rd cx c nt vis rnd T H X XT XH s r):∀ (n:Nat) (s:S) (e:E),Q2 step n s=some e→kZ cx c nt vis rnd (T s) (H s) (X e) (XT e) (XH e)
 | 0,s,e,h=>by cases h
 | n+1,s,e,h=>by
  unfold Q2 at h
  split at h
  ·cases h
  ·rename_i s' hs
   obtain ⟨m,nx,orc,pr,kt,kb,hR⟩:=hr _ _ hs
   have ih:=uN hN hm hr n s' e h
   exact QbI hN hm hR ih
  ·rename_i e' he
   cases h
   obtain ⟨⟨m,nx,orc,pr,kt,kb,hR⟩,hne⟩:=hr _ _ he
   exact QbJ hN hm hR hne
end Go.SX
