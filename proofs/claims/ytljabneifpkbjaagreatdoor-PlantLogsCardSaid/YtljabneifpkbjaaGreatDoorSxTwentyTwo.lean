/- Contracts out of runs of the evaluator; loops. -/
import Derived.Test.YtljabneifpkbjaaGreatDoorSxTwentyOne
namespace Go.SX
variable {cx:Cx}
def All:List Prop→Prop
 | []=>True
 | p::l=>p∧All l
theorem All.mem {l:List Prop} (h:All l):∀ p,p∈l→p:=by
 induction l with
 | nil=>intro p hp;cases hp
 | cons q l ih =>
  intro p hp
  cases hp with
  | head=>exact h.1
  | tail _ hp=>exact ih h.2 p hp
def ut (sym:Bool) (n:Nat) (cx:Cx) (f:FuncId) (args:jVj) (orc:List Orc):Option (D×List Prop) :=
 match U8 (Z8 n cx) cx f (args.map .d) { nt:=0,sym,tm:=[],hp:=[],nx:=0,orc,ob:=[],vis:=0,sfx:=true } with
 | some (x,s)=>match x.toDH s.hp with
  | some (r,_)=>some (r,s.ob)
  | none=>none
 | none=>none
theorem qh (hN:NoAsk cx) (hm:cx.P.follows .mixedOrders=true) {sym:Bool} {n:Nat} {f:FuncId} {args:jVj} {orc:List Orc} {r:D} {ob:List Prop} (h:ut sym n cx f args orc=some (r,ob)) (ho:All ob):Computes cx f args r:=by
 unfold ut at h
 split at h
 case h_2=>cases h
 rename_i x s hx
 split at h
 case h_2=>cases h
 rename_i y fs hy
 simp only [jIj,jPj] at h
 obtain ⟨rfl,rfl⟩:=h
 obtain ⟨_,h2⟩:=Kp (js hN hm n) (XV cx n) hx ho.mem
 intro w F vs hF hG hl hv
 have hMM:∀ r,MM F [] (fun _=>undef) r→F r:=by
  rintro r (h | ⟨b,k,hb,_⟩)
  ·exact h
  ·simp [look] at hb
 have hs:HSim cx F [] (fun _=>undef) w:=⟨fun b k hb=>by simp [look] at hb,fun b b' k k' r hb=>by simp [look] at hb,fun r ⟨b,k,hb,_⟩=>by simp [look] at hb,hF,
  fun g x hg=>(hG g x hg).ext (jLj _) (fun _ _ _=>rfl) fun r _ h=>hMM r h⟩
 refine (h2 F (fun _=>undef) w vs hs (by simpa using hl) fun i c z hc hz=>?_).mono ?_
 ·simp only [List.getElem?_map,Option.map_eq_some_iff] at hc
  obtain ⟨d,hd,rfl⟩:=hc
  exact .d _ _ ((hv i d z hd hz).ext (jLj _) (fun _ _ _=>rfl) fun r _ h=>hMM r h)
 ·rintro e w' ⟨v,rfl,ρ',g1,g2,g3⟩
  refine ⟨v,rfl,?_,g2.ext.mono fun r ⟨b,k,hb,_⟩=>by simp [look] at hb⟩
  have:=Wu g1 fs x v y fs hy (fun _ h=>h) g3
  exact this.ext (jLj _) (fun _ _ _=>rfl) fun r _ h=>.inl h
def J9 (n:Nat) (cx:Cx) (c:Code) (nt vis:Nat) (rnd:Bool) (nx:Nat) (tm:List (Nat×AV)) (hp:List (Nat×Blk)) (orc:List Orc) (pr kt kb:List Nat):Option (Ex×List (Nat×AV)×List (Nat×Blk)×List Prop) :=
 match Z8 n cx c { nt,sym:=true,tm,hp,nx,orc,ob:=[],vis,sfx:=true,rnd } with
 | some (e,s)=>match kz s pr kt kb with
  | some s'=>some (e,s'.tm,s'.hp,s.ob)
  | none=>none
 | none=>none
inductive Round (n:Nat) (cx:Cx) (c:Code) (nt vis:Nat) (rnd:Bool) (nx:Nat) (tm:List (Nat×AV)) (hp:List (Nat×Blk)) (orc:List Orc) (pr kt kb:List Nat) (e:Ex) (tm' : List (Nat×AV)) (hp' : List (Nat×Blk)):Prop
 | mk (ob:List Prop) (h:J9 n cx c nt vis rnd nx tm hp orc pr kt kb=some (e,tm',hp',ob)) (ho:All ob):Round n cx c nt vis rnd nx tm hp orc pr kt kb e tm' hp'
theorem zw (hN:NoAsk cx) (hm:cx.P.follows .mixedOrders=true) {n:Nat} {c:Code} {nt vis nx:Nat} {rnd:Bool} {tm tm' : List (Nat×AV)} {hp hp' : List (Nat×Blk)} {orc:List Orc} {pr kt kb:List Nat} {e:Ex}
  (h:Round n cx c nt vis rnd nx tm hp orc pr kt kb e tm' hp') {F:Nat→Prop} {s:St} {ρ:Nat→Value} {a:Act} {w:World} {rr:Option Nat} (hrr:rnd=false→rr=none) (hs:Sim cx F s ρ a w) (h1:s.tm=tm) (h2:s.hp=hp) (h3:s.nt=nt) (h4:s.vis=vis) :
  wpR rr cx.P c (fun e' a' w'=>e'=U7 e∧After cx F vis nt hp ρ w a.defers tm' hp' a' w') a w:=by
 subst h1 h2 h3 h4
 obtain ⟨ob,hr,ho⟩:=h
 unfold J9 at hr
 split at hr
 case h_2=>cases hr
 rename_i e1 s1 hx
 split at hr
 case h_2=>cases hr
 rename_i s2 hnorm
 simp only [jIj,jPj] at hr
 obtain ⟨rfl,rfl,rfl,rfl⟩:=hr
 obtain ⟨_,g⟩:=js hN hm n _ _ _ _ hx ho.mem
 obtain ⟨v1,v2,_⟩:=XV cx n _ _ _ _ hx
 refine Vk (g rr F ρ a w hrr ⟨hs.hs,hs.ts,hs.nt⟩) ?_
 rintro e' a' w' ⟨rfl,haft⟩
 obtain ⟨ρ',q1,q2,qd⟩:=haft.sim (E0 v2)
 obtain ⟨ρ1,r1,r2,r3,r4⟩:=zC hnorm q1
 refine ⟨rfl,ρ1,r1.hs,r1.ts,?_,qd,?_⟩
 ·rw [r1.nt,r4,E0 v2]
 ·rw [v1] at r2;exact q2.trans r2
theorem Qcf {n:Nat} {c:Code} {nt vis nx:Nat} {rnd:Bool} {tm tm' : List (Nat×AV)} {hp hp' : List (Nat×Blk)} {orc:List Orc} {pr kt kb:List Nat} {e:Ex} {ob:List Prop}
  (h:J9 n cx c nt vis rnd nx tm hp orc pr kt kb=some (e,tm',hp',ob)) (ho:All ob):Round n cx c nt vis rnd nx tm hp orc pr kt kb e tm' hp':=by
 exact .mk ob h ho
theorem QL:All []:=trivial
theorem Qa {p:Prop} {l:List Prop} (h:p) (t:All l):All (p::l):=⟨h,t⟩
theorem uv {n:Nat} {c:Code} {nt vis nx:Nat} {rnd:Bool} {tm tm' : List (Nat×AV)} {hp hp' : List (Nat×Blk)} {orc:List Orc} {pr kt kb:List Nat} {e:Ex} {ob:List Prop}
  (ho:All ob) (h:J9 n cx c nt vis rnd nx tm hp orc pr kt kb=some (e,tm',hp',ob)):Round n cx c nt vis rnd nx tm hp orc pr kt kb e tm' hp':=Qcf h ho
def UL:Code→List Code
 | .seq a b=>UL a++UL b
 | .cond _ t e=>UL t++UL e
 | .block _ b=>UL b
 | .scope b=>UL b
 | .loop b=>b::UL b
 | .rangeFunc _ _ a b=>UL a++UL b
 | _=>[]
def ZJ (P:Program) (f i:Nat):Code:=match P.funcs[f]? with
 | some fn=>match fn.body with
  | some b=>match nth (UL b) i with
   | some c=>c
   | none=>.skip
  | none=>.skip
 | none=>.skip
def Y9:Code→List (Code×Code)
 | .seq a b=>Y9 a++Y9 b
 | .cond _ t e=>Y9 t++Y9 e
 | .block _ b=>Y9 b
 | .scope b=>Y9 b
 | .loop b=>Y9 b
 | .rangeFunc _ _ a b=>(a,b)::Y9 b
 | _=>[]
def ZY (P:Program) (f i:Nat):Code×Code:=match P.funcs[f]? with
 | some fn=>match fn.body with
  | some b=>match nth (Y9 b) i with
   | some c=>c
   | none=>(.skip,.skip)
  | none=>(.skip,.skip)
 | none=>(.skip,.skip)
theorem Qcp (P:Program) (G:Nat→Option D) (h:(P.funcs.toList.all fun fn=>!(fn.body.isSome && (fn.name == "runtime.NumGoroutine")))=true):NoAsk { P,G }:=by
 refine ⟨fun f fn hf hb=>?_,fun f g ds r hg=>by cases hg⟩
 rw [List.all_eq_true] at h
 have hm:fn∈P.funcs.toList:=by
  have:=Array.mem_of_getElem? hf
  simpa using this
 have:=h fn hm
 rw [hb] at this
 simpa using this
abbrev I (n:Int):D:=.v (.int .i64 n)
abbrev B (b:Bool):D:=.v (.bool b)
end Go.SX
