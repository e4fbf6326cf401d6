/- What an operation makes of a part of the heap it makes of the whole; what it makes of its operands alone. -/
import Derived.Test.YtljabneifpkbjaaGreatDoorSxThirteen
import Derived.Test.YtljabneifpkbjaaGreatDoorSxEight
set_option linter.unusedSimpArgs false
set_option linter.unusedVariables false
namespace Go.SX
section
variable {cx:Cx} {H G:List (Nat×Blk)} {sym:Bool} {orc:List Orc} {ev ev' : Operand→AV}
def Ye (H G:List (Nat×Blk)):Prop:=∀ b k,look H b=some k→look G b=some k
mutual
theorem KA (hs:Ye H G):∀ (x:AV) (y:D) (fs:List Nat),x.toDH H=some (y,fs)→x.toDH G=some (y,fs)∧∀ b,b∈fs→∃ k,look H b=some k
 | .d x,y,fs,h=>by
  simp only [AV.toDH,jIj,jPj] at h ⊢;obtain ⟨rfl,rfl⟩:=h;simp
 | .agg cs,y,fs,h=>by
  simp only [AV.toDH] at h ⊢
  split at h <;> simp only [jIj,reduceCtorEq,jPj] at h
  rename_i l fs' hl;obtain ⟨rfl,rfl⟩:=h
  obtain ⟨h1,h2⟩:=KJ hs cs l fs' hl
  rw [h1];exact ⟨rfl,h2⟩
 | .tup cs,y,fs,h=>by
  simp only [AV.toDH] at h ⊢
  split at h <;> simp only [jIj,reduceCtorEq,jPj] at h
  rename_i l fs' hl;obtain ⟨rfl,rfl⟩:=h
  obtain ⟨h1,h2⟩:=KJ hs cs l fs' hl
  rw [h1];exact ⟨rfl,h2⟩
 | .fn f a b,y,fs,h=>by
  simp only [AV.toDH] at h ⊢
  split at h <;> simp only [jIj,reduceCtorEq,jPj] at h
  rename_i x1 f1 y1 f2 hx1 hy1;obtain ⟨rfl,rfl⟩:=h
  obtain ⟨h1,h2⟩:=KJ hs a x1 f1 hx1
  obtain ⟨h3,h4⟩:=KJ hs b y1 f2 hy1
  rw [h1,h3]
  refine ⟨rfl,fun c hc=>?_⟩
  rcases List.mem_append.1 hc with hc | hc
  ·exact h2 c hc
  ·exact h4 c hc
 | .own b ver,y,fs,h=>by
  simp only [AV.toDH] at h ⊢
  cases hb:look H b with
  | none=>rw [hb] at h;cases h
  | some k =>
   rw [hs b k hb]
   rw [hb] at h
   refine ⟨h,?_⟩
   cases k with
   | box _=>simp at h
   | loop _ _ _ _ _ _=>simp at h
   | mp _=>simp at h
   | it _ _=>simp at h
   | fbox _=>simp at h
   | left _=>simp at h
   | dead=>simp at h
   | row v s e =>
    simp only at h
    split at h <;> simp only [jIj,reduceCtorEq,jPj] at h
    obtain ⟨rfl,rfl⟩:=h
    intro c hc
    simp only [List.mem_singleton] at hc
    subst hc;exact ⟨_,hb⟩
   | frozen v s e =>
    simp only at h
    split at h <;> simp only [jIj,reduceCtorEq,jPj] at h
    obtain ⟨rfl,rfl⟩:=h;simp
   | virt v s e =>
    simp only at h
    split at h <;> simp only [jIj,reduceCtorEq,jPj] at h
    obtain ⟨rfl,rfl⟩:=h;simp
 | .dptr _ _,y,fs,h=>by
  simp only [AV.toDH,jIj,jPj] at h ⊢;obtain ⟨rfl,rfl⟩:=h;simp
 | .ptr b ver sz i off,y,fs,h=>by
  simp only [AV.toDH] at h ⊢
  split at h
  case h_2=>cases h
  rename_i hc
  split at h
  case h_2=>cases h
  rename_i k hk
  rw [hs b k hk]
  dsimp only
  refine ⟨h,?_⟩
  split at h
  ·simp only [jIj,jPj] at h
   obtain ⟨rfl,rfl⟩:=h
   intro c hc;simp only [List.mem_singleton] at hc;subst hc;exact ⟨k,hk⟩
  ·simp only [jIj,jPj] at h
   obtain ⟨rfl,rfl⟩:=h
   intro c hc;cases hc
  ·cases h
 | .sub _ _ _ _ _,y,fs,h=>by simp [AV.toDH] at h
 | .junk,y,fs,h=>by simp [AV.toDH] at h
theorem KJ (hs:Ye H G):∀ (cs:List AV) (l:jVj) (fs:List Nat),Kb H cs=some (l,fs)→Kb G cs=some (l,fs)∧∀ b,b∈fs→∃ k,look H b=some k
 | [],l,fs,h=>by
  simp only [Kb,jIj,jPj] at h ⊢;obtain ⟨rfl,rfl⟩:=h;simp
 | x::cs,l,fs,h=>by
  simp only [Kb] at h ⊢
  split at h <;> simp only [jIj,reduceCtorEq,jPj] at h
  rename_i y1 f1 l1 f2 h1 h2;obtain ⟨rfl,rfl⟩:=h
  obtain ⟨g1,g2⟩:=KA hs x y1 f1 h1
  obtain ⟨g3,g4⟩:=KJ hs cs l1 f2 h2
  rw [g1,g3]
  refine ⟨rfl,fun c hc=>?_⟩
  rcases List.mem_append.1 hc with hc | hc
  ·exact g2 c hc
  ·exact g4 c hc
end
theorem Vm (hs:Ye H G) (fs:List Nat) (h:∀ b,b∈fs→∃ k,look H b=some k):Qe G fs=Qe H fs:=by
 induction fs with
 | nil=>rfl
 | cons b l ih =>
  obtain ⟨k,hb⟩:=h b jMj
  simp only [Qe,hb,hs b _ hb,ih fun c hc=>h c (List.mem_cons_of_mem _ hc)]
theorem Gi (hs:Ye H G) {b ver:Nat} (h:GQ H b ver=true):GQ G b ver=true:=by
 unfold GQ at h ⊢
 cases hb:look H b with
 | none=>rw [hb] at h;cases h
 | some k=>rw [hb] at h;rw [hs b k hb];exact h
theorem QbU (hs:Ye H G) {b ver:Nat} (h:GQ H b ver=true):look G b=look H b:=by
 unfold GQ at h
 split at h
 ·rename_i k hk;rw [hk];exact hs b k hk
 ·cases h
theorem uX (hs:Ye H G) {x:AV} {es:jVj} (h:Ug H x=some es):Ug G x=some es:=by
 unfold Ug at h ⊢
 split at h
 ·exact h
 ·rename_i b ver
  cases hb:look H b with
  | none=>rw [hb] at h;cases h
  | some k=>rw [hb] at h;simp only [hs b k hb];exact h
 ·split at h
  case h_2=>cases h
  rename_i hc
  rw [Gi hs hc];exact h
 ·cases h
theorem Xy (hs:Ye H G) {x:AV} {q:Nat×jVj×List Nat} (h:YR H x=some q):YR G x=some q∧∀ b,b∈q.2.2→∃ k,look H b=some k:=by
 unfold YR at h ⊢
 split at h
 ·rename_i f sz es fs hd
  obtain ⟨h1,h2⟩:=KA hs _ _ _ hd
  rw [h1]
  simp only [jIj] at h;subst h
  exact ⟨rfl,h2⟩
 ·cases h
theorem wJ (hs:Ye H G) {b:Nat} {x:SX.D} (h:Ea H b=some x):Ea G b=some x:=by
 unfold Ea at h ⊢
 cases hb:look H b with
 | none=>rw [hb] at h;cases h
 | some k=>rw [hb] at h;rw [hs b k hb];exact h
theorem Qb8 (hs:Ye H G) {x:AV} {y:SX.D} {off:Nat} (h:unf H x=.dptr y off):unf G x=.dptr y off:=by
 cases x with
 | ptr b ver sz i o =>
  have h:ya H b ver sz i o=.dptr y off:=h
  show ya G b ver sz i o=.dptr y off
  unfold ya at h ⊢
  cases hl:Ea H b with
  | none=>rw [hl] at h;cases h
  | some x=>rw [hl] at h;rw [wJ hs hl];exact h
 | d _=>exact h
 | agg _=>exact h
 | tup _=>exact h
 | dptr _ _=>exact h
 | own _ _=>exact h
 | sub _ _ _ _ _=>exact h
 | fn _ _ _=>exact h
 | junk=>exact h
theorem QcX (hs:Ye H G) {x:AV} {b ver sz i off:Nat} {q:AV×List Prop×List Orc} (h:unf H x=.ptr b ver sz i off) (hl:UP sym orc H b ver sz i=some q):unf G x=.ptr b ver sz i off:=by
 cases x with
 | ptr b' ver' sz' i' o =>
  have h:ya H b' ver' sz' i' o=.ptr b ver sz i off:=h
  show ya G b' ver' sz' i' o=.ptr b ver sz i off
  unfold ya at h ⊢
  cases hf:Ea H b' with
  | some x=>rw [hf] at h;rw [wJ hs hf];exact h
  | none =>
   rw [hf] at h
   simp only [AV.ptr.injEq] at h
   obtain ⟨rfl,rfl,rfl,rfl,rfl⟩:=h
   have:Ea G b'=none:=by
    unfold UP at hl
    unfold Ea at hf ⊢
    cases hb:look H b' with
    | none=>rw [hb] at hl;cases hl
    | some k=>rw [hb] at hf;rw [hs b' k hb];exact hf
   rw [this]
 | d _=>exact h
 | agg _=>exact h
 | tup _=>exact h
 | dptr _ _=>exact h
 | own _ _=>exact h
 | sub _ _ _ _ _=>exact h
 | fn _ _ _=>exact h
 | junk=>exact h
theorem yS (hs:Ye H G) {b ver sz i:Nat} {q:AV×List Prop×List Orc} (h:UP sym orc H b ver sz i=some q):UP sym orc G b ver sz i=some q:=by
 unfold UP at h ⊢
 cases hb:look H b with
 | none=>rw [hb] at h;cases h
 | some k=>rw [hb] at h;rw [hs b k hb];exact h
theorem Gp (hs:Ye H G) {t:TypeId} {x:AV} {i:Int} {r:R} (h:Ve cx sym orc H t x i=some r):Ve cx sym orc G t x i=some r:=by
 unfold Ve at h ⊢
 split at h
 ·split at h
  case h_2=>cases h
  split at h
  ·split at h
   case h_2=>cases h
   rename_i hc
   simp only [Gi hs hc];exact h
  ·exact h
  ·cases h
 ·split at h
  ·cases h
  split at h
  ·rename_i b ver
   cases hb:look H b with
   | none=>rw [hb] at h;cases h
   | some k=>rw [hb] at h;simp only [hs b k hb];exact h
  ·exact h
  ·split at h
   case h_2=>cases h
   rename_i hc hd
   simp only [jAj] at hc
   simp only [Gi hs hc.1,hc.2,hd,Bool.and_true,QbU hs hc.1];exact h
  ·cases h
 ·cases h
theorem zY (hs:Ye H G) {t:TypeId} {x:AV} {i:Int} {r:R} (h:YP cx sym orc H t x i=some r):YP cx sym orc G t x i=some r:=by
 unfold YP at h ⊢
 split at h
 ·split at h
  case h_2=>cases h
  rename_i q hq
  rw [Gp hs hq]
  exact h
 ·exact Gp hs h
theorem Qai (hs:Ye H G) {t:TypeId} {x:AV} {lo hi mx:Option AV} {r:R} (h:J2 cx sym orc H t x lo hi mx=some r):J2 cx sym orc G t x lo hi mx=some r:=by
 unfold J2 at h ⊢
 split at h
 ·exact h
 ·split at h
  case h_3=>cases h
  ·rename_i elem full sz es fs hu hd
   obtain ⟨h1,h2⟩:=KA hs _ _ _ hd
   simp only [hu,h1]
   rw [Vm hs fs h2]
   exact h
  ·rename_i elem m full sz es fs hu hd
   obtain ⟨h1,h2⟩:=KA hs _ _ _ hd
   simp only [hu,h1]
   rw [Vm hs fs h2]
   exact h
theorem yW (hs:Ye H G) {t:TypeId} {x:AV} {lo hi mx:Option AV} {r:R} (h:Yq cx sym orc H t x lo hi mx=some r):Yq cx sym orc G t x lo hi mx=some r:=by
 unfold Yq at h ⊢
 split at h
 case h_2=>cases h
 cases hb:look H _ with
 | none=>rw [hb] at h;simp at h
 | some k=>rw [hb] at h;simp only [hs _ k hb];exact h
theorem yV (hs:Ye H G) {t:TypeId} {x:AV} {lo hi mx:Option AV} {r:R} (hn:Yq cx sym orc H t x lo hi mx=none) (h:J2 cx sym orc H t x lo hi mx=some r):Yq cx sym orc G t x lo hi mx=none:=by
 unfold Yq at hn ⊢
 split
 case h_2=>rfl
 rename_i o b ver ho
 rw [ho] at hn
 simp only at hn
 cases hb:look H b with
 | none =>
  unfold J2 at h
  split at h
  ·rename_i hx;cases hx
  ·split at h
   case h_3=>cases h
   ·rename_i hd;simp [AV.toDH,hb] at hd
   ·rename_i hd;simp [AV.toDH,hb] at hd
 | some k=>rw [hb] at hn;simp only [hs b k hb];exact hn
theorem Qb0 (hs:Ye H G) {t:TypeId} {x:AV} {lo hi mx:Option AV} {r:R} (h:zX cx sym orc H t x lo hi mx=some r):zX cx sym orc G t x lo hi mx=some r:=by
 unfold zX at h ⊢
 split at h
 case h_2=>cases h
 cases hb:look H _ with
 | none=>rw [hb] at h;simp at h
 | some k=>rw [hb] at h;simp only [hs _ k hb];exact h
theorem QbZ (hs:Ye H G) {t:TypeId} {x:AV} {lo hi mx:Option AV} {r:R} (hn:zX cx sym orc H t x lo hi mx=none) (h:J2 cx sym orc H t x lo hi mx=some r):zX cx sym orc G t x lo hi mx=none:=by
 unfold zX at hn ⊢
 split
 case h_2=>rfl
 rename_i o b ver _ l ho
 rw [ho] at hn
 simp only at hn
 cases hb:look H b with
 | none =>
  unfold J2 at h
  split at h
  ·rename_i hx;cases hx
  ·split at h
   case h_3=>cases h
   ·rename_i hd;simp [AV.toDH,hb] at hd
   ·rename_i hd;simp [AV.toDH,hb] at hd
 | some k=>rw [hb] at hn;simp only [hs b k hb];exact hn
theorem jN (hs:Ye H G) {t:TypeId} {x:AV} {lo hi mx:Option AV} {r:R} (hn:Yq cx sym orc H t x lo hi mx=none) (h:zX cx sym orc H t x lo hi mx=some r):Yq cx sym orc G t x lo hi mx=none:=by
 unfold zX at h
 split at h
 case h_2=>cases h
 unfold Yq
 split
 case h_2=>rfl
 rename_i hlo _
 cases hlo
theorem uf (hs:Ye H G) {name:Nat} (hn:look G name=none) {t:TypeId} {s x:AV} {r:R} (h:XW cx sym orc H name t s x=some r):XW cx sym orc G name t s x=some r:=by
 unfold XW at h ⊢
 split at h
 case h_2=>cases h
 rename_i elem asz ds fs hu hadd
 obtain ⟨h1,h2⟩:=Xy hs hadd
 simp only [hu,h1]
 rw [Vm hs fs h2]
 split at h
 ·cases h
 split at h
 ·cases h
 split at h
 ·rename_i b ver
  cases hb:look H b with
  | none=>rw [hb] at h;cases h
  | some k=>rw [hb] at h;simp only [hs b k hb];exact h
 ·split at h
  ·cases h
  split at h
  ·split at h
   case h_2=>cases h
   rename_i hnil hno how
   simp only [hnil,hn,how];exact h
  split at h
  case h_2=>cases h
  rename_i ob o' how
  split at h
  ·rename_i hnil
   split at h
   case h_3=>cases h
   ·rename_i htold
    simp only [htold];exact h
   ·rename_i htold _
    simp only [htold,hn];exact h
  ·exact h
  ·cases h
 ·cases h
theorem Qa2 (hs:Ye H G) {t:TypeId} {d s:AV} {r:R} (h:kW cx orc H t d s=some r):kW cx orc G t d s=some r:=by
 unfold kW at h ⊢
 split at h
 case h_2=>cases h
 rename_i elem b ver asz ds fs hu hadd
 obtain ⟨h1,h2⟩:=Xy hs hadd
 simp only [hu,h1]
 rw [Vm hs fs h2]
 cases hb:look H b with
 | none=>rw [hb] at h;simp at h
 | some k=>rw [hb] at h;simp only [hs b k hb];exact h
theorem jO (hs:Ye H G) {name:Nat} (hn:look G name=none) {b:Builtin} {ats:Array TypeId} {ty:TypeId} {args:List AV} {r:R} (h:Gr cx sym orc H name b ats ty args=some r) :
  (∀ x v,Ug H x=none→x.toV=some v→Ug G x=none)→Gr cx sym orc G name b ats ty args=some r:=by
 intro hV
 unfold Gr at h ⊢
 split at h
 ·split at h
  case h_2=>cases h
  split at h
  ·exact uf hs hn h
  ·unfold Qbr at h ⊢
   split at h
   case h_2=>cases h
   split at h
   case h_2=>cases h
   rename_i hn0
   simp only [hn]
   simp_all
 ·split at h
  case h_2=>cases h
  exact Qa2 hs h
 ·split at h
  case h_2=>cases h
  split at h
  ·rename_i es hes
   simp only [uX hs hes];exact h
  ·rename_i hes
   split at h
   case h_2=>cases h
   rename_i v hv
   simp only [hV _ _ hes hv,hv];exact h
 ·exact h
 ·exact h
 ·exact h
 ·split at h
  case h_2=>cases h
  unfold ub at h ⊢
  split at h
  case h_2=>cases h
  rename_i b _ _ _ _ _
  cases hb:look H b with
  | none=>rw [hb] at h;simp at h
  | some k=>rw [hb] at h;simp only [hs b k hb];exact h
 ·cases h
theorem uW {x:AV} {v:Value} (h:x.toV=some v):Ug H x=none↔Ug G x=none:=by
 unfold Ug
 split
 ·simp
 ·rename_i b ver
  simp [AV.toV,AV.toD] at h
 ·simp [AV.toV,AV.toD] at h
 ·simp
theorem JY (hs:Ye H G) {s:Nat}:∀ (parts:List (Nat×AV)) (n:Nat) (es:jVj) (fs:List Nat),YB H s n parts=some (es,fs)→YB G s n parts=some (es,fs)∧∀ b,b∈fs→∃ k,look H b=some k
 | [],n,es,fs,h=>by
  simp only [YB,jIj,jPj] at h ⊢;obtain ⟨rfl,rfl⟩:=h;simp
 | (i,x)::l,n,es,fs,h=>by
  simp only [YB] at h ⊢
  split at h
  case h_2=>cases h
  rename_i cs y f1 ys f2 hcs hy hys
  obtain ⟨g1,g2⟩:=KA hs _ _ _ hy
  obtain ⟨g3,g4⟩:=JY hs l (n+1) ys f2 hys
  simp only [hcs,g1,g3]
  refine ⟨h,?_⟩
  split at h
  case h_2=>cases h
  split at h
  case h_2=>cases h
  simp only [jIj,jPj] at h;obtain ⟨rfl,rfl⟩:=h
  refine fun c hc=>?_
  rcases List.mem_append.1 hc with hc | hc
  ·exact g2 c hc
  ·exact g4 c hc
theorem Qah (hs:Ye H G) {t:TypeId} {p y:AV} {r:R} (h:qY cx sym orc H t p y=some r):qY cx sym orc G t p y=some r:=by
 unfold qY at h ⊢
 split at h
 case h_2=>cases h
 split at h
 ·rename_i hl hb
  simp only [hl,hs _ _ hb];exact h
 ·rename_i ver sz' es hl hb
  simp only [hl,hs _ _ hb]
  split at h
  case h_2=>cases h
  rename_i yd fs hc hyd
  obtain ⟨h1,h2⟩:=KA hs _ _ _ hyd
  simp only [hc,h1]
  rw [Vm hs fs h2]
  exact h
 ·cases h
theorem zB (hs:Ye H G) {m:AV} {p:Nat×jVj} (h:Ey H m=some p):Ey G m=some p:=by
 unfold Ey at h ⊢
 split at h
 case h_2=>cases h
 rename_i b v
 cases hb:look H b with
 | none=>rw [hb] at h;cases h
 | some k=>rw [hb] at h;simp only [hs b k hb];exact h
theorem QaY (hs:Ye H G) {b:Nat} {p:jVj×List (Nat×Blk)} (h:Qaj H b=some p):Qaj G b=some p:=by
 unfold Qaj at h ⊢
 cases hb:look H b with
 | none=>rw [hb] at h;cases h
 | some k=>rw [hb] at h;simp only [hs b k hb];exact h
theorem Qax (hs:Ye H G) {m:AV} {p:Nat×jSj×Nat} (h:kx H m=some p):kx G m=some p:=by
 unfold kx at h ⊢
 split at h
 case h_2=>cases h
 rename_i b v
 cases hb:look H b with
 | none=>rw [hb] at h;cases h
 | some k=>rw [hb] at h;simp only [hs b k hb];exact h
theorem G1 (hs:Ye H G) {t:TypeId} {m k x:AV} {r:R} (h:YO cx sym orc H t m k x=some r):YO cx sym orc G t m k x=some r:=by
 unfold YO at h ⊢
 split at h
 case h_2=>cases h
 rename_i hu hom hkv hxd
 simp only [hu,zB hs hom,hkv,hxd];exact h
theorem yZ (hs:Ye H G) {t:TypeId} {m k:AV} {ok:Bool} {r:R} (h:XS cx sym orc H t m k ok=some r):XS cx sym orc G t m k ok=some r:=by
 unfold XS at h ⊢
 split at h
 case h_2=>cases h
 rename_i hu hom hkv
 simp only [hu,zB hs hom,hkv];exact h
theorem zF (hs:Ye H G) {x:AV} (h:qN H x=true):qN G x=true:=by
 cases x with
 | ptr b ver sz i off =>
  simp only [qN] at h ⊢
  cases hb:look H b with
  | none=>rw [hb] at h;cases h
  | some k=>rw [hb] at h;rw [hs b k hb];exact h
 | dptr _ _=>rfl
 | _=>cases h
theorem yB (hs:Ye H G) {op:BinOp} {t:TypeId} {x:AV} {y:Operand} {q:D×List Prop} (h:YI H cx op t x y=some q):YI G cx op t x y=some q:=by
 unfold YI at h ⊢
 split at h
 ·rename_i hu hp;rw [hu,zF hs hp];exact h
 ·rename_i hu hp;rw [hu,zF hs hp];exact h
 ·cases h
theorem Qaz {op:BinOp} {t:TypeId} {x:AV} {y:Operand} {q:D×List Prop} (h:Xl cx op t x y=some q):YI G cx op t x y=none:=by
 unfold Xl at h
 split at h
 ·rename_i hu;unfold YI;rw [hu]
 ·rename_i hu;unfold YI;rw [hu]
 ·cases h
theorem yz (hs:Ye H G) {op:BinOp} {t:TypeId} {x:AV} {y:Operand} {r:R} (h:(match YI H cx op t x y with
      | some (r,ob)=>some ({ val:=.d r,up:=[],ob,orc }:R)
      | none=>match Xl cx op t x y with
        | some (r,ob)=>some { val:=.d r,up:=[],ob,orc }
        | none=>none)=some r):(match YI G cx op t x y with
      | some (r,ob)=>some ({ val:=.d r,up:=[],ob,orc }:R)
      | none=>match Xl cx op t x y with
        | some (r,ob)=>some { val:=.d r,up:=[],ob,orc }
        | none=>none)=some r:=by
  cases hq:YI H cx op t x y with
  | some q=>rw [hq] at h;rw [yB hs hq];exact h
  | none =>
    rw [hq] at h
    cases hz:Xl cx op t x y with
    | none=>rw [hz] at h;cases h
    | some z=>rw [hz] at h;rw [Qaz hz];exact h
theorem QcO (hs:Ye H G) {name:Nat} (hn:look G name=none) {o:Oper} {r:R} (h:aop cx sym orc H name ev o=some r):aop cx sym orc G name ev o=some r:=by
 cases hop:o.op with
 | alloc elem =>
  simp only [aop,hop] at h ⊢
  split at h
  case h_2=>cases h
  rename_i z hz _
  simp only [hz,hn];exact h
 | box elem x =>
  simp only [aop,hop] at h ⊢
  split at h
  case h_2=>cases h
  rename_i cs hcs _
  simp only [hcs,hn];exact h
 | buildSlice t len parts =>
  simp only [aop,hop] at h ⊢
  cases hpe:US 0 (parts.toList.map fun p=>(p.1,ev p.2)) with
  | none =>
   simp only [hpe] at h ⊢
   split at h
   case h_2=>cases h
   split at h
   case h_2=>cases h
   split at h
   case h_2=>cases h
   rename_i es fs hl
   obtain ⟨h1,h2⟩:=JY hs _ _ _ _ hl
   simp only [h1]
   rw [Vm hs fs h2]
   exact h
  | some l=>cases l with
   | nil =>
   simp only [hpe] at h ⊢
   split at h
   case h_2=>cases h
   split at h
   case h_2=>cases h
   split at h
   case h_2=>cases h
   rename_i es fs hl
   obtain ⟨h1,h2⟩:=JY hs _ _ _ _ hl
   simp only [h1]
   rw [Vm hs fs h2]
   exact h
   | cons x xs =>
    simp only [hpe] at h ⊢
    unfold yu at h ⊢
    split at h
    case h_2=>cases h
    rename_i elem hu _
    simp only [hu,hn];exact h
 | load t a =>
  simp only [aop,hop] at h ⊢
  split at h
  ·rename_i s g b ver sz i off hs' hg e
   split at h
   case h_2=>cases h
   rename_i x ob o' hbl
   simp only [hs',hg,QcX hs e hbl,yS hs hbl];exact h
  ·rename_i s g x off hs' hg e
   simp only [hs',hg,Qb8 hs e];exact h
  ·cases h
 | store t a x=>simp only [aop,hop] at h ⊢;exact Qah hs h
 | nilCheck x =>
  simp only [aop,hop] at h ⊢
  split at h
  ·rename_i b v s i f e
   split at h
   case h_2=>cases h
   rename_i hc
   simp only [e,Gi hs hc];exact h
  ·exact h
  ·exact h
  ·exact h
  ·cases h
 | makeSlice t l c =>
  simp only [aop,hop] at h ⊢
  split at h
  case h_2=>cases h
  rename_i elem kn n km m hu el ec hn'
  simp only [hu,el,ec,hn];exact h
 | slice t x lo hi mx =>
  simp only [aop,hop] at h ⊢
  split at h
  ·rename_i b ver sz i off hex
   unfold EV at h ⊢
   split at h
   case h_2=>cases h
   rename_i hao hu
   simp only [QaY hs hao,hu];exact h
  ·cases hq:Yq cx sym orc H t (ev x) (lo.map ev) (hi.map ev) (mx.map ev) with
   | some q =>
    rw [hq] at h
    rw [yW hs hq];exact h
   | none =>
    rw [hq] at h
    simp only at h
    cases hq2:zX cx sym orc H t (ev x) (lo.map ev) (hi.map ev) (mx.map ev) with
    | some q2 =>
     rw [hq2] at h
     rw [jN hs hq hq2,Qb0 hs hq2];exact h
    | none =>
     rw [hq2] at h
     simp only at h
     rw [yV hs hq h,QbZ hs hq2 h]
     exact Qai hs h
 | fieldAddr s x f =>
  simp only [aop,hop] at h ⊢
  split at h
  case h_2=>cases h
  split at h
  case h_2=>cases h
  split at h
  ·rename_i b v sz i off hz e
   split at h
   case h_2=>cases h
   rename_i hc
   simp only [hz,e,Gi hs hc];exact h
  ·exact h
  ·cases h
 | indexAddr t x ix =>
  simp only [aop,hop] at h ⊢
  split at h
  case h_2=>cases h
  exact zY hs h
 | call c =>
  obtain ⟨callee,args,ats⟩:=c
  cases callee with
  | builtin b =>
   simp only [aop,hop] at h ⊢
   exact jO hs hn h (fun x v h1 h2=>(uW h2).1 h1)
  | _=>simp only [aop,hop] at h;cases h
 | makeMap t q =>
  simp only [aop,hop] at h ⊢
  split at h
  case h_2=>cases h
  simp only [hn];exact h
 | mapUpdate t m k x=>simp only [aop,hop] at h ⊢;exact G1 hs h
 | insert t m k x=>simp only [aop,hop] at h ⊢;exact G1 hs h
 | lookup t m k ok=>simp only [aop,hop] at h ⊢;exact yZ hs h
 | range t x =>
  simp only [aop,hop] at h ⊢
  unfold yX at h ⊢
  split at h
  case h_2=>cases h
  rename_i hu hxv hl
  simp only [hu,hxv,hn];exact h
 | next x isS =>
  simp only [aop,hop] at h ⊢
  cases isS with
  | false=>cases h
  | true =>
   simp only at h ⊢
   unfold Qbq at h ⊢
   split at h
   case h_2=>cases h
   rename_i ho
   rw [Qax hs ho];exact h
 | binOp op t x y yt =>
  simp only [aop,hop] at h ⊢
  cases ha:(ev x).toV <;> cases hb:(ev y).toV <;> simp only [ha,hb] at h ⊢ <;> first | exact h | skip
  all_goals exact yz hs h
 | convert s t x =>
  simp only [aop,hop] at h ⊢
  cases ha:(ev x).toV with
  | some a=>rw [ha] at h;exact h
  | none =>
   rw [ha] at h
   simp only at h ⊢
   unfold ue at h ⊢
   split at h
   case h_2=>cases h
   rename_i e ds fs hs' ht hadd
   simp only [hs',ht,(Xy hs hadd).1];exact h
 | _=>simp only [aop,hop] at h ⊢;exact h
end
theorem Qbe {x:AV} {b:Nat} (h:ptrB x=some b):∃ v s i o,x=.ptr b v s i o:=by
 cases x <;> first | (cases h;exact ⟨_,_,_,_,rfl⟩) | cases h
theorem QcP {cx:Cx} {H G:List (Nat×Blk)} {sym:Bool} {orc:List Orc} {ev:Operand→AV} {name b:Nat} {o:Oper} {r:R} (ha:Xx ev o=some b) (hc:∀ v,GQ H b v=true→GQ G b v=true) (h:aop cx sym orc H name ev o=some r):aop cx sym orc G name ev o=some r:=by
 unfold Xx at ha
 split at ha
 ·rename_i s x f hop
  obtain ⟨v,s',i,off,hx⟩:=Qbe ha
  simp only [aop,hop,hx] at h ⊢
  split at h
  case h_2=>cases h
  rename_i fd hfd
  split at h
  case h_2=>cases h
  rename_i n hn
  split at h
  ·rename_i e1 e2
   cases e2
   split at h
   case h_2=>cases h
   rename_i hcu
   simp only [hfd,hn,e1,hc _ hcu];exact h
  ·rename_i e1 e2
   cases e2
  ·cases h
 ·rename_i t x ix hop
  obtain ⟨v,s',i,off,hx⟩:=Qbe ha
  simp only [aop,hop,hx] at h ⊢
  split at h
  case h_2=>cases h
  rename_i k j hix
  have h0:∀ {o2:List Orc} {j:Int} {q:R},Ve cx sym o2 H t (.ptr b v s' i off) j=some q→Ve cx sym o2 G t (.ptr b v s' i off) j=some q:=by
   intro o2 j q hq
   unfold Ve at hq ⊢
   split at hq
   ·rename_i len elem hu
    split at hq
    case h_2=>cases hq
    rename_i e1 e2
    simp only at hq ⊢
    split at hq
    case h_2=>cases hq
    rename_i hcu
    simp only [e1,e2,hc _ hcu];exact hq
   ·split at hq
    ·cases hq
    ·simp only at hq;cases hq
   ·cases hq
  unfold YP at h ⊢
  split at h
  ·rename_i k2 r2
   split at h
   case h_2=>cases h
   rename_i q hq
   rw [h0 hq]
   exact h
  ·rename_i hno
   exact h0 h
 ·cases ha
end Go.SX
