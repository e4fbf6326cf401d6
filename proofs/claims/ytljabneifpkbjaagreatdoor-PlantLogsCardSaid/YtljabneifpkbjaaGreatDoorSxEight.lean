/- append, copy, make. -/
import Derived.Test.YtljabneifpkbjaaGreatDoorSxSeven
set_option linter.unusedSimpArgs false
set_option linter.unusedVariables false
namespace Go.SX
section
variable {cx:Cx} {F:Nat→Prop} {hp:List (Nat×Blk)} {ρ:Nat→Value} {w:World} {re:Operand→Value} {ev:Operand→AV} {sym:Bool} {orc:List Orc} {r:R}
theorem qa {M:Nat→Prop} {full:Bool} {sz:Nat} {ds:jVj} {x:Value} (h:DR w M (.lst full sz ds) x) :
  ∃ a cap,x=.slice a ds.length cap∧ds.length≤cap∧(full=true→cap=ds.length)∧∃ news:List Value,news.length=ds.length * sz ∧
   (∀ (P:Program) (w' : World),w'.heap=w.heap→∀ m,m≤ds.length→(Builtin.firstCells sz m x).run P w'=.ok (news.take (m * sz)).toArray w') ∧
   (∀ u,u∈news→one u=true)∧(∀ (i:Nat) (d:D),ds[i]?=some d→d.cells.length=sz) ∧
   ∀ (i:Nat) (d:D) (j:Nat) (c:D),ds[i]?=some d→d.cells[j]?=some c→∃ y,news[i * sz+j]?=some y∧one y=true∧DR w M c y:=by
 cases h with
 | lst _ _ _ a cap blk off ys hf hc ha hs hw hd =>
  refine ⟨a,cap,rfl,hc,hf,(List.range (ds.length * sz)).map ys,by simp,?_,?_,hs,?_⟩
  ·intro P w' hw' m hm
   by_cases hne:ds=[]
   ·subst hne
    have hm0:m=0:=by simpa using hm
    subst hm0
    cases a with
    | none=>simp [Builtin.firstCells]
    | some a=>simp [Builtin.firstCells,loadCells,loadCellsFrom]
   ·obtain ⟨rfl,_,_⟩:=ha hne
    simp only [Builtin.firstCells]
    have hmm:m * sz≤ds.length * sz:=Nat.mul_le_mul_right _ hm
    refine JS P w' blk off _ _ (by rw [List.length_take,List.length_map,List.length_range];omega) fun k v hk=>?_
    rw [List.getElem?_take] at hk
    split at hk
    case isFalse=>cases hk
    have hkl:k < ds.length * sz:=by have:=(jGj hk).1;simpa using this
    have hz:0 < sz:=by
     rcases Nat.eq_zero_or_pos sz with h0 | h0
     ·subst h0;simp at hkl
     ·exact h0
    have hi:k / sz < ds.length:=Nat.div_lt_of_lt_mul (by rw [Nat.mul_comm];exact hkl)
    have hj:k % sz < sz:=Nat.mod_lt _ hz
    have hdk:ds[k / sz]?=some ds[k / sz]:=by simp [hi]
    have hl:=hs _ _ hdk
    have hcj:ds[k / sz].cells[k % sz]?=some ds[k / sz].cells[k % sz]:=by simp [hl,hj]
    have:=(hw _ _ _ _ hdk hcj).1
    rw [show k / sz * sz+k % sz=k from by rw [Nat.mul_comm];exact Nat.div_add_mod k sz] at this
    simp only [List.getElem?_map,List.getElem?_range hkl,Option.map_some,jIj] at hk
    rw [← hk]
    unfold World.cell? at this ⊢
    rw [hw'];exact this
  ·intro u hu
   simp only [List.mem_map,List.mem_range] at hu
   obtain ⟨k,hkl,rfl⟩:=hu
   have hz:0 < sz:=by
    rcases Nat.eq_zero_or_pos sz with h0 | h0
    ·subst h0;simp at hkl
    ·exact h0
   have hi:k / sz < ds.length:=Nat.div_lt_of_lt_mul (by rw [Nat.mul_comm];exact hkl)
   have hj:k % sz < sz:=Nat.mod_lt _ hz
   have hdk:ds[k / sz]?=some ds[k / sz]:=by simp [hi]
   have hl:=hs _ _ hdk
   have hcj:ds[k / sz].cells[k % sz]?=some ds[k / sz].cells[k % sz]:=by simp [hl,hj]
   have:=(hw _ _ _ _ hdk hcj).2
   rw [show k / sz * sz+k % sz=k from by rw [Nat.mul_comm];exact Nat.div_add_mod k sz] at this
   exact this
  ·intro i d j c hdi hcj
   have hi:i < ds.length:=(jGj hdi).1
   have hj:j < sz:=by have:=(jGj hcj).1;have:=hs i d hdi;omega
   have hk:i * sz+j < ds.length * sz:=by
    have:(i+1) * sz≤ds.length * sz:=Nat.mul_le_mul_right _ hi
    rw [Nat.add_mul,Nat.one_mul] at this;omega
   exact ⟨ys (i * sz+j),by simp [hk],(hw i d j c hdi hcj).2,hd i d j c hdi hcj⟩
theorem YY {M:Nat→Prop} {full:Bool} {sz:Nat} {ds:jVj} {x:Value} (h:DR w M (.lst full sz ds) x) :
  ∃ a cap,x=.slice a ds.length cap∧ds.length≤cap∧(full=true→cap=ds.length)∧∃ news:List Value,news.length=ds.length * sz ∧
   (∀ (P:Program) (w' : World),w'.heap=w.heap→(Builtin.firstCells sz ds.length x).run P w'=.ok news.toArray w') ∧
   (∀ u,u∈news→one u=true)∧(∀ (i:Nat) (d:D),ds[i]?=some d→d.cells.length=sz) ∧
   ∀ (i:Nat) (d:D) (j:Nat) (c:D),ds[i]?=some d→d.cells[j]?=some c→∃ y,news[i * sz+j]?=some y∧one y=true∧DR w M c y:=by
 obtain ⟨a,cap,h1,h2,h3,news,h4,h5,h6⟩:=qa h
 refine ⟨a,cap,h1,h2,h3,news,h4,fun P w' hw'=>?_,h6⟩
 have:=h5 P w' hw' ds.length (jLj _)
 rw [← h4,List.take_length] at this
 exact this
theorem UH {t t2 elem:TypeId} {sz b:Nat} {z:Value} {ats:List TypeId} {ty:TypeId} (hu:cx.P.underlying t=some (.slice elem)) (ht2:KZ cx t2=true) (hs:cx.sz elem=some sz) (hb:cx.bytes elem=some b)
  (hz:cx.zero elem=some z) {a xa:Option Addr} {n cap m xc:Nat} {olds news:List Value} (hnc:n≤cap)
  (hold:∀ w' : World,w'.heap=w.heap→(Builtin.firstCells sz n (.slice a n cap)).run cx.P w'=.ok olds.toArray w')
  (hnew:∀ w' : World,w'.heap=w.heap→(Builtin.firstCells sz m (.slice xa m xc)).run cx.P w'=.ok news.toArray w')
  (hroom:(n+m) * b≤140737488355328∧0 < b) :
  ((n+m≤cap→(Builtin.append_ (t::t2::ats).toArray ty #[.slice a n cap,.slice xa m xc]).run cx.P w =
    ((match a with | some p=>storeCells (p.add (n * sz)) news | none=>pure ()).run cx.P w).andThen fun _ w'=>.ok (.slice a (n+m) cap) w') ∧
   (cap < n+m→∃ nc,n+m≤nc∧(Builtin.append_ (t::t2::ats).toArray ty #[.slice a n cap,.slice xa m xc]).run cx.P w =
    .ok (.slice (some ⟨w.heap.size,0,none⟩) (n+m) nc) (w.drew.alloc (.cells (olds.toArray++news.toArray++Builtin.zeroCells z.cells (nc - (n+m))) elem)))):=by
 have hi:∃ i,cx.P.info? elem=some i∧i.bytes=b:=by
  unfold Cx.bytes at hb
  split at hb
  ·rename_i i hi;exact ⟨i,hi,by simpa using hb⟩
  ·cases hb
 obtain ⟨i,hi,hib⟩:=hi
 have hsmall:n+m≤140737488355328:=by
  calc n+m=(n+m) * 1:=by omega
   _≤(n+m) * b:=Nat.mul_le_mul_left _ hroom.2
   _≤_:=hroom.1
 have hd2:∃ e2,cx.P.underlying t2=some (.slice e2):=by
  unfold KZ at ht2
  split at ht2
  ·rename_i e2 h;exact ⟨e2,h⟩
  ·cases ht2
 obtain ⟨d2,hd2⟩:=hd2
 refine ⟨fun hle=>?_,fun hlt=>?_⟩
 ·have h1:=hnew w rfl
  have h2:=Zc hs w
  have h3:=Qn hu w
  have h4:=Qn hd2 w
  simp [Builtin.append_,h2,h3,h4,Builtin.lenOf,hle,h1]
  cases a <;> simp
 ·have h1:=hnew w.drew rfl
  have h1':=hold w.drew rfl
  have h2:=Zc hs w
  have h3:=Qn hu w
  have h4:=Qn hd2 w
  have h5:=growslice_fits hlt hroom.1
  have h6:=Kl hi w
  have h6':=Kl hi w.drew
  have h7:=Y4 hz w.drew
  refine ⟨grownCap w (n+m) cap elem,grownCap_ge _ _ _ _,?_⟩
  have hgt:¬ n+m≤cap:=by omega
  have hbig:¬ (9223372036854775807 < (n:Int)+(m:Int)):=by omega
  subst hib
  have h8:¬ (281474976710656 < Builtin.nextslicecap (n+m) cap * i.bytes):=by omega
  have h9:(Question.appendCap (n+m) cap elem).forced=false:=rfl
  have h10:(Question.appendCap (n+m) cap elem).cut (w.tape w.drawn (Question.appendCap (n+m) cap elem))=grownCap w (n+m) cap elem:=rfl
  simp [Builtin.append_,h2,h3,h4,Builtin.lenOf,hgt,h6,hbig,h8,h9,h10,h6',h1,h1',h7,newRow,Array.append_assoc]
  rw [← Array.append_assoc];simp
def RowIn (w:World) (M:Nat→Prop) (sz:Nat) (es:jVj) (c:Array Value):Prop :=
 (∀ (i:Nat) (d:D),es[i]?=some d→d.cells.length=sz) ∧
 ∀ (i:Nat) (d:D) (j:Nat) (a:D),es[i]?=some d→d.cells[j]?=some a→∃ y,c[i * sz+j]?=some y∧one y=true∧DR w M a y
theorem RowIn.mono {w' : World} {M M' : Nat→Prop} {sz:Nat} {es:jVj} {c:Array Value} (h:RowIn w M sz es c) (hd:∀ x y,DR w M x y→DR w' M' x y):RowIn w' M' sz es c :=
 ⟨h.1,fun i d j a hi hj=>by
  obtain ⟨y,h1,h2,h3⟩:=h.2 i d j a hi hj
  exact ⟨y,h1,h2,hd _ _ h3⟩⟩
theorem EF {i j n sz:Nat} (hi:i < n) (hj:j < sz):i * sz+j < n * sz:=by
 have:(i+1) * sz≤n * sz:=Nat.mul_le_mul_right _ hi
 rw [Nat.add_mul,Nat.one_mul] at this;omega
theorem RowIn.append {M:Nat→Prop} {sz:Nat} {es ds:jVj} {c c' : Array Value} {news:List Value} (h:RowIn w M sz es c)
  (hds:∀ (i:Nat) (d:D),ds[i]?=some d→d.cells.length=sz)
  (hn:∀ (i:Nat) (d:D) (j:Nat) (a:D),ds[i]?=some d→d.cells[j]?=some a→∃ y,news[i * sz+j]?=some y∧one y=true∧DR w M a y)
  (h1:∀ k,k < es.length * sz→c'[k]?=c[k]?) (h2:∀ k,k < ds.length * sz→c'[es.length * sz+k]?=news[k]?):RowIn w M sz (es++ds) c':=by
 refine ⟨fun i d hi=>?_,fun i d j a hi hj=>?_⟩
 ·by_cases hl:i < es.length
  ·rw [List.getElem?_append_left hl] at hi;exact h.1 i d hi
  ·rw [List.getElem?_append_right (by omega)] at hi;exact hds _ d hi
 ·by_cases hl:i < es.length
  ·rw [List.getElem?_append_left hl] at hi
   have hjl:j < sz:=by have:=(jGj hj).1;have:=h.1 i d hi;omega
   obtain ⟨y,y1,y2⟩:=h.2 i d j a hi hj
   exact ⟨y,by rw [h1 _ (EF hl hjl)];exact y1,y2⟩
  ·rw [List.getElem?_append_right (by omega)] at hi
   have hjl:j < sz:=by have:=(jGj hj).1;have:=hds _ d hi;omega
   have hil:i - es.length < ds.length:=(jGj hi).1
   obtain ⟨y,y1,y2⟩:=hn _ d j a hi hj
   refine ⟨y,?_,y2⟩
   rw [show i * sz+j=es.length * sz+((i - es.length) * sz+j) from by rw [← Nat.add_assoc,← Nat.add_mul];congr 2;omega]
   rw [h2 _ (EF hil hjl)];exact y1
theorem XF {elem:TypeId} {sz:Nat} (h:Ej cx elem sz=true):∃ z,cx.zero elem=some z∧z.cells.size=sz∧∀ u,u∈z.cells.toList→one u=true:=by
 unfold Ej at h
 split at h
 ·rename_i z hz
  simp only [jAj,List.all_eq_true] at h
  exact ⟨z,hz,ZZ h.1,h.2⟩
 ·cases h
theorem Ui (h:HSim cx F hp ρ w) {fs:List Nat} {x:AV} {u:Value} {asz sz:Nat} {ds:jVj}
  (hx:YR hp x=some (asz,ds,fs)) (hasz:asz=sz ∨ ds=[]) (hxv:VR w (MM F hp ρ) hp ρ x u) :
  ∃ xa xc news,u=.slice xa ds.length xc∧news.length=ds.length * sz∧(∀ w' : World,w'.heap=w.heap→(Builtin.firstCells sz ds.length (.slice xa ds.length xc)).run cx.P w'=.ok (List.toArray news) w') ∧
   (∀ v,v∈news→one v=true)∧(∀ (i:Nat) (d:D),ds[i]?=some d→d.cells.length=sz) ∧
   (∀ (i:Nat) (d:D) (j:Nat) (c:D),ds[i]?=some d→d.cells[j]?=some c→∃ y,news[i * sz+j]?=some y∧one y=true∧DR w (MM F (Qe hp fs++hp) ρ) c y):=by
 have hdr:∃ full,DR w (MM F (Qe hp fs++hp) ρ) (.lst full asz ds) u:=by
  unfold YR at hx
  split at hx <;> simp only [jIj,reduceCtorEq,jPj] at hx
  rename_i full sz' es' fs' hd
  obtain ⟨rfl,rfl,rfl⟩:=hx
  exact ⟨full,Wu h fs' x u _ fs' hd (fun _ h=>h) hxv⟩
 obtain ⟨full,hdr⟩:=hdr
 obtain ⟨xa,xc,rfl,hxc,_,news,n1,n2,n3,n4,n5⟩:=YY hdr
 refine ⟨xa,xc,news,rfl,?_,?_,n3,?_,?_⟩
 ·rcases hasz with e | e
  ·rw [← e];exact n1
  ·rw [e] at n1 ⊢;simpa using n1
 ·intro w' hw'
  rcases hasz with e | e
  ·rw [← e];exact n2 _ _ hw'
  ·have:=n2 cx.P w' hw'
   subst e
   cases xa with
   | none=>simpa [Builtin.firstCells] using this
   | some a=>simpa [Builtin.firstCells,loadCells,loadCellsFrom] using this
 ·rcases hasz with e | e
  ·rw [← e];exact n4
  ·subst e;intro i d hd;simp at hd
 ·rcases hasz with e | e
  ·rw [← e];exact n5
  ·subst e;intro i d j c hd;simp at hd
theorem JK (h:HSim cx F hp ρ w) {t t2 elem:TypeId} {ats:List TypeId} {ty:TypeId} {sz sz0 bt b nv:Nat} {z sv:Value} {es ds:jVj} {fs:List Nat} {x:AV} {u:Value} {asz:Nat}
  (hu:cx.P.underlying t=some (.slice elem)) (ht2:KZ cx t2=true) (hs:cx.sz elem=some sz) (hb:cx.bytes elem=some bt) (hz:cx.zero elem=some z) (hzs:z.cells.size=sz)
  (hsv:DR w (MM F hp ρ) (.lst true sz0 es) sv) (hsz0:sz0=sz ∨ es=[]) (hold0:∀ k0,look (Qe hp fs++hp) b=some k0→k0.ver < nv ∨ False) (hx:YR hp x=some (asz,ds,fs)) (hasz:asz=sz ∨ ds=[])
  (hne:ds≠[]) (hxv:VR w (MM F hp ρ) hp ρ x u) (hroom:(es.length+ds.length) * bt≤140737488355328∧0 < bt) :
  ∃ v w',(Builtin.append_ (t::t2::ats).toArray ty #[sv,u]).run cx.P w=.ok v w' ∧
   OpOK cx F hp ρ w ((b,.row nv sz (es++ds))::Qe hp fs) (.own b nv) v w':=by
 obtain ⟨g1,g2⟩:=h.freeze fs
 obtain ⟨xa,xc,news,rfl,hnl,hn2,n3,hn4,hn5⟩:=Ui h hx hasz hxv
 have hsv2:=g2.dr hsv
 obtain ⟨sa,sc,rfl,hsc,hfull,olds,o1,o2,o3,o4,o5⟩:=YY hsv2
 have hsc:=hfull rfl
 subst hsc
 have hol:olds.length=es.length * sz:=by
  rcases hsz0 with e | e
  ·rw [← e];exact o1
  ·rw [e] at o1 ⊢;simpa using o1
 have ho2:∀ w' : World,w'.heap=w.heap→(Builtin.firstCells sz es.length (.slice sa es.length es.length)).run cx.P w'=.ok olds.toArray w':=by
  intro w' hw'
  rcases hsz0 with e | e
  ·rw [← e];exact o2 _ _ hw'
  ·have:=o2 cx.P w' hw'
   subst e
   cases sa with
   | none=>simpa [Builtin.firstCells] using this
   | some a=>simpa [Builtin.firstCells,loadCells,loadCellsFrom] using this
 have hrin:RowIn w (MM F (Qe hp fs++hp) ρ) sz es olds.toArray:=by
  rcases hsz0 with e | e
  ·rw [← e]
   refine ⟨o4,fun i d j a hi hj=>?_⟩
   obtain ⟨y,y1,y2⟩:=o5 i d j a hi hj
   exact ⟨y,by simpa using y1,y2⟩
  ·subst e;exact ⟨fun i d hi=>by simp at hi,fun i d j a hi=>by simp at hi⟩
 have hpos:0 < ds.length:=by cases ds with
  | nil=>exact absurd rfl hne
  | cons _ _=>simp
 obtain ⟨_,a2⟩:=UH (cx:=cx) (w:=w) (ats:=ats) (ty:=ty) hu ht2 hs hb hz (a:=sa) (cap:=es.length) (xa:=xa) (xc:=xc) (jLj _) ho2 hn2 hroom
 obtain ⟨nc,hnc,hrun⟩:=a2 (by omega)
 refine ⟨_,_,hrun,?_⟩
 obtain ⟨d1,d2⟩:=g1.drew
 have hcsz:(olds.toArray++news.toArray++Builtin.zeroCells z.cells (nc - (es.length+ds.length))).size=nc * sz:=by
  simp only [Array.size_append,List.size_toArray,size_zeroCells,hzs,hnl,hol]
  rw [← Nat.add_mul,← Nat.add_mul];congr 1;omega
 obtain ⟨k1,k2⟩:=d1.fresh (b:=b) (k:=.row nv sz (es++ds)) (v:=.slice (some ⟨w.heap.size,0,none⟩) (es.length+ds.length) nc)
  (olds.toArray++news.toArray++Builtin.zeroCells z.cells (nc - (es.length+ds.length))) elem (fun r hr=>by rw [Zl (by omega)] at hr;exact (Option.some.inj hr).symm) (fun k0 hk0=>(hold0 k0 hk0).resolve_right id)
  (fun hst=>by
   have hr2:RowIn w (MM F (Qe hp fs++hp) ρ) sz (es++ds) (olds.toArray++news.toArray++Builtin.zeroCells z.cells (nc - (es.length+ds.length))) :=
    hrin.append hn4 hn5 (fun k hk=>by
      rw [Array.append_assoc,Array.getElem?_append_left (by simp;omega)]) (fun k hk=>by
      rw [Array.append_assoc,Array.getElem?_append_right (by simp;omega)]
      have:es.length * sz+k - olds.toArray.size=k:=by simp;omega
      rw [this,Array.getElem?_append_left (by simp;omega)];simp)
   have hr3:=hr2.mono (fun x y hd=>(d2.trans hst).dr hd)
   exact .inr ⟨w.heap.size,_,elem,nc,by rw [QG,List.length_append],⟨by rw [List.length_append];exact hnc,by omega⟩,by rw [hcsz];exact jLj _,WJ _ _,hr3.1,hr3.2⟩)
 exact ⟨_,k1,(g2.trans d2).trans k2,.own b nv _ _ (Qd _ _ _) (jLj _) rfl fun _=>(QG _ _ _).symm⟩
theorem yY (h:HSim cx F hp ρ w) {t t2 elem:TypeId} {ats:List TypeId} {ty:TypeId} {sz sz0 bt:Nat} {z sv:Value} {es ds:jVj} {fs:List Nat} {x:AV} {u:Value} {asz:Nat}
  (hu:cx.P.underlying t=some (.slice elem)) (ht2:KZ cx t2=true) (hs:cx.sz elem=some sz) (hb:cx.bytes elem=some bt) (hz:cx.zero elem=some z) (hzs:z.cells.size=sz)
  (hsv:DR w (MM F hp ρ) (.lst true sz0 es) sv) (hsz0:sz0=sz ∨ es=[]) (hx:YR hp x=some (asz,ds,fs)) (hasz:asz=sz ∨ ds=[])
  (hne:ds≠[]) (hxv:VR w (MM F hp ρ) hp ρ x u) (hroom:(es.length+ds.length) * bt≤140737488355328∧0 < bt) :
  ∃ v w',(Builtin.append_ (t::t2::ats).toArray ty #[sv,u]).run cx.P w=.ok v w' ∧
   OpOK cx F hp ρ w (Qe hp fs) (.d (.lst false sz (es++ds))) v w':=by
 obtain ⟨g1,g2⟩:=h.freeze fs
 obtain ⟨xa,xc,news,rfl,hnl,hn2,n3,hn4,hn5⟩:=Ui h hx hasz hxv
 have hsv2:=g2.dr hsv
 obtain ⟨sa,sc,rfl,hsc,hfull,olds,o1,o2,o3,o4,o5⟩:=YY hsv2
 have hsc:=hfull rfl
 subst hsc
 have hol:olds.length=es.length * sz:=by
  rcases hsz0 with e | e
  ·rw [← e];exact o1
  ·rw [e] at o1 ⊢;simpa using o1
 have ho2:∀ w' : World,w'.heap=w.heap→(Builtin.firstCells sz es.length (.slice sa es.length es.length)).run cx.P w'=.ok olds.toArray w':=by
  intro w' hw'
  rcases hsz0 with e | e
  ·rw [← e];exact o2 _ _ hw'
  ·have:=o2 cx.P w' hw'
   subst e
   cases sa with
   | none=>simpa [Builtin.firstCells] using this
   | some a=>simpa [Builtin.firstCells,loadCells,loadCellsFrom] using this
 have hrin:RowIn w (MM F (Qe hp fs++hp) ρ) sz es olds.toArray:=by
  rcases hsz0 with e | e
  ·rw [← e]
   refine ⟨o4,fun i d j a hi hj=>?_⟩
   obtain ⟨y,y1,y2⟩:=o5 i d j a hi hj
   exact ⟨y,by simpa using y1,y2⟩
  ·subst e;exact ⟨fun i d hi=>by simp at hi,fun i d j a hi=>by simp at hi⟩
 have hpos:0 < ds.length:=by cases ds with
  | nil=>exact absurd rfl hne
  | cons _ _=>simp
 obtain ⟨_,a2⟩:=UH (cx:=cx) (w:=w) (ats:=ats) (ty:=ty) hu ht2 hs hb hz (a:=sa) (cap:=es.length) (xa:=xa) (xc:=xc) (jLj _) ho2 hn2 hroom
 obtain ⟨nc,hnc,hrun⟩:=a2 (by omega)
 refine ⟨_,_,hrun,?_⟩
 obtain ⟨d1,d2⟩:=g1.drew
 have hcsz:(olds.toArray++news.toArray++Builtin.zeroCells z.cells (nc - (es.length+ds.length))).size=nc * sz:=by
  simp only [Array.size_append,List.size_toArray,size_zeroCells,hzs,hnl,hol]
  rw [← Nat.add_mul,← Nat.add_mul];congr 1;omega
 obtain ⟨k1,k2⟩:=d1.alloc (.cells (olds.toArray++news.toArray++Builtin.zeroCells z.cells (nc - (es.length+ds.length))) elem)
 have hr2:RowIn w (MM F (Qe hp fs++hp) ρ) sz (es++ds) (olds.toArray++news.toArray++Builtin.zeroCells z.cells (nc - (es.length+ds.length))) :=
  hrin.append hn4 hn5 (fun k hk=>by
    rw [Array.append_assoc,Array.getElem?_append_left (by simp;omega)]) (fun k hk=>by
    rw [Array.append_assoc,Array.getElem?_append_right (by simp;omega)]
    have:es.length * sz+k - olds.toArray.size=k:=by simp;omega
    rw [this,Array.getElem?_append_left (by simp;omega)];simp)
 have hr3:=hr2.mono (fun x y hd=>(d2.trans k2).dr hd)
 generalize hC:olds.toArray++news.toArray++Builtin.zeroCells z.cells (nc - (es.length+ds.length))=C at *
 have hnew:(w.drew.alloc (.cells C elem)).heap[w.heap.size]?=some (.cells C elem (0,0)):=WJ w.drew _
 have hlt:w.heap.size < (w.drew.alloc (.cells C elem)).heap.size:=by
  rcases Nat.lt_or_ge w.heap.size (w.drew.alloc (.cells C elem)).heap.size with q | q
  ·exact q
  ·rw [Array.getElem?_eq_none q] at hnew;cases hnew
 refine ⟨ρ,k1,(g2.trans d2).trans k2,.d _ _ ?_⟩
 have key:=DR.lst (w:=w.drew.alloc (.cells C elem)) (M:=MM F (Qe hp fs++hp) ρ) false sz (es++ds) (some ⟨w.heap.size,0,none⟩) nc w.heap.size 0 (fun q=>C.getD q undef) (fun q=>by cases q) (by rw [List.length_append];exact hnc)
  (fun _=>⟨rfl,fun q=>by
   rcases q with q | q
   ·exact Nat.lt_irrefl _ (g1.bnd _ q)
   ·exact Nat.lt_irrefl _ (g1.mut_lt q),hlt⟩) hr3.1
  (fun i d j a hi hj=>by
   obtain ⟨y,y1,y2,_⟩:=hr3.2 i d j a hi hj
   have he:C.getD (i * sz+j) undef=y:=by simp [Array.getD_eq_getD_getElem?,y1]
   simp only [he]
   refine ⟨?_,y2⟩
   simp only [World.cell?,hnew,Nat.zero_add,Option.isSome_none]
   simp [y1])
  (fun i d j a hi hj=>by
   obtain ⟨y,y1,_,y3⟩:=hr3.2 i d j a hi hj
   have he:C.getD (i * sz+j) undef=y:=by simp [Array.getD_eq_getD_getElem?,y1]
   show DR _ _ a (C.getD (i * sz+j) undef)
   rw [he];exact y3)
 rw [List.length_append] at key
 exact key
theorem jr (h:HSim cx F hp ρ w) {t t2 elem:TypeId} {ats:List TypeId} {ty:TypeId} {sz bt b ver:Nat} {z:Value} {es ds:jVj} {fs:List Nat} {x:AV} {u:Value} {asz:Nat}
  (hu:cx.P.underlying t=some (.slice elem)) (ht2:KZ cx t2=true) (hs:cx.sz elem=some sz) (hb:cx.bytes elem=some bt) (hz:cx.zero elem=some z) (hzs:z.cells.size=sz)
  (hrow:look hp b=some (.row ver sz es)) (hx:x.toDH hp=some (.lst false asz ds,fs) ∨ x.toDH hp=some (.lst true asz ds,fs)) (hasz:asz=sz ∨ ds=[]) (hfs:fs.contains b=false)
  (hxv:VR w (MM F hp ρ) hp ρ x u) (hroom:(es.length+ds.length) * bt≤140737488355328∧0 < bt) :
  ∃ v w',(Builtin.append_ (t::t2::ats).toArray ty #[ρ b,u]).run cx.P w=.ok v w' ∧
   OpOK cx F hp ρ w ((b,.row (ver+1) sz (es++ds))::Qe hp fs) (.own b (ver+1)) v w':=by
 obtain ⟨g1,g2⟩:=h.freeze fs
 have hmem:¬ b∈fs:=by
  intro hm
  have:fs.contains b=true:=by simpa using hm
  rw [this] at hfs;cases hfs
 have hb1:look (Qe hp fs++hp) b=some (.row ver sz es):=by
  have:∀ l:List Nat,¬ b∈l→look (Qe hp l++hp) b=look hp b:=by
   intro l
   induction l with
   | nil=>intro _;rfl
   | cons q l ih =>
    intro hq
    simp only [List.mem_cons,not_or] at hq
    simp only [Qe]
    split
    ·rw [List.cons_append,Qc _ _ (fun e=>hq.1 e.symm)];exact ih hq.2
    ·split
     ·rw [List.cons_append,Qc _ _ (fun e=>hq.1 e.symm)];exact ih hq.2
     ·exact ih hq.2
    ·exact ih hq.2
  rw [this fs hmem];exact hrow
 have hdr:∃ full,DR w (MM F (Qe hp fs++hp) ρ) (.lst full asz ds) u:=by
  rcases hx with hx | hx
  ·exact ⟨_,Wu h fs x u _ fs hx (fun _ h=>h) hxv⟩
  ·exact ⟨_,Wu h fs x u _ fs hx (fun _ h=>h) hxv⟩
 obtain ⟨full,hdr⟩:=hdr
 obtain ⟨xa,xc,rfl,hxc,_,news,n1,n2,n3,n4,n5⟩:=YY hdr
 have hnl:news.length=ds.length * sz:=by
  rcases hasz with e | e
  ·rw [← e];exact n1
  ·rw [e] at n1 ⊢;simpa using n1
 have hn2:∀ w' : World,w'.heap=w.heap→(Builtin.firstCells sz ds.length (.slice xa ds.length xc)).run cx.P w'=.ok news.toArray w':=by
  intro w' hw'
  rcases hasz with e | e
  ·rw [← e];exact n2 _ _ hw'
  ·have:=n2 cx.P w' hw'
   subst e
   cases xa with
   | none=>simpa [Builtin.firstCells] using this
   | some a=>simpa [Builtin.firstCells,loadCells,loadCellsFrom] using this
 have hn4:∀ (i:Nat) (d:D),ds[i]?=some d→d.cells.length=sz:=by
  rcases hasz with e | e
  ·rw [← e];exact n4
  ·subst e;intro i d hd;simp at hd
 have hn5:∀ (i:Nat) (d:D) (j:Nat) (c:D),ds[i]?=some d→d.cells[j]?=some c→∃ y,news[i * sz+j]?=some y∧one y=true∧DR w (MM F (Qe hp fs++hp) ρ) c y:=by
  rcases hasz with e | e
  ·rw [← e];exact n5
  ·subst e;intro i d j c hd;simp at hd
 rcases g1.blk b _ hb1 with ⟨rfl,a0,q1⟩ | ⟨r,c,e,cap,q1,⟨q2,hcap⟩,q3,q4,q5,q6⟩
 ·have hsv:DR w (MM F hp ρ) (.lst true sz []) (ρ b):=by
   rw [q1]
   exact .lst true sz [] a0 0 0 0 (fun _=>undef) (fun _=>rfl) (jLj _) (fun h=>absurd rfl h) (fun i e h=>by simp at h) (fun i e j c h=>by simp at h) (fun i e j c h=>by simp at h)
  have hadd:YR hp x=some (asz,ds,fs):=by unfold YR;rcases hx with hx | hx <;> rw [hx]
  by_cases hne:ds=[]
  ·subst hne
   rw [q1]
   have hold:∀ w' : World,w'.heap=w.heap→(Builtin.firstCells sz 0 (.slice a0 0 0)).run cx.P w'=.ok (List.toArray []) w':=by
    intro w' hw'
    cases a0 with
    | none=>simp [Builtin.firstCells]
    | some a=>simp [Builtin.firstCells,loadCells,loadCellsFrom]
   obtain ⟨a1,_⟩:=UH (cx:=cx) (w:=w) (ats:=ats) (ty:=ty) hu ht2 hs hb hz (a:=a0) (cap:=0) (xa:=xa) (xc:=xc) (jLj _) hold hn2 hroom
   have hn0:news=[]:=by simpa using hnl
   subst hn0
   obtain ⟨k1,k2⟩:=g1.renew hb1 q1
   exact ⟨.slice a0 0 0,w,by rw [a1 (by simp)];cases a0 <;> rfl,_,k1,g2.trans k2,.own b (ver+1) _ _ (Qd _ _ _) (jLj _) rfl fun _=>(QG _ _ _).symm⟩
  ·have:=JK (nv:=ver+1) (b:=b) (ats:=ats) (ty:=ty) h hu ht2 hs hb hz hzs hsv (.inr rfl) (fun k0 hk0=>by rw [hb1] at hk0;cases hk0;exact .inl (Nat.lt_succ_self _)) hadd hasz hne hxv hroom
   simpa using this
 have hrin:RowIn w (MM F (Qe hp fs++hp) ρ) sz es c:=⟨q5,q6⟩
 have hesz:es.length * sz≤c.size:=Nat.le_trans (Nat.mul_le_mul_right _ q2) q3
 -- the old cells
 have hold:∀ w' : World,w'.heap=w.heap→(Builtin.firstCells sz es.length (.slice (some ⟨r,0,none⟩) es.length cap)).run cx.P w'=.ok (c.toList.take (es.length * sz)).toArray w':=by
  intro w' hw'
  simp only [Builtin.firstCells]
  refine JS cx.P w' r 0 _ _ (by simp;omega) fun k v hk=>?_
  rw [List.getElem?_take] at hk
  split at hk
  ·rw [YD (by rw [hw'];exact q4),Nat.zero_add];simpa using hk
  ·cases hk
 obtain ⟨a1,a2⟩:=UH (cx:=cx) (w:=w) (ats:=ats) (ty:=ty) hu ht2 hs hb hz (a:=some ⟨r,0,none⟩) (xa:=xa) (xc:=xc) q2 hold hn2 hroom
 rw [q1]
 by_cases hle:es.length+ds.length≤cap
 ·have hfit:0+es.length * sz+0+news.length≤c.size:=by
   rw [hnl]
   have:(es.length+ds.length) * sz≤cap * sz:=Nat.mul_le_mul_right _ hle
   rw [Nat.add_mul] at this;omega
  obtain ⟨w',s1,s2,s3⟩:=Y5 cx.P r (0+es.length * sz) news 0 w c e q4 hfit (fun v hv=>(Ym (n3 v hv)).2)
  refine ⟨_,w',by rw [a1 hle];simp only [add_at];rw [s1];rfl,?_⟩
  obtain ⟨k1,k2⟩:=g1.write (b:=b) (k:=.row (ver+1) sz (es++ds)) (v:=.slice (some ⟨r,0,none⟩) (es.length+ds.length) cap) hb1 rfl (r:=r) (by rw [q1];exact Zl hcap) (Zl hcap)
   (.inl (Nat.lt_succ_self _)) s3 (fun hst=>by
    have hr2:RowIn w (MM F (Qe hp fs++hp) ρ) sz (es++ds) (Uz c (0+es.length * sz+0) news) :=
     hrin.append hn4 hn5 (fun k hk=>by rw [Vz _ _ _ hfit,jFj (by omega)]) (fun k hk=>by
      rw [Vz _ _ _ hfit,jTj (by omega)];congr 1;omega)
    have hr3:=hr2.mono (w':=w') (M':=MM F ((b,Blk.row (ver+1) sz (es++ds))::(Qe hp fs++hp)) (Vl ρ b (.slice (some ⟨r,0,none⟩) (es.length+ds.length) cap))) (fun x y hd=>hst.dr hd)
    exact .inr ⟨r,_,e,cap,by rw [QG,List.length_append],⟨by rw [List.length_append];exact hle,hcap⟩,by rw [Yk];exact q3,s2,hr3.1,hr3.2⟩)
  exact ⟨_,k1,g2.trans k2,.own b (ver+1) _ _ (Qd _ _ _) (jLj _) rfl fun _=>(QG _ _ _).symm⟩
 ·obtain ⟨nc,hnc,hrun⟩:=a2 (by omega)
  refine ⟨_,_,hrun,?_⟩
  obtain ⟨d1,d2⟩:=g1.drew
  have hcsz:((c.toList.take (es.length * sz)).toArray++news.toArray++Builtin.zeroCells z.cells (nc - (es.length+ds.length))).size=nc * sz:=by
   simp only [Array.size_append,List.size_toArray,size_zeroCells,hzs,hnl,List.length_take,Array.length_toList]
   rw [Nat.min_eq_left hesz,← Nat.add_mul,← Nat.add_mul];congr 1;omega
  obtain ⟨k1,k2⟩:=d1.fresh (b:=b) (k:=.row (ver+1) sz (es++ds)) (v:=.slice (some ⟨w.heap.size,0,none⟩) (es.length+ds.length) nc)
   ((c.toList.take (es.length * sz)).toArray++news.toArray++Builtin.zeroCells z.cells (nc - (es.length+ds.length))) elem (fun r hr=>by rw [Zl (by omega)] at hr;exact (Option.some.inj hr).symm) (fun k0 hk0=>by rw [hb1] at hk0;cases hk0;exact Nat.lt_succ_self _)
   (fun hst=>by
    have hr2:RowIn w (MM F (Qe hp fs++hp) ρ) sz (es++ds) ((c.toList.take (es.length * sz)).toArray++news.toArray++Builtin.zeroCells z.cells (nc - (es.length+ds.length))) :=
     hrin.append hn4 hn5 (fun k hk=>by
       rw [Array.append_assoc,Array.getElem?_append_left (by simp;omega)]
       simp [List.getElem?_take,hk]) (fun k hk=>by
       rw [Array.append_assoc,Array.getElem?_append_right (by simp;omega)]
       have:es.length * sz+k - (c.toList.take (es.length * sz)).toArray.size=k:=by simp;omega
       rw [this,Array.getElem?_append_left (by simp;omega)];simp)
    have hr3:=hr2.mono (fun x y hd=>(d2.trans hst).dr hd)
    exact .inr ⟨w.heap.size,_,elem,nc,by rw [QG,List.length_append],⟨by rw [List.length_append];exact hnc,by omega⟩,by rw [hcsz];exact jLj _,WJ _ _,hr3.1,hr3.2⟩)
  exact ⟨_,k1,(g2.trans d2).trans k2,.own b (ver+1) _ _ (Qd _ _ _) (jLj _) rfl fun _=>(QG _ _ _).symm⟩
theorem UZ {l:jVj} (h:UF l=true):l=[]:=by cases l <;> simp_all [UF]
theorem E8 {l:jVj} (h:UF l=false):l≠[]:=by cases l <;> simp_all [UF]
theorem yv {a b:Nat} {l:jVj} (h:(Nat.beq a b || UF l)=true):a=b ∨ l=[]:=by
 simp only [Bool.or_eq_true] at h
 rcases h with h | h
 ·exact .inl (ZZ h)
 ·exact .inr (UZ h)
theorem QbF {ds:jVj} {ob:List Prop} {o' : List Orc} (h:nilO sym orc ds=some (true,ob,o')) (ho:∀ q,q∈ob→q):ds=[]:=by
 unfold nilO at h
 split at h
 ·simp only [jIj,jPj] at h;obtain ⟨rfl,rfl,rfl⟩:=h;exact UZ (ho _ jMj)
 ·split at h
  ·rename_i hd;exact UZ hd
  ·simp at h
 ·cases h
theorem EB {ds:jVj} {ob:List Prop} {o' : List Orc} (h:nilO sym orc ds=some (false,ob,o')) (ho:∀ q,q∈ob→q):ds≠[]:=by
 unfold nilO at h
 split at h
 ·simp only [jIj,jPj] at h;obtain ⟨rfl,rfl,rfl⟩:=h;exact E8 (ho _ jMj)
 ·split at h
  ·simp at h
  ·rename_i hd;exact E8 hd
 ·cases h
theorem Wo {p:Prop} [Decidable p] {ob:List Prop} {o' : List Orc} (h:owe sym orc p=some (ob,o')) (ho:∀ q,q∈ob→q):p:=by
 unfold owe at h
 split at h
 ·simp only [jIj,jPj] at h;obtain ⟨rfl,rfl⟩:=h;exact ho _ jMj
 ·split at h
  ·rename_i hd;exact of_decide_eq_true hd
  ·cases h
 ·cases h
theorem Yc {elem:TypeId} {n:Nat} (h:room cx elem n):∃ b,cx.bytes elem=some b∧n * b≤140737488355328∧0 < b:=by
 unfold room at h
 split at h
 ·rename_i b hb;exact ⟨b,hb,h⟩
 ·exact h.elim
theorem HSim.name0 (h:HSim cx F hp ρ w) {b sz:Nat} {a:Option Addr} (hb:look hp b=none) :
  HSim cx F ((b,.row 0 sz [])::hp) (Vl ρ b (.slice a 0 0)) w∧Steps1 hp ρ w ((b,.row 0 sz [])::hp) (Vl ρ b (.slice a 0 0)) w:=by
 have hmut:∀ q,Mut ((b,.row 0 sz [])::hp) (Vl ρ b (.slice a 0 0)) q→Mut hp ρ q:=by
  rintro q ⟨n,k',hn,hm,hq⟩
  by_cases hnb:n=b
  ·subst hnb;rw [QG,Wk] at hq;cases hq
  ·rw [Qc _ _ (Ne.symm hnb)] at hn;rw [QU _ _ hnb] at hq;exact ⟨n,k',hn,hm,hq⟩
 have hne:∀ n k1,look hp n=some k1→n≠b:=fun n k1 hn e=>by subst e;rw [hb] at hn;cases hn
 have hst:Steps1 hp ρ w ((b,.row 0 sz [])::hp) (Vl ρ b (.slice a 0 0)) w:=by
  refine ⟨Ext.refl _ _,fun q _ hm=>hmut q hm,⟨fun n k1 hn=>?_⟩⟩
  have hnb:=hne n k1 hn
  exact ⟨k1,by rw [Qc _ _ (Ne.symm hnb)];exact hn,jLj _,fun _=>QU _ _ hnb⟩
 refine ⟨h.step hst (fun n k' hn=>?_) (fun n n' k1 k2 q h1 h2 m1 m2 r1 r2=>?_) (fun q hq=>h.forb q (hmut q hq)),hst⟩
 ·by_cases hnb:n=b
  ·subst hnb;rw [Qd] at hn;cases hn;exact .inr (.inl ⟨rfl,a,QG _ _ _⟩)
  ·rw [Qc _ _ (Ne.symm hnb)] at hn;exact .inl ⟨hn,QU _ _ hnb,fun _ _ _=>rfl⟩
 ·by_cases hn:n=b
  ·subst hn;rw [QG,Wk] at r1;cases r1
  ·by_cases hn' : n'=b
   ·subst hn';rw [QG,Wk] at r2;cases r2
   ·rw [QU _ _ hn] at r1;rw [QU _ _ hn'] at r2
    rw [Qc _ _ (Ne.symm hn)] at h1;rw [Qc _ _ (Ne.symm hn')] at h2
    exact h.inj n n' k1 k2 q h1 h2 m1 m2 r1 r2
theorem jP (h:HSim cx F hp ρ w) {name:Nat} {t t2:TypeId} {ats:List TypeId} {ty:TypeId} {s x:AV} {sv u:Value} (ht2:KZ cx t2=true)
  (hr:XW cx sym orc hp name t s x=some r) (ho:∀ q,q∈r.ob→q) (hsv:VR w (MM F hp ρ) hp ρ s sv) (hxv:VR w (MM F hp ρ) hp ρ x u) :
  ∃ v w',(Builtin.append_ (t::t2::ats).toArray ty #[sv,u]).run cx.P w=.ok v w'∧OpOK cx F hp ρ w r.up r.val v w':=by
 unfold XW at hr
 split at hr
 case h_2=>cases hr
 rename_i elem asz ds fs hu hadd
 split at hr
 ·cases hr
 rename_i z hs
 split at hr
 ·cases hr
 rename_i hc
 simp only [jAj] at hc
 have hasz:=yv hc.1
 obtain ⟨zv,hz,hzs,_⟩:=XF hc.2
 split at hr
 ·rename_i b ver
  cases hsv with
  | own _ _ k _ hb hv hone hh =>
  rw [hb] at hr
  cases k with
  | box _=>simp at hr
  | loop _ _ _ _ _ _=>simp at hr
  | mp _=>simp at hr
  | it _ _=>simp at hr
  | fbox _=>simp at hr
  | left _=>simp at hr
  | dead=>simp at hr
  | frozen _ _ _=>simp at hr
  | row ver' sz es =>
   simp only at hr
   split at hr
   ·cases hr
   rename_i hc2
   simp only [jAj,Bool.not_eq_true'] at hc2
   have e1:=ZZ hc2.1.1
   have e2:=ZZ hc2.1.2
   subst e1;subst e2
   split at hr
   case h_2=>cases hr
   rename_i ob o' how
   have hx:x.toDH hp=some (.lst false asz ds,fs) ∨ x.toDH hp=some (.lst true asz ds,fs):=by
    unfold YR at hadd
    split at hadd <;> simp only [jIj,reduceCtorEq,jPj] at hadd
    rename_i full _ _ _ hd
    obtain ⟨rfl,rfl,rfl⟩:=hadd
    cases full
    ·exact .inl hd
    ·exact .inr hd
   split at hr
   ·simp only [jIj] at hr;subst hr
    obtain ⟨bt,hbt,hroom⟩:=Yc (Wo how ho)
    rw [hh rfl]
    obtain ⟨v,w',hrun,ρ',g1,g2,g3⟩:=jr (ats:=ats) (ty:=ty) h hu ht2 hs hbt hz hzs hb hx hasz hc2.2 hxv hroom
    obtain ⟨k1,k2⟩:=g1.freeze [b]
    have hfz:Qe (((b,.row (ver+1) sz (es++ds))::Qe hp fs)++hp) [b]=[(b,.frozen (ver+1) sz (es++ds))]:=by
     simp only [Qe,List.cons_append,Qd]
    have hto:(AV.own b (ver+1)).toDH (((b,.row (ver+1) sz (es++ds))::Qe hp fs)++hp)=some (.lst false sz (es++ds),[b]):=by
     simp [AV.toDH,List.cons_append,Qd]
    have hdr:=Wu g1 [b] (.own b (ver+1)) v _ [b] hto (fun _ h=>h) g3
    rw [hfz] at k1 k2 hdr
    exact ⟨v,w',hrun,ρ',k1,g2.trans k2,.d _ _ hdr⟩
   ·simp only [jIj] at hr;subst hr
    obtain ⟨bt,hbt,hroom⟩:=Yc (Wo how ho)
    rw [hh rfl]
    exact jr h hu ht2 hs hbt hz hzs hb hx hasz hc2.2 hxv hroom
  | virt ver' sz es =>
   simp only at hr
   split at hr
   ·cases hr
   rename_i hc2
   simp only [jAj] at hc2
   have e1:=ZZ hc2.1
   have e2:=yv hc2.2
   subst e1
   split at hr
   case h_2=>cases hr
   rename_i ob o' how
   split at hr
   case h_2=>cases hr
   rename_i ob2 o2 hnil
   simp only [jIj] at hr;subst hr
   obtain ⟨bt,hbt,hroom⟩:=Yc (Wo how fun q hq=>ho q (List.mem_append_right _ hq))
   have hnil:=EB hnil fun q hq=>ho q (List.mem_append_left _ hq)
   rw [hh rfl]
   refine JK h hu ht2 hs hbt hz hzs (h.blk b _ hb) e2 (fun k0 hk0=>?_) hadd hasz hnil hxv hroom
   rcases W3 hp fs b with hl | ⟨_,_,_,hl,_⟩ | ⟨_,_,_,hl,_⟩
   ·rw [hl,hb] at hk0;cases hk0;exact .inl (Nat.lt_succ_self _)
   ·rw [hb] at hl;cases hl
   ·rw [hb] at hl;cases hl
 ·rename_i sz es
  split at hr
  ·cases hr
  rename_i hc2
  have e2:=yv hc2
  cases hsv with
  | d _ _ hsv =>
  split at hr
  ·split at hr
   case h_2=>cases hr
   rename_i ob o' hes hname how
   simp only [jIj] at hr;subst hr
   have hes:es=[]:=UZ hes
   subst hes
   obtain ⟨bt,hbt,hroom⟩:=Yc (Wo how ho)
   by_cases hds:ds=[]
   ·subst hds
    obtain ⟨xa,xc,news,rfl,hnl,hn2,n3,hn4,hn5⟩:=Ui h hadd hasz hxv
    obtain ⟨sa,sc,rfl,hsc,hfull,olds,o1,o2,o3,o4,o5⟩:=YY hsv
    have hsc:=hfull rfl
    subst hsc
    have ho2:∀ w' : World,w'.heap=w.heap→(Builtin.firstCells z ([]:jVj).length (.slice sa ([]:jVj).length ([]:jVj).length)).run cx.P w'=.ok olds.toArray w':=by
     intro w' hw'
     have:=o2 cx.P w' hw'
     cases sa with
     | none=>simpa [Builtin.firstCells] using this
     | some a=>simpa [Builtin.firstCells,loadCells,loadCellsFrom] using this
    obtain ⟨a1,_⟩:=UH (cx:=cx) (w:=w) (ats:=ats) (ty:=ty) hu ht2 hs hbt hz (a:=sa) (cap:=([]:jVj).length) (xa:=xa) (xc:=xc) (jLj _) ho2 hn2 hroom
    have hn0:news=[]:=by simpa using hnl
    subst hn0
    refine ⟨.slice sa 0 0,w,by rw [a1 (by simp)];cases sa <;> rfl,?_⟩
    obtain ⟨g1,g2⟩:=h.freeze fs
    have hno:look (Qe hp fs++hp) name=none:=by
     rcases W3 hp fs name with hl | ⟨_,_,_,hl,_⟩ | ⟨_,_,_,hl,_⟩
     ·rw [hl];exact hname
     ·rw [hname] at hl;cases hl
     ·rw [hname] at hl;cases hl
    obtain ⟨k1,k2⟩:=g1.name0 (sz:=z) (a:=sa) hno
    exact ⟨_,k1,g2.trans k2,.own name 0 _ _ (Qd _ _ _) (jLj _) rfl fun _=>(QG _ _ _).symm⟩
   ·refine JK h hu ht2 hs hbt hz hzs hsv (.inr rfl) (fun k0 hk0=>?_) hadd hasz hds hxv hroom
    rcases W3 hp fs name with hl | ⟨_,_,_,hl,_⟩ | ⟨_,_,_,hl,_⟩
    ·rw [hl,hname] at hk0;cases hk0
    ·rw [hname] at hl;cases hl
    ·rw [hname] at hl;cases hl
  split at hr
  case h_2=>cases hr
  rename_i ob o' how
  split at hr
  ·rename_i ob2 o2 hnil
   split at hr
   case h_3=>cases hr
   case h_1 =>
    simp only [jIj] at hr;subst hr
    obtain ⟨bt,hbt,hroom⟩:=Yc (Wo how fun q hq=>ho q (List.mem_append_right _ hq))
    have hnil:=EB hnil fun q hq=>ho q (List.mem_append_left _ hq)
    exact yY h hu ht2 hs hbt hz hzs hsv e2 hadd hasz hnil hxv hroom
   rename_i hname
   simp only [jIj] at hr;subst hr
   obtain ⟨bt,hbt,hroom⟩:=Yc (Wo how fun q hq=>ho q (List.mem_append_right _ hq))
   have hnil:=EB hnil fun q hq=>ho q (List.mem_append_left _ hq)
   refine JK h hu ht2 hs hbt hz hzs hsv e2 (fun k0 hk0=>?_) hadd hasz hnil hxv hroom
   rcases W3 hp fs name with hl | ⟨_,_,_,hl,_⟩ | ⟨_,_,_,hl,_⟩
   ·rw [hl,hname] at hk0;cases hk0
   ·rw [hname] at hl;cases hl
   ·rw [hname] at hl;cases hl
  ·rename_i ob2 o2 hnil
   simp only [jIj] at hr;subst hr
   obtain ⟨bt,hbt,hroom⟩:=Yc (Wo how fun q hq=>ho q (List.mem_append_right _ hq))
   have hds:=QbF hnil fun q hq=>ho q (List.mem_append_left _ hq)
   subst hds
   obtain ⟨xa,xc,news,rfl,hnl,hn2,n3,hn4,hn5⟩:=Ui h hadd hasz hxv
   obtain ⟨sa,sc,rfl,hsc,hfull,olds,o1,o2,o3,o4,o5⟩:=YY hsv
   have hsc:=hfull rfl
   subst hsc
   have ho2:∀ w' : World,w'.heap=w.heap→(Builtin.firstCells z es.length (.slice sa es.length es.length)).run cx.P w'=.ok olds.toArray w':=by
    intro w' hw'
    rcases e2 with e | e
    ·rw [← e];exact o2 _ _ hw'
    ·have:=o2 cx.P w' hw'
     subst e
     cases sa with
     | none=>simpa [Builtin.firstCells] using this
     | some a=>simpa [Builtin.firstCells,loadCells,loadCellsFrom] using this
   obtain ⟨a1,_⟩:=UH (cx:=cx) (w:=w) (ats:=ats) (ty:=ty) hu ht2 hs hbt hz (a:=sa) (cap:=es.length) (xa:=xa) (xc:=xc) (jLj _) ho2 hn2 hroom
   have hn0:news=[]:=by simpa using hnl
   subst hn0
   refine ⟨.slice sa es.length es.length,w,by rw [a1 (by simp)];cases sa <;> rfl,?_⟩
   refine OpOK.frz h fs (.d _ _ ?_)
   have hsv2:=(h.freeze fs).2.dr hsv
   cases hsv2 with
   | lst _ _ _ _ _ blk off ys hf hcp ha hs' hw hd =>
    rcases e2 with e | e
    ·subst e
     exact .lst true _ es sa es.length blk off ys (fun _=>rfl) (jLj _) ha hs' hw hd
    ·subst e
     exact .lst true z [] sa 0 blk off ys (fun _=>rfl) (jLj _) ha (by simp) (by simp) (by simp)
  ·cases hr
 ·cases hr
end
end Go.SX
