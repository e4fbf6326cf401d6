/- The operations, one by one: what the abstract step says, the model's run does. -/
import Derived.Test.YtljabneifpkbjaaGreatDoorSxFive
namespace Go.SX
theorem ZZ {a b:Nat} (h:Nat.beq a b=true):a=b:=Nat.eq_of_beq_eq_true h
theorem YD {w:World} {r:Nat} {c:Array Value} {e:TypeId} {f:Nat×Nat} (h:w.heap[r]?=some (.cells c e f)) (k:Nat):w.cell? ⟨r,k,none⟩=c[k]?:=by
 simp [World.cell?,h]
section
variable {cx:Cx} {F:Nat→Prop} {hp:List (Nat×Blk)} {ρ:Nat→Value} {w:World} {re:Operand→Value} {ev:Operand→AV} {sym:Bool} {orc:List Orc} {r:R}
theorem wK (h:HSim cx F hp ρ w) {t:TypeId} {x:Value} {b ver sz i off s:Nat} {g:Bool} (hx:VR w (MM F hp ρ) hp ρ (.ptr b ver sz i off) x)
  (hs:cx.sz t=some s) (hg:cx.isAgg t=some g) {y z:AV} {ob:List Prop} {o' : List Orc} (hl:UP sym orc hp b ver sz i=some (y,ob,o')) (ho:∀ p,p∈ob→p) (hz:Kg g s off y=some z) :
  ∃ v,(Instr.loadAt t x).run cx.P w=.ok v w∧VR w (MM F hp ρ) hp ρ z v:=by
 cases hx with
 | ptr _ _ _ _ _ k _ hb hv hone hh =>
  rw [UP,hb] at hl
  have hB:=h.blk b k hb
  cases k with
  | box u =>
   simp only at hl
   split at hl <;> simp only [jIj,reduceCtorEq,jPj] at hl
   rename_i hi
   obtain ⟨rfl,rfl,rfl⟩:=hl
   obtain ⟨r',hr',rfl⟩:=hh (by simp only [Blk.ver] at hv ⊢;omega)
   obtain ⟨r,e,vb,cs,h1,h2,h3,h4⟩:=hB
   rw [h1] at hr';simp only [Q9,jIj] at hr';subst hr'
   have hi0:=ZZ hi;subst hi0
   simp only [Nat.zero_mul,Nat.zero_add]
   obtain ⟨v,hv1,hv2⟩:=yG (b:=r) (o:=0) (off:=off) hs hg h3 (fun j a hj=>by
    obtain ⟨y,hy1,hy2⟩:=(VM h3 h4).2.2 j a hj
    exact ⟨y,by rw [YD h2,Nat.zero_add];exact hy1,hy2⟩) hz
   refine ⟨v,?_,hv2⟩
   simp only [Instr.loadAt,Instr.sureAddr,Sem.run_bind,Sem.run_pure,Result.andThen_ok]
   rw [Nat.zero_add] at hv1;exact hv1
  | row ver' sz' es =>
   simp only at hl
   split at hl
   ·cases hl
   rename_i hc
   simp only [jAj] at hc
   have e1:=ZZ hc.1
   have e2:=ZZ hc.2
   subst e1;subst e2
   obtain ⟨r',hr',rfl⟩:=hh rfl
   rcases hB with ⟨_,a0,h2⟩ | ⟨r,c,e,cap,h1,⟨h2,hcap⟩,h3,h4,h5,h6⟩
   ·rw [h2,Wk] at hr';cases hr'
   rw [h1,Zl hcap] at hr';simp only [jIj] at hr';subst hr'
   have key:∀ d,es[i]?=some d→y=.d d→∃ v,(Instr.loadAt t (.pointer (some ⟨r,i * sz+off,none⟩))).run cx.P w=.ok v w∧VR w (MM F hp ρ) hp ρ z v:=by
    rintro d hd rfl
    cases hcs:AV.cells (.d d) with
    | none=>rw [Kg,hcs] at hz;cases hz
    | some cs =>
     have:=UN hcs
     obtain ⟨v,hv1,hv2⟩:=yG (b:=r) (o:=i * sz) (off:=off) hs hg hcs (fun j a hj=>by
      subst this
      simp only [List.getElem?_map] at hj
      cases hdj:d.cells[j]? with
      | none=>rw [hdj] at hj;cases hj
      | some q =>
       rw [hdj] at hj;simp only [Option.map_some,jIj] at hj;subst hj
       obtain ⟨y,hy1,_,hy2⟩:=h6 i d j q hd hdj
       exact ⟨y,by rw [YD h4];exact hy1,.d _ _ hy2⟩) hz
     refine ⟨v,?_,hv2⟩
     simp only [Instr.loadAt,Instr.sureAddr,Sem.run_bind,Sem.run_pure,Result.andThen_ok]
     exact hv1
   split at hl
   ·simp only [jIj,jPj] at hl
    obtain ⟨rfl,rfl,rfl⟩:=hl
    have:=ho _ (jMj)
    rw [ZR] at this
    exact key _ this rfl
   ·split at hl
    ·rename_i q hq
     simp only [jIj,jPj] at hl
     obtain ⟨rfl,rfl,rfl⟩:=hl
     rw [ZR] at hq
     exact key _ hq rfl
    ·cases hl
   ·cases hl
  | frozen _ _ _=>simp at hl
  | virt _ _ _=>simp at hl
  | loop _ _ _ _ _ _=>simp at hl
  | mp _=>simp at hl
  | it _ _=>simp at hl
  | fbox _=>simp at hl
  | left _=>simp at hl
  | dead=>simp at hl
theorem uZ {t:TypeId} {x:Value} {q:D} {off s:Nat} {g:Bool} (hx:VR w (MM F hp ρ) hp ρ (.dptr q off) x)
  (hs:cx.sz t=some s) (hg:cx.isAgg t=some g) {z:AV} (hz:Kg g s off (.d q)=some z) :
  ∃ v,(Instr.loadAt t x).run cx.P w=.ok v w∧VR w (MM F hp ρ) hp ρ z v:=by
 cases hx with
 | dptr _ _ blk o hd =>
  cases hcs:AV.cells (.d q) with
  | none=>rw [Kg,hcs] at hz;cases hz
  | some cs =>
   have:=UN hcs
   obtain ⟨v,hv1,hv2⟩:=yG (M:=MM F hp ρ) (hp:=hp) (ρ:=ρ) (b:=blk) (o:=o) (off:=off) hs hg hcs (fun j a hj=>by
    subst this
    simp only [List.getElem?_map] at hj
    cases hdj:q.cells[j]? with
    | none=>rw [hdj] at hj;cases hj
    | some u =>
     rw [hdj] at hj;simp only [Option.map_some,jIj] at hj;subst hj
     obtain ⟨y,hy1,hy2⟩:=hd.2.2 j u hdj
     exact ⟨y,hy1,.d _ _ hy2⟩) hz
   refine ⟨v,?_,hv2⟩
   simp only [Instr.loadAt,Instr.sureAddr,Sem.run_bind,Sem.run_pure,Result.andThen_ok]
   exact hv1
theorem GH (h:HSim cx F hp ρ w) {name:Nat} (hn:look hp name=none) {x:AV} {v:Value} {cs:List AV} (hx:x.cells=some cs) (hv:VR w (MM F hp ρ) hp ρ x v) (elem:TypeId) :
  OpOK cx F hp ρ w [(name,.box x)] (.ptr name 0 0 0 0) (.pointer (some ⟨w.heap.size,0,none⟩)) (w.alloc (.cells v.cells elem)):=by
 obtain ⟨g1,g2⟩:=h.fresh (b:=name) (k:=.box x) (v:=.pointer (some ⟨w.heap.size,0,none⟩)) v.cells elem (fun r hr=>(Option.some.inj hr).symm) (fun k0 hk0=>by rw [hn] at hk0;cases hk0)
  (fun hst=>⟨w.heap.size,elem,v,cs,QG _ _ _,WJ _ _,hx,hst.vr hv⟩)
 exact ⟨_,g1,g2,.ptr name 0 0 0 0 (.box x) _ (Qd _ _ _) (jLj _) rfl fun _=>⟨w.heap.size,by rw [QG];rfl,rfl⟩⟩
theorem qH (c:Array Value) (vs:List Value) (h:vs.length=c.size):Uz c 0 vs=vs.toArray:=by
 apply Array.ext_getElem?
 intro k
 rw [Vz _ _ _ (by omega)]
 by_cases hk:0≤k∧k < 0+vs.length
 ·rw [jTj hk];simp
 ·rw [jFj hk]
  have:c.size≤k:=by omega
  rw [Array.getElem?_eq_none this];simp;omega
theorem jZ {M:Nat→Prop} {x y z:AV} {off:Nat} {v u:Value} (hz:wr x off y=some z) (hx:VR w M hp ρ x v) (hy:VR w M hp ρ y u) :
  ∃ v',VR w M hp ρ z v'∧v'.cells=Uz v.cells off u.cells.toList∧off+u.cells.size≤v.cells.size∧∀ q,q∈u.cells.toList→q.oneCell'=true:=by
 unfold wr at hz
 split at hz
 case h_2=>cases hz
 rename_i cs ys hcs hys
 obtain ⟨c1,c2,c3⟩:=VM hcs hx
 obtain ⟨y1,y2,y3⟩:=VM hys hy
 have hlen:u.cells.toList.length=ys.length:=by rw [Array.length_toList];exact y1
 have hone:∀ q,q∈u.cells.toList→q.oneCell'=true:=by
  intro q hq
  obtain ⟨j,hj,rfl⟩:=List.mem_iff_getElem.1 hq
  have hj' : j < ys.length:=by omega
  obtain ⟨p,hp1,hp2⟩:=y3 j ys[j] (by simp [hj'])
  have:=(Ym (UY (VF y2 (j:=j) (a:=ys[j]) (by simp [hj'])) hp2)).2
  have he:u.cells.toList[j]=p:=by
   rw [Array.getElem_toList]
   rw [Array.getElem?_eq_some_iff] at hp1
   exact hp1.2
  rw [he];exact this
 split at hz
 ·rename_i hag
  split at hz
  case h_2=>cases hz
  rename_i hle
  have hle' : off+ys.length≤cs.length:=Nat.le_of_ble_eq_true hle
  split at hz
  ·rename_i hb
   simp only [jIj] at hz;subst hz
   simp only [jAj] at hb
   have h1:=ZZ hb.1.1
   have h2:=ZZ hb.1.2
   subst h1
   refine ⟨u,hy,?_,by omega,hone⟩
   rw [qH _ _ (by omega)]
  ·simp only [jIj] at hz;subst hz
   refine ⟨.agg (Uz v.cells off u.cells.toList),Yn ?_,rfl,by omega,hone⟩
   have:=VR.agg (w:=w) (M:=M) (hp:=hp) (ρ:=ρ) (cs.take off++ys++cs.drop (off+ys.length)) (Uz v.cells off u.cells.toList).toList
    (by simp only [List.length_append,List.length_take,List.length_drop,Array.length_toList,Yk];omega)
    (fun i c q hi hq=>by
     rw [Array.getElem?_toList,Vz _ _ _ (by omega)] at hq
     by_cases hr:off≤i∧i < off+u.cells.toList.length
     ·rw [jTj hr] at hq
      rw [List.getElem?_append_left (by simp;omega),List.getElem?_append_right (by simp;omega)] at hi
      have:i - (cs.take off).length=i - off:=by simp;omega
      rw [this] at hi
      obtain ⟨p,hp1,hp2⟩:=y3 _ _ hi
      rw [Array.getElem?_toList] at hq
      rw [hq] at hp1;cases hp1;exact hp2
     ·rw [jFj hr] at hq
      by_cases hi2:i < off
      ·rw [List.append_assoc,List.getElem?_append_left (by simp;omega),List.getElem?_take,jTj hi2] at hi
       obtain ⟨p,hp1,hp2⟩:=c3 _ _ hi
       rw [hq] at hp1;cases hp1;exact hp2
      ·rw [List.getElem?_append_right (by simp;omega),List.getElem?_drop] at hi
       have:off+ys.length+(i - (cs.take off++ys).length)=i:=by simp;omega
       rw [this] at hi
       obtain ⟨p,hp1,hp2⟩:=c3 _ _ hi
       rw [hq] at hp1;cases hp1;exact hp2)
   simpa using this
 ·rename_i hag
  split at hz
  case h_2=>cases hz
  rename_i c hoff
  have h1:=ZZ hoff
  subst h1
  simp only [jIj] at hz;subst hz
  obtain ⟨p,hp1,hp2⟩:=y3 0 c rfl
  have h1p:=UY (VF y2 (j:=0) (a:=c) rfl) hp2
  have hu1:u.cells=#[p]:=by
   apply Array.ext_getElem?
   intro k
   cases k with
   | zero=>simpa using hp1
   | succ k=>rw [Array.getElem?_eq_none (by rw [y1];simp)];simp
  have hcl:cs.length=1:=by
   unfold AV.cells at hcs
   split at hcs
   ·cases hag
   ·cases hag
   ·split at hcs <;> simp only [jIj,reduceCtorEq] at hcs
    subst hcs;rfl
  refine ⟨p,hp2,?_,by rw [hu1,c1,hcl];simp,hone⟩
  rw [hu1,(Ym h1p).1,qH _ _ (by simp;omega)]
theorem Gy {t:TypeId} {s:Nat} (hs:cx.sz t=some s) {r off:Nat} {c:Array Value} {e:TypeId} {u:Value} (hu:u.cells.size=s) (hc:w.heap[r]?=some (.cells c e (0,0)))
  (hl:off+u.cells.size≤c.size) (ho:∀ q,q∈u.cells.toList→q.oneCell'=true) :
  ∃ w',(Instr.storeAt t (.pointer (some ⟨r,off,none⟩)) u).run cx.P w=.ok () w'∧w'.heap[r]?=some (.cells (Uz c off u.cells.toList) e (0,0))∧Ext w (fun n=>n=r) w':=by
 obtain ⟨w',h1,h2,h3⟩:=Y5 cx.P r off u.cells.toList 0 w c e hc (by simpa using hl) ho
 refine ⟨w',?_,by simpa using h2,h3⟩
 simp only [Instr.storeAt,Instr.sureAddr,Sem.run_bind,Sem.run_pure,Result.andThen_ok,storeVar,Zc hs,hu,ne_eq,not_true_eq_false,if_false]
 exact h1
theorem Xe (h:HSim cx F hp ρ w) {fs:List Nat} {b ver sz i:Nat} {es:jVj} (hb:look hp b=some (.row ver sz es)) (hfs:fs.contains b=false) {r:Nat} {c c' : Array Value} {e:TypeId}
  (hroot:Q9 (ρ b)=some r) (hc:w.heap[r]?=some (.cells c e (0,0))) {w' : World} (hc' : w'.heap[r]?=some (.cells c' e (0,0))) (hx:Ext w (fun n=>n=r) w') (hsz:c'.size=c.size)
  (hout:∀ k,(k < i * sz ∨ i * sz+sz≤k)→c'[k]?=c[k]?) {zd:D} {zs:List AV} {u:Value} (hzs:AV.cells (.d zd)=some zs) (hzl:zs.length=sz)
  (hin:∀ j,j < sz→c'[i * sz+j]?=u.cells[j]?) (hu:DR w (MM F (Qe hp fs++hp) ρ) zd u) :
  OpOK cx F hp ρ w ((b,.row ver sz (es.set i zd))::Qe hp fs) (.d (.v undef)) undef w':=by
 obtain ⟨g1,g2⟩:=h.freeze fs
 have hb1:look (Qe hp fs++hp) b=some (.row ver sz es):=by
  rcases W3 hp fs b with h1 | ⟨v1,s1,e1,h1,h2⟩ | ⟨_,_,_,h0,_⟩
  case inr.inr=>rw [hb] at h0;cases h0
  ·rw [h1];exact hb
  ·exfalso
   have hmem:b∈fs:=by
    rw [hb] at h1;cases h1
    have:∀ l:List Nat,look (Qe hp l++hp) b=some (.frozen ver sz es)→b∈l:=by
     intro l
     induction l with
     | nil=>intro hh;rw [show Qe hp []++hp=hp from rfl,hb] at hh;cases hh
     | cons q l ih =>
      intro hh
      simp only [Qe] at hh
      by_cases hq:q=b
      ·simp [hq]
      ·split at hh
       ·rw [List.cons_append,Qc _ _ hq] at hh;exact List.mem_cons_of_mem _ (ih hh)
       ·split at hh
        ·rw [List.cons_append,Qc _ _ hq] at hh;exact List.mem_cons_of_mem _ (ih hh)
        ·exact List.mem_cons_of_mem _ (ih hh)
       ·exact List.mem_cons_of_mem _ (ih hh)
    exact this fs h2
   have:fs.contains b=true:=by simpa using hmem
   rw [this] at hfs;cases hfs
 obtain ⟨k1,k2⟩:=g1.write (b:=b) (k:=.row ver sz (es.set i zd)) (v:=ρ b) hb1 rfl hroot hroot (.inr ⟨rfl,rfl⟩) hx (fun hst=>by
  rcases g1.blk b _ hb1 with ⟨_,a0,q2⟩ | ⟨r0,c0,e0,cap,q1,⟨q2,hcap⟩,q3,q4,q5,q6⟩
  ·rw [q2,Wk] at hroot;cases hroot
  rw [q1,Zl hcap] at hroot;simp only [jIj] at hroot;subst hroot
  rw [hc] at q4;cases q4
  refine .inr ⟨r0,c',e,cap,by rw [QG,q1,List.length_set],⟨by rw [List.length_set];exact q2,hcap⟩,by rw [hsz];exact q3,hc',fun i' d hd=>?_,fun i' d j a hd ha=>?_⟩
  ·rw [List.getElem?_set] at hd
   split at hd
   ·split at hd <;> simp only [jIj,reduceCtorEq] at hd
    subst hd
    have:=UN hzs;subst this;simpa using hzl
   ·exact q5 i' d hd
  ·rw [List.getElem?_set] at hd
   split at hd
   ·rename_i hii;subst hii
    split at hd <;> simp only [jIj,reduceCtorEq] at hd
    subst hd
    have hcd:=UN hzs
    have hjl:j < sz:=by
     have:=(jGj ha).1
     subst hcd;simp at hzl;omega
    have hcv:=VM (w:=w) (M:=MM F (Qe hp fs++hp) ρ) (hp:=hp) (ρ:=ρ) hzs (.d _ _ hu)
    have hja:zs[j]?=some (.d a):=by subst hcd;simp [ha]
    obtain ⟨y,hy1,hy2⟩:=hcv.2.2 j (.d a) hja
    have hone:=UY (VF hcv.2.1 hja) hy2
    cases hy2
    rename_i hy2
    exact ⟨y,by rw [hin j hjl];exact hy1,hone,hst.dr hy2⟩
   ·rename_i hii
    obtain ⟨y,hy1,hyo,hy2⟩:=q6 i' d j a hd ha
    have hjl:j < sz:=by
     have:=(jGj ha).1
     have:=q5 i' d hd;omega
    refine ⟨y,?_,hyo,hst.dr hy2⟩
    rw [hout];exact hy1
    rcases Nat.lt_or_gt_of_ne hii with hlt | hgt
    ·right
     calc i * sz+sz=(i+1) * sz:=by rw [Nat.add_mul,Nat.one_mul]
      _≤i' * sz:=Nat.mul_le_mul_right _ hlt
      _≤i' * sz+j:=Nat.le_add_right _ _
    ·left
     have:(i'+1) * sz≤i * sz:=Nat.mul_le_mul_right _ hgt
     rw [Nat.add_mul,Nat.one_mul] at this;omega)
 exact ⟨_,k1,g2.trans k2,JW _ _ _ _ undef⟩
theorem um (h:HSim cx F hp ρ w) {t:TypeId} {p y:AV} {x u:Value} (hp' : VR w (MM F hp ρ) hp ρ p x) (hy:VR w (MM F hp ρ) hp ρ y u) (hr:qY cx sym orc hp t p y=some r) (ho:∀ p,p∈r.ob→p) :
  ∃ w',(Instr.storeAt t x u).run cx.P w=.ok () w'∧OpOK cx F hp ρ w r.up r.val undef w':=by
 unfold qY at hr
 split at hr
 case h_2=>cases hr
 rename_i b pv sz i off ys s hys hs
 obtain ⟨y1,y2,y3⟩:=VM hys hy
 cases hp' with
 | ptr _ _ _ _ _ k _ hb hv hptr hh =>
 split at hr
 ·-- a box
  rename_i hsl hbx
  have hys':=ZZ hsl
  rw [hb] at hbx;cases hbx
  split at hr
  case h_2=>cases hr
  rename_i z hz hi0
  have hi0:=ZZ hi0;subst hi0
  split at hr
  case h_2=>cases hr
  rename_i zs hzs
  simp only [jIj] at hr;subst hr
  obtain ⟨r',hr',rfl⟩:=hh (by simp only [Blk.ver] at hv ⊢;omega)
  obtain ⟨r,e,vb,cs,h1,h2,h3,h4⟩:=h.blk b _ hb
  rw [h1] at hr';simp only [Q9,jIj] at hr';subst hr'
  obtain ⟨v',a1,a2,a3,a4⟩:=jZ hz h4 hy
  obtain ⟨w',s1,s2,s3⟩:=Gy (cx:=cx) (t:=t) hs (r:=r) (off:=0 * sz+off) (u:=u) (by omega) h2 (by simpa using a3) a4
  refine ⟨w',s1,?_⟩
  obtain ⟨k1,k2⟩:=h.write (b:=b) (k:=.box z) (v:=ρ b) hb rfl (r:=r) (by rw [h1];rfl) (by rw [h1];rfl) (.inr ⟨rfl,rfl⟩) s3 (fun hst=>by
   refine ⟨r,e,v',zs,by rw [QG,h1],?_,hzs,hst.vr a1⟩
   rw [s2,a2];simp)
  exact ⟨_,k1,k2,JW _ _ _ _ undef⟩
 ·-- a row
  rename_i ver sz' es hsl hbx
  have hys':=ZZ hsl
  rw [hb] at hbx;cases hbx
  split at hr
  case h_2=>cases hr
  rename_i yd fs hc hyd
  simp only [jAj] at hc
  have e1:=ZZ hc.1
  have e2:=ZZ hc.2
  subst e1;subst e2
  split at hr
  ·cases hr
  rename_i hcont
  obtain ⟨r',hr',rfl⟩:=hh rfl
  have hB:=h.blk b _ hb
  rcases hB with ⟨_,a0,h2⟩ | ⟨r0,c,e,cap,h1,⟨h2,hcap⟩,h3,h4,h5,h6⟩
  ·rw [h2,Wk] at hr';cases hr'
  rw [h1,Zl hcap] at hr';simp only [jIj] at hr';subst hr'
  have hydr:=Wu h fs y u yd fs hyd (fun _ h=>h) hy
  have hbound:∀ {i:Nat},i < es.length→i * sz+sz≤c.size:=by
   intro i hi
   calc i * sz+sz=(i+1) * sz:=by rw [Nat.add_mul,Nat.one_mul]
    _≤cap * sz:=Nat.mul_le_mul_right _ (by omega)
    _≤c.size:=h3
  have hone:∀ q,q∈u.cells.toList→q.oneCell'=true:=by
   intro q hq
   obtain ⟨j,hj,rfl⟩:=List.mem_iff_getElem.1 hq
   have hj' : j < ys.length:=by simp at hj;omega
   obtain ⟨p,hp1,hp2⟩:=y3 j ys[j] (by simp [hj'])
   have:=(Ym (UY (VF y2 (j:=j) (a:=ys[j]) (by simp [hj'])) hp2)).2
   have he:u.cells.toList[j]=p:=by
    rw [Array.getElem_toList]
    rw [Array.getElem?_eq_some_iff] at hp1
    exact hp1.2
   rw [he];exact this
  have part:∀ {e' zd:D},es[i]?=some e'→XI sz e' off yd=some zd →
    ∃ w',(Instr.storeAt t (.pointer (some ⟨r0,i * sz+off,none⟩)) u).run cx.P w=.ok () w'∧OpOK cx F hp ρ w ((b,.row pv sz (es.set i zd))::Qe hp fs) (.d (.v undef)) undef w':=by
   intro e' zd he hz
   unfold XI at hz
   split at hz
   case h_2=>cases hz
   rename_i z hzz
   split at hz
   case h_2=>cases hz
   rename_i zd' hzd
   split at hz
   case h_2=>cases hz
   rename_i zs hzs
   split at hz
   case h_2=>cases hz
   rename_i hzl
   simp only [jIj] at hz;subst hz
   have hzl:=ZZ hzl
   have hi:i < es.length:=(jGj he).1
   have hbd:=hbound hi
   have hel:=h5 i e' he
   -- the element as a value
   have hcs' : ∃ cs',AV.cells (.d e')=some cs':=by
    unfold wr at hzz
    split at hzz
    ·rename_i cs' _ h1 _;exact ⟨cs',h1⟩
    ·cases hzz
   obtain ⟨cs',hcs'⟩:=hcs'
   have hcd:=UN hcs'
   have hev:∃ ve,DR w (MM F (Qe hp fs++hp) ρ) e' ve∧ve.cells=c.extract (i * sz) (i * sz+sz):=by
    have hst:=(h.freeze fs).2
    cases e' with
    | agg l =>
     refine ⟨.agg (c.extract (i * sz) (i * sz+sz)).toList.toArray,.agg _ _ ?_ ?_,Array.toArray_toList⟩
     ·simp only [D.cells] at hel;simp;omega
     ·intro j a q ha hq
      obtain ⟨y,b1,_,b2⟩:=h6 i _ j a he ha
      have hjl:j < sz:=by have:=(jGj ha).1;simp only [D.cells] at hel;omega
      rw [Array.getElem?_toList,Array.getElem?_extract] at hq
      rw [jTj (by omega)] at hq
      rw [b1] at hq;cases hq;exact hst.dr b2
    | _ =>
     all_goals
      simp only [D.cells,List.length_cons,List.length_nil,Nat.zero_add] at hel
      obtain ⟨y,b1,_,b2⟩:=h6 i _ 0 _ he rfl
      refine ⟨y,hst.dr b2,?_⟩
      have ho1:one y=true:=by
       have hall:=(VM (w:=w) (M:=MM F hp ρ) (hp:=hp) (ρ:=ρ) hcs' (.d _ _ b2)).2.1
       subst hcd
       simp only [D.cells,jCj,List.map_nil,W5,Bool.and_true] at hall
       exact UY (w:=w) (M:=MM F hp ρ) (hp:=hp) (ρ:=ρ) hall (.d _ _ b2)
      rw [(Ym ho1).1]
      apply Array.ext_getElem?
      intro j
      rw [Array.getElem?_extract]
      cases j with
      | zero=>rw [jTj (by omega)];simpa using b1.symm
      | succ j=>rw [jFj (by omega)];simp
   obtain ⟨ve,v1,v2⟩:=hev
   obtain ⟨v',a1,a2,a3,a4⟩:=jZ (hp:=hp) (ρ:=ρ) (w:=w) (M:=MM F (Qe hp fs++hp) ρ) hzz (.d _ _ v1) (.d _ _ hydr)
   have hve:ve.cells.size=sz:=by rw [v2];simp;omega
   obtain ⟨w',s1,s2,s3⟩:=Gy (cx:=cx) (t:=t) hs (r:=r0) (off:=i * sz+off) (u:=u) (by omega) h4 (by omega) hone
   refine ⟨w',s1,?_⟩
   have hlu:u.cells.toList.length=u.cells.size:=by simp
   refine Xe (u:=v') h hb (by simpa using hcont) (by rw [h1];exact Zl hcap) h4 s2 s3 (Yk _ _ _) (fun k hk=>?_) hzs hzl (fun j hj=>?_) (Uy w _ hp ρ z v' _ hzd a1)
   ·rw [Vz _ _ _ (by omega),jFj (by omega)]
   ·rw [Vz _ _ _ (by omega),a2,Vz _ _ _ (by omega)]
    by_cases hj2:off≤j∧j < off+u.cells.toList.length
    ·rw [jTj (by omega),jTj hj2]
     congr 1;omega
    ·rw [jFj (by omega),jFj hj2,v2,Array.getElem?_extract,jTj (by omega)]
  split at hr
  ·-- the whole element
   rename_i hw
   simp only [jAj] at hw
   have o1:=ZZ hw.1
   have o2:=ZZ hw.2
   subst o1
   split at hr
   case h_2=>cases hr
   rename_i ob o' zs how hzs
   split at hr
   case h_2=>cases hr
   rename_i hzl
   have hzl:=ZZ hzl
   simp only [jIj] at hr;subst hr
   have hi:i < es.length:=by
    unfold owe at how
    split at how
    ·simp only [jIj,jPj] at how;obtain ⟨rfl,rfl⟩:=how
     exact ho _ jMj
    ·split at how
     ·rename_i hd;exact of_decide_eq_true hd
     ·cases how
    ·cases how
   have hbd:=hbound hi
   have hlu:u.cells.toList.length=u.cells.size:=by simp
   obtain ⟨w',s1,s2,s3⟩:=Gy (cx:=cx) (t:=t) hs (r:=r0) (off:=i * sz+0) (u:=u) (by omega) h4 (by omega) hone
   refine ⟨w',s1,?_⟩
   refine Xe (u:=u) h hb (by simpa using hcont) (by rw [h1];exact Zl hcap) h4 s2 s3 (Yk _ _ _) (fun k hk=>?_) hzs hzl (fun j hj=>?_) hydr
   ·rw [Vz _ _ _ (by omega),jFj (by omega)]
   ·rw [Vz _ _ _ (by omega),jTj (by omega),Array.getElem?_toList]
    congr 1;omega
  ·split at hr
   ·rename_i e' o' _
    split at hr
    case h_2=>cases hr
    rename_i zd hzd
    simp only [jIj] at hr;subst hr
    have:=ho _ jMj
    rw [ZR] at this
    exact part this hzd
   ·split at hr
    case h_2=>cases hr
    rename_i e' he
    split at hr
    case h_2=>cases hr
    rename_i zd hzd
    simp only [jIj] at hr;subst hr
    rw [ZR] at he
    exact part he hzd
   ·cases hr
 ·cases hr
end
end Go.SX
