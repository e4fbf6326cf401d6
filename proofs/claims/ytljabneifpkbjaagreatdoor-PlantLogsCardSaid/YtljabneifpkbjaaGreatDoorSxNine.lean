/- copy, make, slices, indexes, fields; all operations together. -/
import Derived.Test.YtljabneifpkbjaaGreatDoorSxEight
import Derived.MapKept
set_option linter.unnecessarySimpa false
namespace Go.SX
section
variable {cx:Cx} {F:Nat→Prop} {hp:List (Nat×Blk)} {ρ:Nat→Value} {w:World} {re:Operand→Value} {ev:Operand→AV} {sym:Bool} {orc:List Orc} {r:R}
theorem zR (h:HSim cx F hp ρ w) {name:Nat} {t elem:TypeId} {n m:Int} {kn km:IntKind} {s b:Nat} {z:Value} (hu:cx.P.underlying t=some (.slice elem)) (hs:cx.sz elem=some s) (hz:cx.zero elem=some z) (hb:cx.bytes elem=some b)
  (hname:look hp name=none) (hok:Ej cx elem s=true) (hc:0≤n∧n≤m∧b * m≤281474976710656∧m≤9223372036854775807) :
  ∃ v w',(Instr.makeSlice t (.int kn n) (.int km m)).run cx.P w=.ok v w'∧OpOK cx F hp ρ w [(name,.row 0 s (List.replicate n.toNat (ofV z)))] (.own name 0) v w':=by
 have hi:∃ i,cx.P.info? elem=some i∧i.bytes=b∧i.size=s∧i.zero=some z:=by
  unfold Cx.bytes at hb
  unfold Cx.sz at hs
  unfold Cx.zero at hz
  split at hb
  ·rename_i i hi;rw [hi] at hs hz;exact ⟨i,hi,by simpa using hb,by simpa using hs,hz⟩
  ·cases hb
 obtain ⟨i,hi,rfl,rfl,hz'⟩:=hi
 obtain ⟨z',hz2,hzs,hzo⟩:=XF hok
 rw [hz] at hz2;cases hz2
 refine ⟨_,_,run_make w t elem i z hu hi hz' kn km n m hc.1 hc.2.1 hc.2.2.1 hc.2.2.2,?_⟩
 have hcell:∀ (j:Nat) (a:D),(ofV z).cells[j]?=some a→∃ y,z.cells[j]?=some y∧one y=true∧∀ M,DR w M a y:=by
  intro j a hj
  have hlen:=Jy z
  have hjl:j < z.cells.size:=by
   have:=(jGj hj).1;simpa using (hlen ▸ (by simpa using this):j < z.cells.size)
  refine ⟨z.cells[j],by simp [hjl],hzo _ (by simp),fun M=>?_⟩
  have:=KO (hp:=[]) (ρ:=fun _=>undef) (F:=M) (w:=w) z j (.d a) z.cells[j] (by simp [hj]) (by simp [hjl])
  cases this
  rename_i hd
  exact hd.ext (jLj _) (fun _ _ _=>rfl) (fun _ _ hm=>.inl hm)
 have hcl:(ofV z).cells.length=i.size:=by have:=Jy z;simpa [hzs] using this
 obtain ⟨g1,g2⟩:=h.fresh (b:=name) (k:=.row 0 i.size (List.replicate n.toNat (ofV z))) (v:=.slice (some ⟨w.heap.size,0,none⟩) n.toNat m.toNat)
  (madeCells z.cells (m.toNat * i.size)) elem (fun r hr=>by
    by_cases hm0:m.toNat=0
    ·rw [hm0,Wk] at hr;cases hr
    ·rw [Zl (by omega)] at hr;exact (Option.some.inj hr).symm) (fun k0 hk0=>by rw [hname] at hk0;cases hk0) (fun hst=>by
   by_cases hm0:m.toNat=0
   ·have hn0:n.toNat=0:=by omega
    exact .inl ⟨by rw [hn0];rfl,some ⟨w.heap.size,0,none⟩,by rw [QG,hm0,hn0]⟩
   refine .inr ⟨w.heap.size,_,elem,m.toNat,by rw [QG,List.length_replicate],⟨by rw [List.length_replicate];omega,by omega⟩,by rw [size_madeCells];exact jLj _,WJ _ _,fun k d hd=>?_,fun k d j a hd ha=>?_⟩
   ·rw [List.getElem?_replicate] at hd
    split at hd <;> simp only [jIj,reduceCtorEq] at hd
    subst hd;exact hcl
   ·rw [List.getElem?_replicate] at hd
    split at hd <;> simp only [jIj,reduceCtorEq] at hd
    rename_i hk
    subst hd
    obtain ⟨y,y1,y2,y3⟩:=hcell j a ha
    have hjl:j < i.size:=by have:=(jGj ha).1;omega
    refine ⟨y,?_,y2,hst.dr (F:=F) (y3 _)⟩
    have hlt:k * i.size+j < m.toNat * i.size:=EF (by omega) hjl
    have hmod:(k * i.size+j) % z.cells.size=j:=by rw [hzs,Nat.mul_comm,Nat.mul_add_mod];exact Nat.mod_eq_of_lt hjl
    rw [madeCells,Array.getElem?_map,Array.getElem?_range,jTj hlt,Option.map_some,hmod,getElem!_def,y1])
 exact ⟨_,g1,g2,.own name 0 _ _ (Qd _ _ _) (jLj _) rfl fun _=>(QG _ _ _).symm⟩
theorem X6 (zc:Array Value) (n i:Nat) (h:i < n * zc.size):(Builtin.zeroCells zc n)[i]?=some (zc[i % zc.size]!):=by
 unfold Builtin.zeroCells
 rw [Array.getElem?_map]
 have:(Array.range (n * zc.size))[i]?=some i:=by simp [h]
 rw [this];rfl
theorem QcA {t t2 elem:TypeId} {k2:IntKind} {sz b:Nat} {z:Value} {ats:List TypeId} {ty:TypeId} (hu:cx.P.underlying t=some (.slice elem)) (hu2:cx.P.underlying t2=some (.int k2)) (hs:cx.sz elem=some sz) (hb:cx.bytes elem=some b)
  (hz:cx.zero elem=some z) (hsz:0 < sz) {a:Option Addr} {m:Int} (hm:0 < m) (hroom:m.toNat * b≤140737488355328∧0 < b) :
  ∃ nc,m.toNat≤nc∧(Builtin.append_ (t::t2::ats).toArray ty #[.slice a 0 0,.int .i64 m]).run cx.P w =
    .ok (.slice (some ⟨w.heap.size,0,none⟩) m.toNat nc) (w.drew.alloc (.cells (Builtin.zeroCells z.cells m.toNat++Builtin.zeroCells z.cells (nc - m.toNat)) elem)):=by
 have hi:∃ i,cx.P.info? elem=some i∧i.bytes=b:=by
  unfold Cx.bytes at hb
  split at hb
  ·rename_i i hi;exact ⟨i,hi,by simpa using hb⟩
  ·cases hb
 obtain ⟨i,hi,hib⟩:=hi
 obtain ⟨n,rfl⟩:∃ n:Nat,m=(n:Int):=⟨m.toNat,by omega⟩
 simp only [Int.toNat_natCast] at hroom ⊢
 have hn:0 < n:=by omega
 have hsmall:n≤140737488355328:=by
  calc n=n * 1:=by omega
   _≤n * b:=Nat.mul_le_mul_left _ hroom.2
   _≤_:=hroom.1
 have hw:IntKind.i64.wrap (n:Int)=(n:Int):=by rw [IntKind.wrap_i64];omega
 have h1:∀ w' : World,(Builtin.firstCells sz 0 (.slice a 0 0)).run cx.P w'=.ok #[] w':=by
  intro w'
  cases a with
  | none=>simp [Builtin.firstCells]
  | some a=>simp [Builtin.firstCells,loadCells,loadCellsFrom]
 have h2:=Zc hs w
 have h3:=Qn hu w
 have h4:=Qn hu2 w
 have h5:=growslice_fits (need:=n) (old:=0) (bytes:=b) (by omega) hroom.1
 have h6:=Kl hi w
 have h6':=Kl hi w.drew
 have h7:=Y4 hz w.drew
 refine ⟨grownCap w n 0 elem,by simpa using grownCap_ge w n 0 elem,?_⟩
 have hbig:¬ (9223372036854775807 < (n:Int)):=by omega
 subst hib
 have h8:¬ (281474976710656 < Builtin.nextslicecap n 0 * i.bytes):=by omega
 have h9:(Question.appendCap n 0 elem).forced=false:=rfl
 have h10:(Question.appendCap n 0 elem).cut (w.tape w.drawn (Question.appendCap n 0 elem))=grownCap w n 0 elem:=rfl
 have h11:¬ (281474976710656 < (n:Int) * (i.bytes:Int)):=by
  have h:=Int.ofNat_le.2 hroom.1
  rw [← Int.natCast_mul]
  omega
 have h12:¬ (n * sz=0):=by
  have:=Nat.mul_pos hn hsz;omega
 have h13:¬ ((n:Int) < 0):=by omega
 have h14:n≠0:=by omega
 have h0:(asInt (.int .i64 (n:Int))).run cx.P w=.ok (n:Int) w:=by simp [asInt,asIntOf]
 simp [Builtin.append_,h2,h3,h4,h0,hw,h13,h6,h11,hbig,h8,h9,h10,h6',h1,h7,h14]
 rw [jFj h12]
 simp [newRow]
theorem QaJ (h:HSim cx F hp ρ w) {name:Nat} {t t2:TypeId} {ats:List TypeId} {ty:TypeId} {s x:AV} {sv u:Value} (hr:Qbr cx sym orc hp name t t2 s x=some r) (ho:∀ q,q∈r.ob→q)
  (hsv:VR w (MM F hp ρ) hp ρ s sv) (hxv:VR w (MM F hp ρ) hp ρ x u) :
  ∃ v w',(Builtin.append_ (t::t2::ats).toArray ty #[sv,u]).run cx.P w=.ok v w'∧OpOK cx F hp ρ w r.up r.val v w':=by
 unfold Qbr at hr
 split at hr
 case h_2=>cases hr
 rename_i elem k2 sz0 es m hu hu2
 split at hr
 case h_2=>cases hr
 rename_i sz z hs hz hnil hname
 split at hr
 case h_2=>cases hr
 rename_i ob o' hc how
 simp only [jIj] at hr;subst hr
 simp only [jAj,Nat.blt_eq] at hc
 obtain ⟨hok,hsz⟩:=hc
 obtain ⟨hm,hrm⟩:=Wo how ho
 obtain ⟨b,hb,hroom⟩:=Yc hrm
 have hes:=UZ hnil
 subst hes
 have hu0:u=.int .i64 m:=by cases hxv with | d _ _ hd=>cases hd;rfl
 subst hu0
 cases hsv with
 | d _ _ hsv =>
 obtain ⟨a,rfl⟩:∃ a,sv=.slice a 0 0:=by
  cases hsv with
  | lst _ _ _ a cap blk off ys hf hcp ha hs' hw hd =>
   have:=hf rfl
   simp only [List.length_nil] at this ⊢
   subst this
   exact ⟨a,rfl⟩
 obtain ⟨z',hz2,hzs,hzo⟩:=XF hok
 rw [hz] at hz2;cases hz2
 obtain ⟨nc,hnc,hrun⟩:=QcA (w:=w) (ats:=ats) (ty:=ty) (a:=a) hu hu2 hs hb hz hsz hm hroom
 refine ⟨_,_,hrun,?_⟩
 have hcell:∀ (j:Nat) (a:D),(ofV z).cells[j]?=some a→∃ y,z.cells[j]?=some y∧one y=true∧∀ M,DR w M a y:=by
  intro j a hj
  have hlen:=Jy z
  have hjl:j < z.cells.size:=by
   have:=(jGj hj).1;simpa using (hlen ▸ (by simpa using this):j < z.cells.size)
  refine ⟨z.cells[j],by simp [hjl],hzo _ (by simp),fun M=>?_⟩
  have:=KO (hp:=[]) (ρ:=fun _=>undef) (F:=M) (w:=w) z j (.d a) z.cells[j] (by simp [hj]) (by simp [hjl])
  cases this
  rename_i hd
  exact hd.ext (jLj _) (fun _ _ _=>rfl) (fun _ _ hm=>.inl hm)
 have hcl:(ofV z).cells.length=sz:=by have:=Jy z;simpa [hzs] using this
 obtain ⟨d1,d2⟩:=h.drew
 have hcsz:(Builtin.zeroCells z.cells m.toNat++Builtin.zeroCells z.cells (nc - m.toNat)).size=nc * sz:=by
  simp only [Array.size_append,size_zeroCells,hzs]
  rw [← Nat.add_mul];congr 1;omega
 obtain ⟨k1,k2⟩:=d1.fresh (b:=name) (k:=.row 0 sz (List.replicate m.toNat (ofV z))) (v:=.slice (some ⟨w.heap.size,0,none⟩) m.toNat nc)
  (Builtin.zeroCells z.cells m.toNat++Builtin.zeroCells z.cells (nc - m.toNat)) elem (fun r hr=>by rw [Zl (by omega)] at hr;exact (Option.some.inj hr).symm) (fun k0 hk0=>by rw [hname] at hk0;cases hk0)
  (fun hst=>by
   refine .inr ⟨w.heap.size,_,elem,nc,by rw [QG,List.length_replicate],⟨by rw [List.length_replicate];exact hnc,by omega⟩,by rw [hcsz];exact jLj _,WJ _ _,fun k d hd=>?_,fun k d j a hd ha=>?_⟩
   ·rw [List.getElem?_replicate] at hd
    split at hd <;> simp only [jIj,reduceCtorEq] at hd
    subst hd;exact hcl
   ·rw [List.getElem?_replicate] at hd
    split at hd <;> simp only [jIj,reduceCtorEq] at hd
    rename_i hk
    subst hd
    obtain ⟨y,y1,y2,y3⟩:=hcell j a ha
    have hjl:j < sz:=by have:=(jGj ha).1;omega
    refine ⟨y,?_,y2,(d2.trans hst).dr (F:=F) (y3 _)⟩
    have hlt:k * sz+j < m.toNat * sz:=EF (by omega) hjl
    have hmod:(k * sz+j) % z.cells.size=j:=by rw [hzs,Nat.mul_comm,Nat.mul_add_mod];exact Nat.mod_eq_of_lt hjl
    rw [Array.getElem?_append_left (by rw [size_zeroCells,hzs];exact hlt),X6 _ _ _ (by rw [hzs];exact hlt),hmod]
    have hjs:j < z.cells.size:=by rw [hzs];exact hjl
    rw [Array.getElem?_eq_getElem hjs] at y1
    simp only [jIj] at y1
    simp [hjs,y1])
 exact ⟨_,k1,d2.trans k2,.own name 0 _ _ (Qd _ _ _) (jLj _) rfl fun _=>(QG _ _ _).symm⟩
theorem QaT (h:HSim cx F hp ρ w) {t:TypeId} {ats:List TypeId} {ty:TypeId} {d s:AV} {dv sv:Value} (hr:kW cx orc hp t d s=some r) (hd:VR w (MM F hp ρ) hp ρ d dv) (hsv:VR w (MM F hp ρ) hp ρ s sv) :
  ∃ v w',(Builtin.copy_ (t::ats).toArray ty #[dv,sv]).run cx.P w=.ok v w'∧OpOK cx F hp ρ w r.up r.val v w':=by
 unfold kW at hr
 split at hr
 case h_2=>cases hr
 rename_i elem b ver asz ds fs hu hadd
 cases hd with
 | own _ _ k _ hb hv hone hh =>
 split at hr
 case h_2=>cases hr
 rename_i ver' sz es z hb' hz
 rw [hb] at hb';cases hb'
 split at hr
 case h_2=>cases hr
 rename_i hc
 simp only [jAj,Bool.not_eq_true'] at hc
 have e1:=ZZ hc.1.1.1
 have e2:=ZZ hc.1.1.2
 have e3:=yv hc.1.2
 have hfs:=hc.2
 subst e1;subst e2
 simp only [jIj] at hr;subst hr
 rw [hh rfl]
 obtain ⟨g1,g2⟩:=h.freeze fs
 have hmem:¬ b∈fs:=by
  intro hm
  have:fs.contains b=true:=by simpa using hm
  rw [this] at hfs;cases hfs
 have hb1:look (Qe hp fs++hp) b=some (.row ver sz es):=by
  have:∀ l:List Nat,¬ b∈l→look (Qe hp l++hp) b=look hp b:=by
   intro l
   induction l with
   | nil=>intro _;rfl
   | cons q l ih =>
    intro hq
    simp only [List.mem_cons,not_or] at hq
    simp only [Qe]
    split
    ·rw [List.cons_append,Qc _ _ (fun e=>hq.1 e.symm)];exact ih hq.2
    ·split
     ·rw [List.cons_append,Qc _ _ (fun e=>hq.1 e.symm)];exact ih hq.2
     ·exact ih hq.2
    ·exact ih hq.2
  rw [this fs hmem];exact hb
 have hdr:∃ full,DR w (MM F (Qe hp fs++hp) ρ) (.lst full asz ds) sv:=by
  unfold YR at hadd
  split at hadd <;> simp only [jIj,reduceCtorEq,jPj] at hadd
  rename_i full sz' es' fs' hd
  obtain ⟨rfl,rfl,rfl⟩:=hadd
  exact ⟨full,Wu h fs' s sv _ fs' hd (fun _ h=>h) hsv⟩
 obtain ⟨full,hdr⟩:=hdr
 obtain ⟨xa,xc,rfl,hxc,_,news,n1,n2,n3,n4,n5⟩:=qa hdr
 have hnl:news.length=ds.length * sz:=by
  rcases e3 with e | e
  ·rw [← e];exact n1
  ·rw [e] at n1 ⊢;simpa using n1
 have hn2:∀ m,m≤ds.length→(Builtin.firstCells sz m (.slice xa ds.length xc)).run cx.P w=.ok (news.take (m * sz)).toArray w:=by
  intro m hm
  rcases e3 with e | e
  ·rw [← e];exact n2 _ _ rfl m hm
  ·have:=n2 cx.P w rfl m hm
   subst e
   have hm0:m=0:=by simpa using hm
   subst hm0
   have hn0:news=[]:=by simpa using n1
   subst hn0
   cases xa with
   | none=>simpa [Builtin.firstCells] using this
   | some a=>simpa [Builtin.firstCells,loadCells,loadCellsFrom] using this
 have hn4:∀ (i:Nat) (d:D),ds[i]?=some d→d.cells.length=sz:=by
  rcases e3 with e | e
  ·rw [← e];exact n4
  ·subst e;intro i d hd;simp at hd
 have hn5:∀ (i:Nat) (d:D) (j:Nat) (c:D),ds[i]?=some d→d.cells[j]?=some c→∃ y,news[i * sz+j]?=some y∧one y=true∧DR w (MM F (Qe hp fs++hp) ρ) c y:=by
  rcases e3 with e | e
  ·rw [← e];exact n5
  ·subst e;intro i d j c hd;simp at hd
 rcases g1.blk b _ hb1 with ⟨he0,a0,q1⟩ | ⟨rr,c,e,cap,q1,⟨q2,hcap⟩,q3,q4,q5,q6⟩
 ·subst he0
  rw [q1]
  refine ⟨.int .i64 (min ds.length 0:Nat),w,?_,?_⟩
  ·have h1:=Qn hu w
   have h2:=Zc hz w
   have h3:=hn2 0 (Nat.zero_le _)
   simp only [Nat.zero_mul,List.take_zero] at h3
   cases a0 with
   | none=>simp [Builtin.copy_,h1,h2,Builtin.lenOf,h3,goInt]
   | some a0=>simp [Builtin.copy_,h1,h2,Builtin.lenOf,h3,goInt,storeCells]
  ·have hl:∀ n,look ((b,Blk.row ver sz (ds.take ([]:jVj).length++([]:jVj).drop ds.length))::(Qe hp fs++hp)) n=look (Qe hp fs++hp) n:=by
    intro n
    by_cases hn:n=b
    ·subst hn;rw [Qd,hb1];simp
    ·rw [Qc _ _ (Ne.symm hn)]
   obtain ⟨k1,k2⟩:=W0 hl g1
   exact ⟨_,k1,g2.trans k2,.d _ _ (.v _)⟩
 rw [q1]
 have hesz:es.length * sz≤c.size:=Nat.le_trans (Nat.mul_le_mul_right _ q2) q3
 have hml:min ds.length es.length≤ds.length:=Nat.min_le_left _ _
 have hme:min ds.length es.length≤es.length:=Nat.min_le_right _ _
 have hmz1:min ds.length es.length * sz≤ds.length * sz:=Nat.mul_le_mul_right _ hml
 have hmz2:min ds.length es.length * sz≤es.length * sz:=Nat.mul_le_mul_right _ hme
 have htl:(news.take (min ds.length es.length * sz)).length=min ds.length es.length * sz:=by rw [List.length_take];omega
 obtain ⟨w',s1,s2,s3⟩:=Y5 cx.P rr 0 (news.take (min ds.length es.length * sz)) 0 w c e q4 (by rw [htl];omega) (fun v hv=>(Ym (n3 v (List.mem_of_mem_take hv))).2)
 refine ⟨.int .i64 (min ds.length es.length:Nat),w',?_,?_⟩
 ·have h1:=Qn hu w
  have h2:=Zc hz w
  have h3:=hn2 _ hml
  simp [Builtin.copy_,h1,h2,Builtin.lenOf,h3,s1,goInt]
 ·obtain ⟨k1,k2⟩:=g1.write (b:=b) (k:=.row ver sz (ds.take es.length++es.drop ds.length)) (v:=ρ b) hb1 rfl (r:=rr) (by rw [q1];exact Zl hcap) (by rw [q1];exact Zl hcap) (.inr ⟨rfl,rfl⟩) s3 (fun hst=>by
   have hlen:(ds.take es.length++es.drop ds.length).length=es.length:=by simp;omega
   have hgo:∀ k,(Uz c (0+0) (news.take (min ds.length es.length * sz)))[k]?=if k < min ds.length es.length * sz then news[k]? else c[k]?:=by
    intro k
    rw [Vz _ _ _ (by rw [htl];omega),htl]
    by_cases hk:k < min ds.length es.length * sz
    ·rw [jTj (by omega),jTj hk]
     simp only [Nat.zero_add,Nat.sub_zero,List.getElem?_take,hk,if_true]
    ·rw [jFj (by omega),jFj hk]
   refine .inr ⟨rr,_,e,cap,by rw [QG,q1,hlen],⟨by rw [hlen];exact q2,hcap⟩,by rw [Yk];exact q3,s2,fun i d hi=>?_,fun i d j a hi hj=>?_⟩
   ·by_cases hl:i < (ds.take es.length).length
    ·rw [List.getElem?_append_left hl,List.getElem?_take] at hi
     split at hi
     ·exact hn4 i d hi
     ·cases hi
    ·rw [List.getElem?_append_right (by omega),List.getElem?_drop] at hi;exact q5 _ d hi
   ·by_cases hl:i < (ds.take es.length).length
    ·rw [List.getElem?_append_left hl,List.getElem?_take] at hi
     split at hi
     ·have hjl:j < sz:=by have:=(jGj hj).1;have:=hn4 i d hi;omega
      obtain ⟨y,y1,y2,y3⟩:=hn5 i d j a hi hj
      refine ⟨y,?_,y2,hst.dr y3⟩
      rw [hgo,jTj (EF (by simp at hl;omega) hjl)];exact y1
     ·cases hi
    ·have hge:min ds.length es.length≤i:=by simp at hl;omega
     rw [List.getElem?_append_right (by omega),List.getElem?_drop] at hi
     have hidx:ds.length+(i - (ds.take es.length).length)=i:=by
      have:=(jGj hi).1
      simp at hl this ⊢;omega
     rw [hidx] at hi
     obtain ⟨y,y1,y2,y3⟩:=q6 i d j a hi hj
     refine ⟨y,?_,y2,hst.dr y3⟩
     have:min ds.length es.length * sz≤i * sz:=Nat.mul_le_mul_right _ hge
     rw [hgo,jFj (by omega)];exact y1)
  exact ⟨_,k1,g2.trans k2,.d _ _ (.v _)⟩
theorem Qae (h:HSim cx F hp ρ w) {t:TypeId} {ats:List TypeId} {ty:TypeId} {x:AV} {xv:Value} (hr:ub cx sym orc hp t x=some r) (ho:∀ q,q∈r.ob→q) (hx:VR w (MM F hp ρ) hp ρ x xv) :
  ∃ v w',(Builtin.clear_ (t::ats).toArray ty #[xv]).run cx.P w=.ok v w'∧OpOK cx F hp ρ w r.up r.val v w':=by
 unfold ub at hr
 split at hr
 case h_2=>cases hr
 rename_i elem b ver sz lo n hu
 split at hr
 case h_2=>cases hr
 rename_i ver' sz' es z hb hz
 split at hr
 case h_2=>cases hr
 rename_i ob o' hc how
 simp only [jAj] at hc
 have e1:=ZZ hc.1.1
 have e2:=ZZ hc.1.2
 have hok:=hc.2
 subst e1;subst e2
 simp only [jIj] at hr;subst hr
 obtain ⟨hn,hle⟩:=Wo how ho
 obtain ⟨z',hz2,hzs,hzo⟩:=XF hok
 rw [hz] at hz2;cases hz2
 cases hx with
 | sub _ _ _ _ _ kk _ hb' hv hone hh =>
 rw [hb] at hb';cases hb'
 obtain ⟨r0,cap0,hr0,rfl⟩:=hh rfl
 rcases h.blk b _ hb with ⟨he0,a0,q1⟩ | ⟨rr,c,e,cap,q1,⟨q2,hcap⟩,q3,q4,q5,q6⟩
 ·subst he0;simp only [List.length_nil] at hle;omega
 have hrr:r0=rr:=by
  rw [q1,Zl hcap] at hr0
  exact (Option.some.inj hr0).symm
 subst hrr
 have hcell:∀ (j:Nat) (a:D),(ofV z).cells[j]?=some a→∃ y,z.cells[j]?=some y∧one y=true∧∀ M,DR w M a y:=by
  intro j a hj
  have hlen:=Jy z
  have hjl:j < z.cells.size:=by
   have:=(jGj hj).1;simpa using (hlen ▸ (by simpa using this):j < z.cells.size)
  refine ⟨z.cells[j],by simp [hjl],hzo _ (by simp),fun M=>?_⟩
  have:=KO (hp:=[]) (ρ:=fun _=>undef) (F:=M) (w:=w) z j (.d a) z.cells[j] (by simp [hj]) (by simp [hjl])
  cases this
  rename_i hd
  exact hd.ext (jLj _) (fun _ _ _=>rfl) (fun _ _ hm=>.inl hm)
 have hcl:(ofV z).cells.length=sz:=by have:=Jy z;simpa [hzs] using this
 have hnews:(Builtin.zeroCells z.cells n).toList.length=n * sz:=by rw [Array.length_toList,size_zeroCells,hzs]
 have hfit:(lo+n) * sz≤c.size:=Nat.le_trans (Nat.mul_le_mul_right _ (Nat.le_trans hle q2)) q3
 rw [Nat.add_mul] at hfit
 have hget:∀ k,k < n * sz→(Builtin.zeroCells z.cells n)[k]?=some (z.cells[k % z.cells.size]!):=fun k hk=>X6 _ _ _ (by rw [hzs];exact hk)
 obtain ⟨w',s1,s2,s3⟩:=Y5 cx.P r0 (lo * sz) (Builtin.zeroCells z.cells n).toList 0 w c e q4 (by rw [hnews];omega) (fun v hv=>by
  obtain ⟨k,hk⟩:=List.getElem?_of_mem hv
  have hkl:=(jGj hk).1
  rw [hnews] at hkl
  rw [Array.getElem?_toList,hget k hkl] at hk
  have hsz:0 < z.cells.size:=by
   rw [hzs]
   rcases Nat.eq_zero_or_pos sz with h0 | h0
   ·rw [h0] at hkl;omega
   ·exact h0
  have hm:=Nat.mod_lt k hsz
  simp only [jIj] at hk
  rw [← hk]
  refine (Ym (hzo _ ?_)).2
  simp [hm])
 refine ⟨.tuple #[],w',?_,?_⟩
 ·have h1:=Qn hu w
  have h2:=Y4 hz w
  obtain ⟨m,rfl⟩:∃ m,n=m+1:=⟨n - 1,by omega⟩
  simp [Builtin.clear_,h1,h2,s1]
 ·obtain ⟨k1,k2⟩:=h.write (b:=b) (k:=.row ver sz (es.take lo++(List.replicate n (ofV z)++es.drop (lo+n)))) (v:=ρ b) hb rfl (r:=r0) (by rw [q1];exact Zl hcap) (by rw [q1];exact Zl hcap) (.inr ⟨rfl,rfl⟩) s3 (fun hst=>by
   have hlen:(es.take lo++(List.replicate n (ofV z)++es.drop (lo+n))).length=es.length:=by simp;omega
   have hgo:∀ k,(Uz c (lo * sz+0) (Builtin.zeroCells z.cells n).toList)[k]?=if lo * sz≤k∧k < lo * sz+n * sz then (Builtin.zeroCells z.cells n)[k - lo * sz]? else c[k]?:=by
    intro k
    rw [Vz _ _ _ (by rw [hnews];omega),hnews,Nat.add_zero,Array.getElem?_toList]
   have hel:∀ i,(es.take lo++(List.replicate n (ofV z)++es.drop (lo+n)))[i]?=if i < lo then es[i]? else if i < lo+n then some (ofV z) else es[i]?:=by
    intro i
    have ht:(es.take lo).length=lo:=by simp;omega
    by_cases h1:i < lo
    ·rw [jTj h1,List.getElem?_append_left (by omega),List.getElem?_take,jTj h1]
    ·rw [jFj h1,List.getElem?_append_right (by omega),ht]
     by_cases h2:i < lo+n
     ·rw [jTj h2,List.getElem?_append_left (by simp;omega),List.getElem?_replicate,jTj (by omega)]
     ·rw [jFj h2,List.getElem?_append_right (by simp;omega),List.getElem?_drop,List.length_replicate]
      congr 1;omega
   refine .inr ⟨r0,_,e,cap,by rw [QG,q1,hlen],⟨by rw [hlen];exact q2,hcap⟩,by rw [Yk];exact q3,s2,fun i d hi=>?_,fun i d j a hi hj=>?_⟩
   ·rw [hel] at hi
    split at hi
    ·exact q5 i d hi
    ·split at hi
     ·cases hi;exact hcl
     ·exact q5 i d hi
   ·rw [hel] at hi
    have hold:es[i]?=some d→(i < lo ∨ lo+n≤i)→∃ y,(Uz c (lo * sz+0) (Builtin.zeroCells z.cells n).toList)[i * sz+j]?=some y∧one y=true∧DR w' (MM F ((b,Blk.row ver sz (es.take lo++(List.replicate n (ofV z)++es.drop (lo+n))))::hp) (Vl ρ b (ρ b))) a y:=by
     intro hi hlo
     obtain ⟨y,y1,y2,y3⟩:=q6 i d j a hi hj
     refine ⟨y,?_,y2,hst.dr y3⟩
     have hjl:j < sz:=by have:=(jGj hj).1;have:=q5 i d hi;omega
     rw [hgo,jFj ?_];exact y1
     intro hq
     rcases hlo with hl | hl
     ·have:=EF hl hjl;omega
     ·have:(lo+n) * sz≤i * sz:=Nat.mul_le_mul_right _ hl
      rw [Nat.add_mul] at this;omega
    split at hi
    ·rename_i h1;exact hold hi (.inl h1)
    ·split at hi
     ·rename_i h1 h2
      cases hi
      obtain ⟨y,y1,y2,y3⟩:=hcell j a hj
      have hjl:j < sz:=by have:=(jGj hj).1;omega
      refine ⟨y,?_,y2,(hst.dr (y3 _))⟩
      have hge:lo * sz≤i * sz:=Nat.mul_le_mul_right _ (by omega)
      have hlt:(i - lo) * sz+j < n * sz:=EF (by omega) hjl
      have hsub:i * sz+j - lo * sz=(i - lo) * sz+j:=by rw [Nat.sub_mul];omega
      have hmod:((i - lo) * sz+j) % z.cells.size=j:=by rw [hzs,Nat.mul_comm,Nat.mul_add_mod];exact Nat.mod_eq_of_lt hjl
      rw [hgo,jTj ⟨by omega,by omega⟩,hsub,hget _ hlt,hmod]
      have hjs:j < z.cells.size:=by rw [hzs];exact hjl
      rw [Array.getElem?_eq_getElem hjs] at y1
      simp only [jIj] at y1
      simp [hjs,y1]
     ·rename_i h1 h2;exact hold hi (.inr (by omega)))
  exact ⟨_,k1,k2,.tup [] [] rfl (fun i c y hc _=>by simp at hc)⟩
theorem Xh {es:jVj} {i:Int} {y:D} {ob:List Prop} {o' : List Orc} (h:uE sym orc es i=some (y,ob,o')) (ho:∀ q,q∈ob→q):0≤i∧es[i.toNat]?=some y:=by
 unfold uE at h
 split at h
 ·simp only [jIj,jPj] at h;obtain ⟨rfl,rfl,rfl⟩:=h
  have h1:=ho _ jMj
  have h2:=ho _ (List.mem_cons_of_mem _ jMj)
  rw [ZR] at h2
  exact ⟨h1,h2⟩
 ·split at h
  ·rename_i hd hn
   simp only [jIj,jPj] at h;obtain ⟨rfl,rfl,rfl⟩:=h
   rw [ZR] at hn
   exact ⟨of_decide_eq_true hd,hn⟩
  ·cases h
 ·cases h
theorem QaQ {full:Bool} {sz s:Nat} {es:jVj} {t elem:TypeId} {x:Value} {i:Int} {k:IntKind} {y:D} (hx:DR w (MM F hp ρ) (.lst full sz es) x) (hu:cx.P.underlying t=some (.slice elem)) (hs:cx.sz elem=some s)
  (he:sz=s) (hi:0≤i) (hy:es[i.toNat]?=some y) :
  ∃ v,(Instr.indexAt t x (.int k i)).run cx.P w=.ok v w∧VR w (MM F hp ρ) hp ρ (.dptr y 0) v:=by
 subst he
 cases hx with
 | lst _ _ _ a cap blk off ys hf hc ha hs' hw hd =>
  have hne:es≠[]:=by rintro rfl;simp at hy
  obtain ⟨rfl,hM,hblk⟩:=ha hne
  have hlt:i.toNat < es.length:=(jGj hy).1
  have hrun:(Instr.indexAt t (.slice (some ⟨blk,off,none⟩) es.length cap) (.int k i)).run cx.P w=.ok (.pointer (some ⟨blk,off+i.toNat * sz,none⟩)) w:=by
   have h1:=Qn hu w
   have h2:=Zc hs w
   have h3:i < (es.length:Int):=by omega
   simp [Instr.indexAt,asIntOf,h1,h2,hi,h3,add_at]
  refine ⟨_,hrun,?_⟩
  have:=VR.dptr (w:=w) (M:=MM F hp ρ) (hp:=hp) (ρ:=ρ) y 0 blk (off+i.toNat * sz) ⟨hM,hblk,fun j c hj=>⟨ys (i.toNat * sz+j),by
   have:=(hw _ _ _ _ hy hj).1
   rw [Nat.add_assoc];exact this,hd _ _ _ _ hy hj⟩⟩
  rw [Nat.add_zero] at this
  exact this
theorem JG {b ver:Nat} {k:Blk} (h:GQ hp b ver=true) (hb:look hp b=some k):ver=k.ver:=by
 unfold GQ at h
 rw [hb] at h
 exact ZZ h
theorem JM (h:HSim cx F hp ρ w) {t:TypeId} {x:AV} {i:Int} {k:IntKind} {xv:Value} (hr:Ve cx sym orc hp t x i=some r) (ho:∀ q,q∈r.ob→q) (hx:VR w (MM F hp ρ) hp ρ x xv) :
  ∃ v,(Instr.indexAt t xv (.int k i)).run cx.P w=.ok v w∧OpOK cx F hp ρ w r.up r.val v w:=by
 unfold Ve at hr
 split at hr
 ·rename_i len elem hu
  split at hr
  case h_2=>cases hr
  rename_i s hs hd
  have hd':=of_decide_eq_true hd
  split at hr
  ·rename_i b ver sz j off
   split at hr
   case h_2=>cases hr
   rename_i hcu
   simp only [val1,jIj] at hr;subst hr
   cases hx with
   | ptr _ _ _ _ _ kk _ hb hv hone hh =>
    obtain ⟨r0,hr0,rfl⟩:=hh (JG hcu hb)
    have h1:=Qn hu w
    have h2:=Zc hs w
    refine ⟨.pointer (some ⟨r0,j * sz+(off+i.toNat * s),none⟩),?_,OpOK.quiet h (.ptr b ver sz j _ kk _ hb hv rfl fun _=>⟨r0,hr0,rfl⟩)⟩
    simp [Instr.indexAt,asIntOf,h1,Instr.sureAddr,hd'.1,hd'.2,h2,add_at,Nat.add_assoc]
  ·rename_i y off
   simp only [val1,jIj] at hr;subst hr
   cases hx with
   | dptr _ _ blk o hda =>
    have h1:=Qn hu w
    have h2:=Zc hs w
    refine ⟨.pointer (some ⟨blk,o+(off+i.toNat * s),none⟩),?_,OpOK.quiet h (.dptr y _ blk o hda)⟩
    simp [Instr.indexAt,asIntOf,h1,Instr.sureAddr,hd'.1,hd'.2,h2,add_at,Nat.add_assoc]
  ·cases hr
 ·rename_i elem hu
  split at hr
  ·cases hr
  rename_i s hs
  split at hr
  ·rename_i b ver
   cases hx with
   | own _ _ kk _ hb hv hone hh =>
   rw [hb] at hr
   cases kk with
   | box _=>simp at hr
   | loop _ _ _ _ _ _=>simp at hr
   | mp _=>simp at hr
   | it _ _=>simp at hr
   | fbox _=>simp at hr
   | left _=>simp at hr
   | dead=>simp at hr
   | row ver' sz es =>
    simp only at hr
    split at hr
    case h_2=>cases hr
    rename_i hc
    simp only [jAj] at hc
    have e1:=ZZ hc.1
    have e2:=ZZ hc.2
    subst e1;subst e2
    split at hr
    case h_2=>cases hr
    rename_i ob o' how
    simp only [jIj] at hr;subst hr
    have hi:=Wo how ho
    rw [hh rfl]
    rcases h.blk b _ hb with ⟨q0,_,_⟩ | ⟨r0,c,e,cap,q1,⟨q2,hcap⟩,q3,q4,q5,q6⟩
    ·rw [q0] at hi;simp only [List.length_nil] at hi;omega
    have h1:=Qn hu w
    have h2:=Zc hs w
    refine ⟨.pointer (some ⟨r0,i.toNat * sz,none⟩),?_,OpOK.quiet h (.ptr b ver sz i.toNat 0 _ _ hb hv rfl fun _=>⟨r0,by rw [q1];exact Zl hcap,rfl⟩)⟩
    rw [q1]
    simp [Instr.indexAt,asIntOf,h1,h2,hi.1,hi.2,add_at]
   | frozen ver' sz es =>
    simp only at hr
    split at hr
    case h_2=>cases hr
    rename_i hc
    simp only [jAj] at hc
    have e1:=ZZ hc.1
    have e2:=ZZ hc.2
    subst e1
    split at hr
    case h_2=>cases hr
    rename_i y ob o' hp1
    simp only [jIj] at hr;subst hr
    obtain ⟨p1,p2⟩:=Xh hp1 ho
    rw [hh rfl]
    obtain ⟨v,v1,v2⟩:=QaQ (k:=k) (h.blk b _ hb) hu hs e2 p1 p2
    exact ⟨v,v1,OpOK.quiet h v2⟩
   | virt ver' sz es =>
    simp only at hr
    split at hr
    case h_2=>cases hr
    rename_i hc
    simp only [jAj] at hc
    have e1:=ZZ hc.1
    have e2:=ZZ hc.2
    subst e1
    split at hr
    case h_2=>cases hr
    rename_i y ob o' hp1
    simp only [jIj] at hr;subst hr
    obtain ⟨p1,p2⟩:=Xh hp1 ho
    rw [hh rfl]
    obtain ⟨v,v1,v2⟩:=QaQ (k:=k) (h.blk b _ hb) hu hs e2 p1 p2
    exact ⟨v,v1,OpOK.quiet h v2⟩
  ·rename_i full sz es
   split at hr
   case h_2=>cases hr
   rename_i hc
   split at hr
   case h_2=>cases hr
   rename_i y ob o' hp1
   simp only [jIj] at hr;subst hr
   obtain ⟨p1,p2⟩:=Xh hp1 ho
   cases hx with
   | d _ _ hx =>
    obtain ⟨v,v1,v2⟩:=QaQ (k:=k) (hp:=hp) hx hu hs (ZZ hc) p1 p2
    exact ⟨v,v1,OpOK.quiet h v2⟩
  ·rename_i b ver sz lo n
   split at hr
   case h_2=>cases hr
   rename_i ob o' hc how
   simp only [jAj] at hc
   have e2:=ZZ hc.2
   subst e2
   split at hr
   ·simp only [jIj] at hr;subst hr
    obtain ⟨i1,i2⟩:=Wo how ho
    cases hx with
    | sub _ _ _ _ _ kk _ hb hv hone hh =>
     obtain ⟨r0,c0,hr0,rfl⟩:=hh (JG hc.1 hb)
     have h1:=Qn hu w
     have h2:=Zc hs w
     refine ⟨.pointer (some ⟨r0,(lo+i.toNat) * sz,none⟩),?_,OpOK.quiet h (.ptr b ver sz 0 ((lo+i.toNat) * sz) kk _ hb hv rfl fun _=>⟨r0,hr0,by simp⟩)⟩
     simp [Instr.indexAt,asIntOf,h1,h2,i1,i2,add_at,Nat.add_mul]
   ·simp only [jIj] at hr;subst hr
    obtain ⟨i1,i2⟩:=Wo how ho
    cases hx with
    | sub _ _ _ _ _ kk _ hb hv hone hh =>
     obtain ⟨r0,c0,hr0,rfl⟩:=hh (JG hc.1 hb)
     have h1:=Qn hu w
     have h2:=Zc hs w
     refine ⟨.pointer (some ⟨r0,(lo+i.toNat) * sz,none⟩),?_,OpOK.quiet h (.ptr b ver sz (lo+i.toNat) 0 kk _ hb hv rfl fun _=>⟨r0,hr0,rfl⟩)⟩
     simp [Instr.indexAt,asIntOf,h1,h2,i1,i2,add_at,Nat.add_mul]
  ·cases hr
 ·cases hr
theorem zA (h:HSim cx F hp ρ w) {s:Sem Value} (hr:Qbd cx sym orc s=some r) (ho:∀ q,q∈r.ob→q):∃ v,s.run cx.P w=.ok v w∧OpOK cx F hp ρ w r.up r.val v w:=by
 unfold Qbd at hr
 split at hr
 ·simp only [jIj] at hr;subst hr
  exact ⟨_,Vd (ho _ jMj) w,OpOK.quiet h (JW _ _ _ _ _)⟩
 ·split at hr
  ·rename_i x hx
   simp only [jIj] at hr;subst hr
   exact ⟨_,Vd hx w,OpOK.quiet h (JW _ _ _ _ _)⟩
  ·cases hr
 ·cases hr
theorem Ew {t:TypeId} {s off:Nat} {g:Bool} {x y:AV} {C:Array Value} (hs:cx.sz t=some s) (hg:cx.isAgg t=some g) (hx:VR w (MM F hp ρ) hp ρ x (.agg C)) (hl:Kg g s off x=some y) :
  ∃ v,(part t C off).run cx.P w=.ok v w∧VR w (MM F hp ρ) hp ρ y v:=by
 unfold Kg at hl
 split at hl
 ·cases hl
 rename_i cs hcs
 obtain ⟨c1,c2,c3⟩:=VM hcs hx
 simp only [Value.cells] at c1 c3
 unfold part
 simp only [Sem.run_bind,ki hg,Result.andThen_ok]
 cases g with
 | false =>
  simp only at hl
  rw [ZR] at hl
  obtain ⟨v,v1,v2⟩:=c3 _ _ hl
  refine ⟨v,?_,v2⟩
  simp only [Bool.false_eq_true,if_false,v1,Sem.run_pure]
 | true =>
  simp only at hl
  split at hl
  case h_2=>cases hl
  rename_i hle
  have hle' : off+s≤cs.length:=Nat.le_of_ble_eq_true hle
  refine ⟨.agg (C.extract off (off+s)),by simp only [if_true,Sem.run_bind,Zc hs,Result.andThen_ok,Sem.run_pure],?_⟩
  split at hl
  ·rename_i hb
   simp only [jIj] at hl;subst hl
   simp only [jAj] at hb
   have h1:=ZZ hb.1.2
   have h2:=ZZ hb.2
   subst h1
   have:C.extract 0 (0+s)=C:=by rw [h2,← c1];simp
   rw [this];exact hx
  ·simp only [jIj] at hl;subst hl
   refine Qa0 (by simp;omega) fun j a q ha hq=>?_
   rw [Array.getElem?_extract] at hq
   split at hq
   ·rw [List.getElem?_take] at ha
    split at ha
    ·rw [List.getElem?_drop] at ha
     obtain ⟨v,v1,v2⟩:=c3 _ _ ha
     rw [hq] at v1;cases v1;exact v2
    ·cases ha
   ·cases hq
theorem za {M:Nat→Prop} {x:AV} {v:Value} (ha:K0 x=true) (h:VR w M hp ρ x v):∃ C,v=.agg C:=by
 cases h with
 | agg=>exact ⟨_,rfl⟩
 | d _ _ h=>cases h with
  | agg=>exact ⟨_,rfl⟩
  | _=>cases ha
 | _=>cases ha
theorem zI {s:TypeId} {f:Nat} {fd:Field} (h:wj cx s f=some fd):∃ fields,cx.P.underlying s=some (.struct fields)∧fields[f]?=some fd:=by
 unfold wj at h
 split at h
 ·rename_i fields hu
  rw [ZR] at h
  exact ⟨fields,hu,by simpa using h⟩
 ·cases h
theorem Ee (h:HSim cx F hp ρ w) {t:TypeId} {x:AV} {ix xv iv:Value} (hr:wm cx sym orc t x ix=some r) (ho:∀ q,q∈r.ob→q) (hx:VR w (MM F hp ρ) hp ρ x xv) (hi:iv=ix) :
  ∃ v,(Instr.index t xv iv).run cx.P w=.ok v w∧OpOK cx F hp ρ w r.up r.val v w:=by
 subst hi
 unfold wm at hr
 split at hr
 ·cases hx with
  | d _ _ hx=>cases hx;exact zA h hr ho
 ·split at hr
  case h_2=>cases hr
  rename_i len elem k i cs hu hcs
  split at hr
  case h_2=>cases hr
  rename_i s g hs hg hd
  have hd':=of_decide_eq_true hd
  have key:∀ y,K0 x=true→Kg g s (i.toNat * s) x=some y→∃ v,(Instr.index t xv (.int k i)).run cx.P w=.ok v w∧OpOK cx F hp ρ w [] y v w:=by
   intro y ha hy
   obtain ⟨C,rfl⟩:=za ha hx
   obtain ⟨v,v1,v2⟩:=Ew hs hg hx hy
   refine ⟨v,?_,OpOK.quiet h v2⟩
   have h1:=Qn hu w
   have h2:=Zc hs w
   simp [Instr.index,asIntOf,h1,hd'.1,hd'.2,h2,v1]
  split at hr
  ·split at hr
   case h_2=>cases hr
   rename_i y hy
   simp only [val1,jIj] at hr;subst hr
   refine key y rfl ?_
   rename_i c0 _ _
   have:cs=c0:=by
    simp only [AV.cells] at hcs
    split at hcs <;> simp only [jIj,reduceCtorEq] at hcs
    exact hcs.symm
   subst this;exact hy
  ·split at hr
   case h_2=>cases hr
   rename_i y hy
   simp only [val1,jIj] at hr;subst hr
   exact key y rfl hy
  ·cases hr
theorem qZ (h:HSim cx F hp ρ w) {t:TypeId} {x:AV} {i:Int} {k:IntKind} {xv:Value} (hr:YP cx sym orc hp t x i=some r) (ho:∀ q,q∈r.ob→q) (hx:VR w (MM F hp ρ) hp ρ x xv) :
  ∃ v,(Instr.indexAt t xv (.int k i)).run cx.P w=.ok v w∧OpOK cx F hp ρ w r.up r.val v w:=by
 unfold YP at hr
 split at hr
 ·split at hr
  case h_2=>cases hr
  rename_i q hq
  simp only [jIj] at hr;subst hr
  have hi:i=_:=ho _ jMj
  rw [hi]
  have:=JM (r:=q) (k:=k) h hq (fun p hp=>ho p (List.mem_cons_of_mem _ hp)) hx
  exact this
 ·exact JM h hr ho hx
theorem ua (h:HSim cx F hp ρ w) {t:TypeId} {x:AV} {ix xv iv:Value} (hr:QaZ cx sym orc t x ix=some r) (ho:∀ q,q∈r.ob→q) (hx:VR w (MM F hp ρ) hp ρ x xv) (hi:iv=ix) :
  ∃ v,(Instr.index t xv iv).run cx.P w=.ok v w∧OpOK cx F hp ρ w r.up r.val v w:=by
 unfold QaZ at hr
 split at hr
 ·split at hr
  case h_2=>cases hr
  rename_i q hq
  simp only [jIj] at hr;subst hr
  have hj:=ho _ jMj
  rw [hj] at hi
  have:=Ee (r:=q) h hq (fun p hp=>ho p (List.mem_cons_of_mem _ hp)) hx hi
  exact this
 ·exact Ee h hr ho hx hi
theorem wN {t:TypeId} {k:Value} (h:E6 cx t k=true):∃ d,cx.P.underlying t=some d∧MapKept.IsKey d k:=by
 unfold E6 at h
 split at h
 ·refine ⟨.int _,by assumption,?_⟩
  exact of_decide_eq_true (p:=_=_) h
 ·exact ⟨.string,by assumption,trivial⟩
 ·exact ⟨.bool,by assumption,trivial⟩
 ·cases h
theorem kf {d:TypeDesc} {k j:Value} (hk:MapKept.IsKey d k) (hj:(X9 k j).isSome=true):MapKept.IsKey d j∧Instr.sameNow d k j=X9 k j:=by
 cases d <;> cases k <;> simp only [MapKept.IsKey] at hk <;> cases j <;> simp_all [X9,MapKept.IsKey,Instr.sameNow]
theorem Qcc {d:TypeDesc} {k j:Value} (hk:MapKept.IsKey d k) (h:X9 k j=some true):j=k:=by
 obtain ⟨h1,h2⟩:=kf hk (j:=j) (by rw [h];rfl)
 obtain ⟨r,hr,hi⟩:=MapKept.sameNow_of_keys hk h1
 rw [h2,h] at hr
 cases hr
 exact (hi.1 rfl).symm
theorem EK {M:Nat→Prop} {d:TypeDesc} {k:Value} (hk:MapKept.IsKey d k):∀ (es:jVj) (l:List MapEntry) (i:Nat),MR w M es l→mok k es=true →
  (VY k es=none∧Instr.findNow d k l i=some none∧∀ y,jD k y es=es++[.tup [.v k,y]]) ∨
  ∃ j e x,VY k es=some x∧Instr.findNow d k l i=some (some (i+j,e.val))∧l[j]?=some e∧e.key=k∧DR w M x e.val∧∀ y,jD k y es=es.set j (.tup [.v k,y])
 | [],[],i,_,_=>.inl ⟨rfl,rfl,fun _=>rfl⟩
 | [],_::_,_,h,_=>h.elim
 | _::_,[],_,h,_=>h.elim
 | d0::es,e::l,i,h,ho=>by
  obtain ⟨⟨x,hx,hv⟩,h2⟩:=h
  subst hx
  have hko:keyOf (.tup [.v e.key,x])=some (e.key,x):=rfl
  unfold mok at ho
  rw [hko] at ho
  simp only [jAj] at ho
  obtain ⟨q1,q2⟩:=kf hk ho.1
  cases hs:X9 k e.key with
  | none=>rw [hs] at ho;exact absurd ho.1 (by simp)
  | some b =>
   rw [hs] at q2
   cases b with
   | true =>
    refine .inr ⟨0,e,x,?_,?_,rfl,Qcc hk hs,hv,fun y=>?_⟩
    ·unfold VY;rw [hko];simp only [hs]
    ·simp [Instr.findNow,q2]
    ·unfold jD;rw [hko];simp only [hs];rfl
   | false =>
    rcases EK hk es l (i+1) h2 ho.2 with ⟨r1,r2,r3⟩ | ⟨j,e',x',r1,r2,r3,r4,r5,r6⟩
    ·refine .inl ⟨?_,?_,fun y=>?_⟩
     ·unfold VY;rw [hko];simp only [hs];exact r1
     ·simp [Instr.findNow,q2,r2]
     ·unfold jD;rw [hko];simp only [hs,r3];rfl
    ·refine .inr ⟨j+1,e',x',?_,?_,by simpa using r3,r4,r5,fun y=>?_⟩
     ·unfold VY;rw [hko];simp only [hs];exact r1
     ·simp [Instr.findNow,q2,r2];omega
     ·unfold jD;rw [hko];simp only [hs,r6];rfl
theorem MR.set {M:Nat→Prop}:∀ {es:jVj} {l:List MapEntry} (j:Nat) (d:D) (e:MapEntry),MR w M es l→(∃ x,d=.tup [.v e.key,x]∧DR w M x e.val)→MR w M (es.set j d) (l.set j e)
 | [],[],_,_,_,_,_=>trivial
 | _::_,_::_,0,_,_,h,k=>⟨k,h.2⟩
 | _::_,_::_,j+1,d,e,h,k=>⟨h.1,MR.set j d e h.2 k⟩
 | [],_::_,_,_,_,h,_=>h.elim
 | _::_,[],_,_,_,h,_=>h.elim
theorem MR.push {M:Nat→Prop}:∀ {es:jVj} {l:List MapEntry} (d:D) (e:MapEntry),MR w M es l→(∃ x,d=.tup [.v e.key,x]∧DR w M x e.val)→MR w M (es++[d]) (l++[e])
 | [],[],_,_,_,k=>⟨k,trivial⟩
 | _::_,_::_,d,e,h,k=>⟨h.1,MR.push d e h.2 k⟩
 | [],_::_,_,_,h,_=>h.elim
 | _::_,[],_,_,h,_=>h.elim
theorem ku (h:HSim cx F hp ρ w) {m:AV} {b:Nat} {es:jVj} {mv:Value} (hm:Ey hp m=some (b,es)) (hx:VR w (MM F hp ρ) hp ρ m mv) :
  look hp b=some (.mp es)∧mv=ρ b∧∃ r es' c,ρ b=.map (some r)∧w.heap[r]?=some (.map es' c)∧MR w (MM F hp ρ) es es'.toList:=by
 unfold Ey at hm
 split at hm
 case h_2=>cases hm
 rename_i b0 v0
 cases hx with
 | own _ _ kk _ hb hv hone hh =>
  rw [hb] at hm
  split at hm
  case h_2=>cases hm
  rename_i es0 heq
  cases heq
  simp only [jIj,jPj] at hm
  obtain ⟨rfl,rfl⟩:=hm
  refine ⟨hb,hh ?_,h.blk _ _ hb⟩
  simp only [Blk.ver] at hv ⊢
  omega
theorem G0 (h:HSim cx F hp ρ w) {t:TypeId} {m k x:AV} {mv kv xv:Value} (hr:YO cx sym orc hp t m k x=some r) (ho:∀ q,q∈r.ob→q)
  (hm:VR w (MM F hp ρ) hp ρ m mv) (hk:VR w (MM F hp ρ) hp ρ k kv) (hx:VR w (MM F hp ρ) hp ρ x xv) :
  ∃ w',(Instr.mapUpdate t mv kv xv).run cx.P w=.ok () w'∧OpOK cx F hp ρ w r.up r.val undef w':=by
 unfold YO at hr
 split at hr
 case h_2=>cases hr
 rename_i kt et b es kv' xd hu hom hkv hxd
 split at hr
 case h_2=>cases hr
 rename_i ob o' hkf how
 simp only [jIj] at hr;subst hr
 obtain ⟨hb,rfl,r0,es',c,h1,h2,h3⟩:=ku h hom hm
 have hke:=KH hkv hk
 subst hke
 have hxv:=Uy w (MM F hp ρ) hp ρ x xv xd hxd hx
 obtain ⟨d,hd,hik⟩:=wN hkf
 have hok:=Wo how ho
 have hlt:r0 < w.heap.size:=(Array.getElem?_eq_some_iff.1 h2).1
 have key:∀ (es2:Array MapEntry) (c2:Nat),(Instr.mapUpdate t (.map (some r0)) kv xv).run cx.P w=.ok () { w with heap:=w.heap.setIfInBounds r0 (.map es2 c2) } →
   MR w (MM F hp ρ) (jD kv xd es) es2.toList→∃ w',(Instr.mapUpdate t (ρ b) kv xv).run cx.P w=.ok () w'∧OpOK cx F hp ρ w [(b,.mp (jD kv xd es))] (.d (.v undef)) undef w':=by
  intro es2 c2 hrun hmr
  rw [h1]
  refine ⟨_,hrun,?_⟩
  have hset:=MapKept.heap_set (w:=w) (r:=r0) (o':=Obj.map es2 c2) h2
  obtain ⟨g1,g2⟩:=h.write (b:=b) (k0:=.mp es) (k:=.mp (jD kv xd es)) (v:=ρ b) (r:=r0) (w':={ w with heap:=w.heap.setIfInBounds r0 (.map es2 c2) }) hb rfl (by rw [h1];rfl) (by rw [h1];rfl) (.inr ⟨rfl,rfl⟩)
   ⟨rfl,rfl,rfl,by simp,fun q _ hq=>hset.2 q hq⟩ (fun hst=>by
    refine ⟨r0,es2,c2,by rw [QG];exact h1,hset.1,?_⟩
    exact hmr.ext hst.ext.size (fun q hq hnm=>hst.ext.same q hq fun hmu=>hnm (.inr hmu)) (fun q hq hmm=>hmm.imp id (hst.mt q hq)))
  exact ⟨_,g1,g2,.d _ _ (.v _)⟩
 rcases EK hik es es'.toList 0 h3 hok with ⟨q1,q2,q3⟩ | ⟨j,e,y,q1,q2,q3,q4,q5,q6⟩
 ·refine key (es'.push { key:=kv,val:=xv,born:=c }) (c+1) ?_ ?_
  ·simp [Instr.mapUpdate,Qn hu,MapKept.run_getObj_map h2,MapKept.run_checkKey hd hik,MapKept.run_findKey hd q2,MapKept.run_setObj_map _ h2,Result.andThen]
  ·rw [q3,Array.toList_push]
   exact h3.push _ _ ⟨xd,rfl,hxv⟩
 ·have hj:es'[j]?=some e:=by simpa using q3
  refine key (es'.modify j fun e=>{ e with key:=kv,val:=xv }) c ?_ ?_
  ·simp [Instr.mapUpdate,Qn hu,MapKept.run_getObj_map h2,MapKept.run_checkKey hd hik,MapKept.run_findKey hd q2,hj,q4,MapKept.run_keyThatStays hik,MapKept.run_setObj_map _ h2,Result.andThen]
  ·have hml:(es'.modify j fun e=>{ e with key:=kv,val:=xv }).toList=es'.toList.set j { e with key:=kv,val:=xv }:=by
    apply List.ext_getElem?
    intro i
    rw [Array.getElem?_toList,Array.getElem?_modify,List.getElem?_set,Array.getElem?_toList]
    by_cases hij:j=i
    ·subst hij
     have hjl:j < es'.toList.length:=(jGj q3).1
     simp only [if_true,hj,Option.map_some,jTj hjl]
    ·simp only [jFj hij]
   rw [q6,hml]
   exact h3.set _ _ _ ⟨xd,rfl,hxv⟩
theorem uJ {M:Nat→Prop} {d:TypeDesc} {k:Value} {ok:Bool} {z:Value} {es:jVj} {l:List MapEntry} {x:D} (hk:MapKept.IsKey d k) (h:MR w M es l) (hl:Zi ok k (ofV z) es=some x) :
  ∃ o,Instr.findNow d k l 0=some o∧((o=none∧(if ok then x=.tup [ofV z,.v (.bool false)] else x=ofV z)) ∨ ∃ j v y,o=some (j,v)∧DR w M y v∧(if ok then x=.tup [y,.v (.bool true)] else x=y)):=by
 unfold Zi at hl
 split at hl
 ·cases hl
 rename_i hok
 rcases EK hk es l 0 h hok with ⟨q1,q2,_⟩ | ⟨j,e,y,q1,q2,q3,q4,q5,_⟩
 ·refine ⟨_,q2,.inl ⟨rfl,?_⟩⟩
  rw [q1] at hl
  cases ok <;> simp_all
 ·refine ⟨_,q2,.inr ⟨_,_,y,rfl,q5,?_⟩⟩
  rw [q1] at hl
  cases ok <;> simp_all
theorem yF (h:HSim cx F hp ρ w) {t:TypeId} {m k:AV} {ok:Bool} {mv kv:Value} (hr:XS cx sym orc hp t m k ok=some r) (ho:∀ q,q∈r.ob→q)
  (hm:VR w (MM F hp ρ) hp ρ m mv) (hk:VR w (MM F hp ρ) hp ρ k kv) :
  ∃ v,(Instr.lookup t mv kv ok).run cx.P w=.ok v w∧OpOK cx F hp ρ w r.up r.val v w:=by
 unfold XS at hr
 split at hr
 case h_2=>cases hr
 rename_i kt et b es kv' hu hom hkv
 obtain ⟨hb,rfl,r0,es',c,h1,h2,h3⟩:=ku h hom hm
 have hke:=KH hkv hk
 subst hke
 have key:∀ (z:Value) (x:D),E6 cx kt kv=true→cx.zero et=some z→Zi ok kv (ofV z) es=some x →
   ∃ v,(Instr.lookup t (ρ b) kv ok).run cx.P w=.ok v w∧OpOK cx F hp ρ w [] (.d x) v w:=by
  intro z x hkf hz hx
  obtain ⟨d,hd,hik⟩:=wN hkf
  have hzr:=Y4 hz w
  have hzd:DR w (MM F hp ρ) (ofV z) z:=Qco _ _ z
  obtain ⟨o,q1,q2⟩:=uJ hik h3 hx
  rw [h1]
  rcases q2 with ⟨rfl,q3⟩ | ⟨j,v,y,rfl,q3,q4⟩
  ·cases ok with
   | true =>
    simp only [if_true] at q3;subst q3
    refine ⟨.tuple #[z,.bool false],?_,OpOK.quiet h (.d _ _ ?_)⟩
    ·simp [Instr.lookup,Qn hu,MapKept.run_getObj_map h2,MapKept.run_checkKey hd hik,MapKept.run_findKey hd q1,hzr,Result.andThen]
    ·refine .tup _ [z,.bool false] rfl fun i c y hc hy=>?_
     match i with
     | 0=>cases hc;cases hy;exact hzd
     | 1=>cases hc;cases hy;exact .v _
     | i+2=>simp at hc
   | false =>
    simp only [if_false,Bool.false_eq_true] at q3;subst q3
    refine ⟨z,?_,OpOK.quiet h (.d _ _ hzd)⟩
    simp [Instr.lookup,Qn hu,MapKept.run_getObj_map h2,MapKept.run_checkKey hd hik,MapKept.run_findKey hd q1,hzr,Result.andThen]
  ·cases ok with
   | true =>
    simp only [if_true] at q4;subst q4
    refine ⟨.tuple #[v,.bool true],?_,OpOK.quiet h (.d _ _ ?_)⟩
    ·simp [Instr.lookup,Qn hu,MapKept.run_getObj_map h2,MapKept.run_checkKey hd hik,MapKept.run_findKey hd q1,Result.andThen]
    ·refine .tup _ [v,.bool true] rfl fun i c y hc hy=>?_
     match i with
     | 0=>cases hc;cases hy;exact q3
     | 1=>cases hc;cases hy;exact .v _
     | i+2=>simp at hc
   | false =>
    simp only [if_false,Bool.false_eq_true] at q4;subst q4
    refine ⟨v,?_,OpOK.quiet h (.d _ _ q3)⟩
    simp [Instr.lookup,Qn hu,MapKept.run_getObj_map h2,MapKept.run_checkKey hd hik,MapKept.run_findKey hd q1,Result.andThen]
 split at hr
 ·rename_i z x o' hkf hz _
  simp only [jIj] at hr;subst hr
  exact key z x hkf hz (ho _ jMj)
 ·rename_i z o' hkf hz _
  split at hr
  case h_2=>cases hr
  rename_i x hx
  simp only [jIj] at hr;subst hr
  exact key z x hkf hz hx
 ·cases hr
theorem jE (h:HSim cx F hp ρ w) {name:Nat} (t:TypeId) (hn:look hp name=none):∃ v w',(Instr.makeMap t none).run cx.P w=.ok v w'∧OpOK cx F hp ρ w [(name,.mp [])] (.own name 0) v w':=by
 refine ⟨.map (some w.heap.size),w.alloc (.map #[] 0),rfl,?_⟩
 obtain ⟨g1,g2⟩:=h.freshO (b:=name) (k:=.mp []) (v:=.map (some w.heap.size)) (.map #[] 0) (fun r hr=>by simp only [Q9,jIj] at hr;exact hr.symm) (fun k0 hk0=>by rw [hn] at hk0;cases hk0)
  (fun hst=>⟨w.heap.size,#[],0,QG _ _ _,WJ _ _,trivial⟩)
 exact ⟨_,g1,g2,.own name 0 _ _ (Qd _ _ _) (jLj _) rfl fun _=>(QG _ _ _).symm⟩
theorem HSim.box_frozen (h:HSim cx F hp ρ w) {b:Nat} {x:AV} {ds:jVj} (hb:look hp b=some (.box x)) (hxd:x.toD=some (.agg ds)) :
  HSim cx F ((b,.fbox (.agg ds))::hp) ρ w∧Steps1 hp ρ w ((b,.fbox (.agg ds))::hp) ρ w:=by
 have hmut:∀ q,Mut ((b,.fbox (.agg ds))::hp) ρ q→∃ n k,n≠b∧look hp n=some k∧k.live=true∧Q9 (ρ n)=some q:=by
  rintro q ⟨n,k',hn,hm,hq⟩
  by_cases hnb:n=b
  ·subst hnb;rw [Qd] at hn;cases hn;cases hm
  ·rw [Qc _ _ (Ne.symm hnb)] at hn;exact ⟨n,k',hnb,hn,hm,hq⟩
 have hst:Steps1 hp ρ w ((b,.fbox (.agg ds))::hp) ρ w:=by
  refine ⟨Ext.refl _ _,fun q _ hm=>?_,⟨fun n k1 hn=>?_⟩⟩
  ·obtain ⟨n,k,_,h1,h2,h3⟩:=hmut q hm;exact ⟨n,k,h1,h2,h3⟩
  ·by_cases hnb:n=b
   ·subst hnb;rw [hb] at hn;cases hn;exact ⟨_,Qd _ _ _,jLj _,fun _=>rfl⟩
   ·exact ⟨k1,by rw [Qc _ _ (Ne.symm hnb)];exact hn,jLj _,fun _=>rfl⟩
 have hB:BlkR w (MM F ((b,.fbox (.agg ds))::hp) ρ) ((b,.fbox (.agg ds))::hp) ρ b (.fbox (.agg ds)):=by
  obtain ⟨r,e,v,cs',h1,h2,h3,h4⟩:=h.blk b _ hb
  have hroot:Q9 (ρ b)=some r:=by rw [h1];rfl
  have hlt:r < w.heap.size:=(h.blk b _ hb).root_lt rfl hroot
  refine ⟨r,h1,?_,hlt,fun j c hj=>?_⟩
  ·rintro (hF | hM)
   ·exact h.forb r ⟨b,_,hb,rfl,hroot⟩ hF
   ·obtain ⟨n,k,hnb,g1,g2,g3⟩:=hmut r hM
    exact hnb (h.inj n b k _ r g1 hb g2 rfl g3 hroot)
  ·have hdr:DR w (MM F hp ρ) (.agg ds) v:=Uy w (MM F hp ρ) hp ρ x v _ hxd h4
   obtain ⟨y,hy,hyd⟩:=QbX hdr j c hj
   exact ⟨y,by rw [Nat.zero_add,YD h2];exact hy,hst.dr hyd⟩
 refine ⟨h.step hst (fun n k' hn=>?_) (fun n n' k1 k2 q h1 h2 m1 m2 r1 r2=>?_) (fun q hq=>?_),hst⟩
 ·by_cases hnb:n=b
  ·subst hnb;rw [Qd] at hn;cases hn;exact .inr hB
  ·rw [Qc _ _ (Ne.symm hnb)] at hn;exact .inl ⟨hn,rfl,fun _ _ _=>rfl⟩
 ·have key:∀ n k1,look ((b,Blk.fbox (.agg ds))::hp) n=some k1→k1.live=true→look hp n=some k1:=by
   intro n k1 hn hm
   by_cases hnb:n=b
   ·subst hnb;rw [Qd] at hn;cases hn;cases hm
   ·rw [Qc _ _ (Ne.symm hnb)] at hn;exact hn
  exact h.inj n n' k1 k2 q (key n k1 h1 m1) (key n' k2 h2 m2) m1 m2 r1 r2
 ·obtain ⟨n,k,_,h1,h2,h3⟩:=hmut q hq;exact h.forb q ⟨n,k,h1,h2,h3⟩
theorem Qcj (h:HSim cx F hp ρ w) (b:Nat):HSim cx F (preB hp b) ρ w∧Steps1 hp ρ w (preB hp b) ρ w:=by
 unfold preB
 split
 ·rename_i x hb
  split
  ·rename_i ds hd
   exact h.box_frozen hb hd
  ·exact ⟨h,Steps1.refl _ _ _⟩
 ·exact ⟨h,Steps1.refl _ _ _⟩
theorem ko:∀ (l:List Nat) (hp:List (Nat×Blk)),HSim cx F hp ρ w→HSim cx F (uD hp l) ρ w∧Steps1 hp ρ w (uD hp l) ρ w
 | [],hp,h=>⟨h,Steps1.refl _ _ _⟩
 | b::l,hp,h=>by
  obtain ⟨h1,h2⟩:=Qcj h b
  obtain ⟨h3,h4⟩:=ko l _ h1
  exact ⟨h3,h2.trans h4⟩
theorem kp:∀ (l:List Nat) (hp:List (Nat×Blk)),∃ new,uD hp l=new++hp
 | [],_=>⟨[],rfl⟩
 | b::l,hp=>by
  obtain ⟨n1,e1⟩:=kp l (preB hp b)
  have:∃ n2,preB hp b=n2++hp:=by
   unfold preB
   split
   ·split
    ·exact ⟨[_],rfl⟩
    ·exact ⟨[],rfl⟩
   ·exact ⟨[],rfl⟩
  obtain ⟨n2,e2⟩:=this
  exact ⟨n1++n2,by rw [List.append_assoc,← e2];exact e1⟩
theorem ql:∀ (n s:Nat) (ds:jVj),(zL n s ds).length=n
 | 0,_,_=>rfl
 | n+1,s,ds=>by simp [zL,ql n]
theorem kP:∀ (n s:Nat) (ds:jVj) (i:Nat) (e:D),(zL n s ds)[i]?=some e→e=.agg ((ds.drop (i * s)).take s)∧i < n
 | 0,_,_,i,e,h=>by simp [zL] at h
 | n+1,s,ds,0,e,h=>by
  simp only [zL,List.getElem?_cons_zero,jIj] at h
  subst h;simp
 | n+1,s,ds,i+1,e,h=>by
  simp only [zL,List.getElem?_cons_succ] at h
  obtain ⟨h1,h2⟩:=kP n s (ds.drop s) i e h
  refine ⟨?_,by omega⟩
  rw [h1,List.drop_drop]
  congr 3
  rw [Nat.add_mul,Nat.one_mul,Nat.add_comm]
theorem wt (h:HSim cx F hp ρ w) {t:TypeId} {b ver sz i off:Nat} {whole:Bool} {xv:Value} (hr:EV cx hp orc t b ver sz i off whole=some r) (hx:VR w (MM F hp ρ) hp ρ (.ptr b ver sz i off) xv) :
  whole=true∧∃ v,(Instr.sliceAt t xv none none none).run cx.P w=.ok v w∧OpOK cx F hp ρ w r.up r.val v w:=by
 unfold EV at hr
 split at hr
 case h_2=>cases hr
 rename_i ds up n elem hao hu
 split at hr
 case h_2=>cases hr
 rename_i s hs
 split at hr
 case h_2=>cases hr
 rename_i hc
 simp only [jIj] at hr;subst hr
 simp only [jAj,Nat.blt_eq] at hc
 obtain ⟨⟨⟨⟨⟨⟨⟨c1,c2⟩,c3⟩,c4⟩,c5⟩,c6⟩,c7⟩,c8⟩:=hc
 replace c2:=Nat.eq_of_beq_eq_true c2
 replace c3:=Nat.eq_of_beq_eq_true c3
 replace c4:=Nat.eq_of_beq_eq_true c4
 replace c5:=Nat.eq_of_beq_eq_true c5
 replace c6:=Nat.eq_of_beq_eq_true c6
 subst c2;subst c3;subst c4;subst c5
 refine ⟨c1,?_⟩
 have hpre:HSim cx F (up++hp) ρ w∧Steps1 hp ρ w (up++hp) ρ w∧look (up++hp) b=some (.fbox (.agg ds))∧∃ k,look hp b=some k∧k.ver=0:=by
  unfold Qaj at hao
  split at hao
  ·rename_i ds0 hb
   simp only [jIj,jPj] at hao
   obtain ⟨rfl,rfl⟩:=hao
   exact ⟨h,Steps1.refl _ _ _,hb,_,hb,rfl⟩
  ·rename_i x hb
   split at hao
   ·rename_i ds0 hd
    simp only [jIj,jPj] at hao
    obtain ⟨rfl,rfl⟩:=hao
    obtain ⟨g1,g2⟩:=h.box_frozen hb hd
    exact ⟨g1,g2,Qd _ _ _,_,hb,rfl⟩
   ·cases hao
  ·cases hao
 obtain ⟨g1,g2,hb,k1,hb1,hk1⟩:=hpre
 cases hx with
 | ptr _ _ _ _ _ k _ hb' hv ho hh =>
  rw [hb1] at hb';cases hb'
  obtain ⟨r0,q1,rfl⟩:=hh hk1.symm
  obtain ⟨r1,p1,p2,p3,p4⟩:=g1.blk b _ hb
  rw [p1] at q1
  simp only [Q9,jIj] at q1
  subst q1
  have hone:∀ (j:Nat) (c:D),ds[j]?=some c→∃ x,c=.v x∧one x=true:=by
   intro j c hj
   have:=List.all_eq_true.1 c8 c (List.mem_of_getElem? hj)
   cases c with
   | v x=>exact ⟨x,rfl,this⟩
   | agg _=>cases this
   | tup _=>cases this
   | lst _ _ _=>cases this
   | fn _ _ _=>cases this
   | ref _ _=>cases this
  have hcell:∀ (j:Nat) (x:Value),ds[j]?=some (.v x)→w.cell? ⟨r1,j,none⟩=some x:=by
   intro j x hj
   obtain ⟨y,hy,hyd⟩:=p4 j (.v x) hj
   rw [Nat.zero_add] at hy
   cases hyd
   exact hy
  refine ⟨.slice (some ⟨r1,0,none⟩) n n,?_,⟨_,g1,g2,.d _ _ ?_⟩⟩
  ·have hz:=Zc hs w
   simp [Instr.sliceAt,Qn hu,Instr.sureAddr,Instr.sliceBounds,hz,Result.andThen_ok]
   intro hn
   rw [add_at]
  ·have hgl:(EG s n ds).length=n:=by
    unfold EG
    split
    ·rename_i hs1
     have:=Nat.eq_of_beq_eq_true hs1
     subst this;omega
    ·exact ql n s ds
   have hge:∀ (i:Nat) (e:D),(EG s n ds)[i]?=some e→e.cells=(ds.drop (i * s)).take s∧i < n:=by
    intro i e he
    unfold EG at he
    split at he
    ·rename_i hs1
     have:=Nat.eq_of_beq_eq_true hs1
     subst this
     obtain ⟨x,rfl,_⟩:=hone i e he
     have hi:i < ds.length:=(jGj he).1
     refine ⟨?_,by omega⟩
     rw [Nat.mul_one,List.drop_eq_getElem_cons hi]
     have:=(jGj he).2
     simp [D.cells,this]
    ·obtain ⟨e1,e2⟩:=kP n s ds i e he
     subst e1;exact ⟨rfl,e2⟩
   have hlen:∀ i,i < n→i * s+s≤ds.length:=by
    intro i hi
    rw [c6]
    calc i * s+s=(i+1) * s:=by rw [Nat.add_mul,Nat.one_mul]
     _≤n * s:=Nat.mul_le_mul_right _ hi
   have hcells:∀ (i:Nat) (e:D) (j:Nat) (c:D),(EG s n ds)[i]?=some e→e.cells[j]?=some c→ds[i * s+j]?=some c:=by
    intro i e j c he hj
    obtain ⟨e1,e2⟩:=hge i e he
    rw [e1,List.getElem?_take] at hj
    split at hj
    ·rw [List.getElem?_drop] at hj;exact hj
    ·cases hj
   have key:=DR.lst (w:=w) (M:=MM F (up++hp) ρ) true s (EG s n ds) (some ⟨r1,0,none⟩) n r1 0 (fun j=>(w.cell? ⟨r1,j,none⟩).getD undef) (fun _=>hgl.symm) (by omega) (fun _=>⟨rfl,p2,p3⟩) (fun i e he=>by
     obtain ⟨e1,e2⟩:=hge i e he
     have:=hlen i e2
     rw [e1];simp;omega) (fun i e j c he hj=>by
     have hd:=hcells i e j c he hj
     obtain ⟨x,rfl,ho1⟩:=hone _ c hd
     have:=hcell _ x hd
     simp only [Nat.zero_add,this,Option.getD_some]
     exact ⟨trivial,ho1⟩) (fun i e j c he hj=>by
     have hd:=hcells i e j c he hj
     obtain ⟨x,rfl,ho1⟩:=hone _ c hd
     have:=hcell _ x hd
     simp only [this,Option.getD_some]
     exact .v _)
   rw [hgl] at key
   exact key
theorem uz (h:HSim cx F hp ρ w) {name:Nat} {t:TypeId} {x:AV} {xv:Value} (hr:yX cx hp name orc t x=some r) (hx:VR w (MM F hp ρ) hp ρ x xv) :
  ∃ v w',(Instr.range t xv).run cx.P w=.ok v w'∧OpOK cx F hp ρ w r.up r.val v w':=by
 unfold yX at hr
 split at hr
 case h_2=>cases hr
 rename_i s hu hxv hn
 simp only [jIj] at hr;subst hr
 have hxe:=KH hxv hx
 subst hxe
 refine ⟨.pointer (some ⟨w.heap.size,0,none⟩),w.alloc (.stringIter s 0),?_,?_⟩
 ·simp [Instr.range,Qn hu]
 obtain ⟨g1,g2⟩:=h.freshO (b:=name) (k:=.it s 0) (v:=.pointer (some ⟨w.heap.size,0,none⟩)) (.stringIter s 0) (fun r hr=>by simp only [Q9,jIj] at hr;exact hr.symm) (fun k0 hk0=>by rw [hn] at hk0;cases hk0)
  (fun hst=>⟨w.heap.size,QG _ _ _,WJ _ _⟩)
 exact ⟨_,g1,g2,.own name 0 _ _ (Qd _ _ _) (jLj _) rfl fun _=>(QG _ _ _).symm⟩
theorem Qcl (h:HSim cx F hp ρ w) {m:AV} {b p:Nat} {s:jSj} {mv:Value} (hm:kx hp m=some (b,s,p)) (hx:VR w (MM F hp ρ) hp ρ m mv) :
  look hp b=some (.it s p)∧mv=ρ b∧∃ r,ρ b=.pointer (some ⟨r,0,none⟩)∧w.heap[r]?=some (.stringIter s p):=by
 unfold kx at hm
 split at hm
 case h_2=>cases hm
 rename_i b0 v0
 cases hx with
 | own _ _ kk _ hb hv hone hh =>
  rw [hb] at hm
  split at hm
  case h_2=>cases hm
  rename_i s0 p0 heq
  cases heq
  simp only [jIj,jPj] at hm
  obtain ⟨rfl,rfl,rfl⟩:=hm
  refine ⟨hb,hh ?_,h.blk _ _ hb⟩
  simp only [Blk.ver] at hv ⊢
  omega
theorem QaA (h:HSim cx F hp ρ w) {ty:TypeId} {x:AV} {xv:Value} (hr:Qbq sym orc hp x=some r) (ho:∀ q,q∈r.ob→q) (hx:VR w (MM F hp ρ) hp ρ x xv) :
  ∃ v w',(Instr.next xv true ty).run cx.P w=.ok v w'∧OpOK cx F hp ρ w r.up r.val v w':=by
 unfold Qbq at hr
 split at hr
 case h_2=>cases hr
 rename_i b s p hit
 obtain ⟨hb,rfl,r0,h1,h2⟩:=Qcl h hit hx
 have key1:p < s.size→∃ v w',(Instr.next (ρ b) true ty).run cx.P w=.ok v w'∧OpOK cx F hp ρ w [(b,.it s (p+(Utf8.decode s p).2))] (.d (Qcr s p)) v w':=by
  intro hp
  refine ⟨.tuple #[.bool true,.int .i64 (p:Int),.int .i32 ((Utf8.decode s p).1:Int)],{ w with heap:=w.heap.setIfInBounds r0 (.stringIter s (p+(Utf8.decode s p).2)) },?_,?_⟩
  ·rw [h1]
   simp [Instr.next,getObj,setObj,Sem.run,h2,hp,goInt,Result.andThen]
  have hset:=MapKept.heap_set (w:=w) (r:=r0) (o':=Obj.stringIter s (p+(Utf8.decode s p).2)) h2
  obtain ⟨g1,g2⟩:=h.write (b:=b) (k0:=.it s p) (k:=.it s (p+(Utf8.decode s p).2)) (v:=ρ b) (r:=r0) (w':={ w with heap:=w.heap.setIfInBounds r0 (.stringIter s (p+(Utf8.decode s p).2)) }) hb rfl (by rw [h1];rfl) (by rw [h1];rfl) (.inr ⟨rfl,rfl⟩)
   ⟨rfl,rfl,rfl,by simp,fun q _ hq=>hset.2 q hq⟩ (fun hst=>by
    refine ⟨r0,by rw [QG];exact h1,hset.1⟩)
  exact ⟨_,g1,g2,.d _ _ (.tup _ [.bool true,.int .i64 (p:Int),.int .i32 ((Utf8.decode s p).1:Int)] rfl fun i c y hc hy=>by
   match i with
   | 0=>cases hc;cases hy;exact .v _
   | 1=>cases hc;cases hy;exact .v _
   | 2=>cases hc;cases hy;exact .v _
   | i+3=>simp at hc)⟩
 have key2:¬ p < s.size→∃ v w',(Instr.next (ρ b) true ty).run cx.P w=.ok v w'∧OpOK cx F hp ρ w [] (.d (.tup [.v (.bool false)])) v w':=by
  intro hp
  refine ⟨.tuple #[.bool false],w,?_,OpOK.quiet h (.d _ _ (.tup _ [.bool false] rfl fun i c y hc hy=>?_))⟩
  ·rw [h1]
   simp [Instr.next,getObj,Sem.run,h2,hp,Result.andThen]
  ·match i with
   | 0=>cases hc;cases hy;exact .v _
   | i+1=>simp at hc
 split at hr
 ·simp only [jIj] at hr;subst hr
  exact key1 (ho _ jMj)
 ·simp only [jIj] at hr;subst hr
  exact key2 (ho _ jMj)
 ·split at hr
  ·rename_i hd
   simp only [jIj] at hr;subst hr
   exact key1 (of_decide_eq_true hd)
  ·rename_i hd
   simp only [jIj] at hr;subst hr
   exact key2 (of_decide_eq_false hd)
 ·cases hr
theorem jy {M:Nat→Prop} {y v:Value} (h:VR w M hp ρ (.d (.v y)) v):v=y:=by
 cases h with
 | d _ _ h=>cases h;rfl
theorem uG {hev:∀ x,VR w (MM F hp ρ) hp ρ (ev x) (re x)} {lo:Option Operand} {l:Option Value} (h:optV (lo.map ev)=some l):lo.map re=l:=by
 cases lo with
 | none=>simp only [Option.map_none,optV,jIj] at h;subst h;rfl
 | some x =>
  simp only [Option.map_some,optV] at h
  split at h <;> simp only [jIj,reduceCtorEq] at h
  rename_i v hv
  subst h
  simp only [Option.map_some,jIj]
  exact KH hv (hev x)
theorem UA {hev:∀ x,VR w (MM F hp ρ) hp ρ (ev x) (re x)} {lo:Option Operand} {d n:Int} (h:Ua (lo.map ev) d=some n):(lo.map re=none∧n=d) ∨ ∃ k,lo.map re=some (.int k n):=by
 cases lo with
 | none=>simp only [Option.map_none,Ua,jIj] at h;exact .inl ⟨rfl,h.symm⟩
 | some x =>
  have hx:=hev x
  simp only [Option.map_some] at h ⊢
  cases hex:ev x with
  | d q =>
   rw [hex] at h hx
   cases q with
   | v y =>
    cases y with
    | int k m =>
     simp only [Ua,jIj] at h;subst h
     exact .inr ⟨k,by rw [jy hx]⟩
    | _=>simp [Ua] at h
   | _=>simp [Ua] at h
  | _=>rw [hex] at h;simp [Ua] at h
theorem VK {P:Program} {k:IntKind} {i:Int} {y:Nat} (h0:0≤i) (h1:i≤(y:Int)) (c:BoundsCode) (w:World):(Instr.sliceBound (.int k i) y c).run P w=.ok i.toNat w:=by
 simp [Instr.sliceBound,asIntOf,h0,h1]
theorem jM (h:HSim cx F hp ρ w) (hev:∀ x,VR w (MM F hp ρ) hp ρ (ev x) (re x)) {t:TypeId} {x:Operand} {lo hi mx:Option Operand} (hr:Yq cx sym orc hp t (ev x) (lo.map ev) (hi.map ev) (mx.map ev)=some r) (ho:∀ q,q∈r.ob→q) :
  ∃ v,(Instr.sliceAt t (re x) (lo.map re) (hi.map re) (mx.map re)).run cx.P w=.ok v w∧OpOK cx F hp ρ w r.up r.val v w:=by
 have hx:=hev x
 unfold Yq at hr
 split at hr
 case h_2=>cases hr
 rename_i o b ver _ hex hlo hmx
 split at hr
 case h_2=>cases hr
 rename_i ver' sz es hb
 split at hr
 case h_2=>cases hr
 rename_i elem k hu hbq hk
 split at hr
 case h_2=>cases hr
 rename_i s ob o' hs how
 split at hr
 case h_2=>cases hr
 rename_i hsz
 simp only [jIj] at hr;subst hr
 have e1:=Nat.eq_of_beq_eq_true hbq
 have e2:=Nat.eq_of_beq_eq_true hsz
 subst e1;subst e2
 obtain ⟨b1,b2⟩:=Wo how ho
 have e3:mx.map re=none:=by cases mx <;> simp_all
 have e4:lo.map re=none:=by cases lo <;> simp_all
 rw [e3,e4]
 rw [hex] at hx
 have hk2:=UA (hev:=hev) hk
 obtain ⟨kd,hk3⟩:∃ kd,hi.map re=some (.int kd k):=by
  rcases hk2 with ⟨_,e⟩ | e
  ·omega
  ·exact e
 rw [hk3]
 cases hx with
 | own _ _ kk _ hb' hv hone hh =>
  rw [hb] at hb';cases hb'
  rw [hh rfl]
  have h1:=Qn hu w
  have h2:=Zc hs w
  rcases h.blk b _ hb with ⟨rfl,a0,q1⟩ | ⟨r0,c,e,cap,q1,⟨q2,hcap⟩,q3,q4,q5,q6⟩
  ·have hk0:k=0:=by simp at b2;omega
   subst hk0
   rw [q1]
   obtain ⟨g1,g2⟩:=h.renew hb q1
   refine ⟨.slice a0 0 0,?_,⟨Vl ρ b (.slice a0 0 0),g1,g2,.own b (ver+1) _ _ (Qd _ _ _) (jLj _) rfl fun _=>(QG _ _ _).symm⟩⟩
   have h3:=VK (P:=cx.P) (k:=kd) (i:=0) (y:=0) (by omega) (by omega) .sliceAcap w
   simp [Instr.sliceAt,Instr.slice,Sem.run_bind,h1,Instr.sliceBounds,h3,h2,Result.andThen_ok]
  ·rw [q1]
   have hkl:(es.take k.toNat).length=k.toNat:=by simp;omega
   obtain ⟨g1,g2⟩:=h.write (b:=b) (k:=.row (ver+1) s (es.take k.toNat)) (v:=.slice (some ⟨r0,0,none⟩) k.toNat cap) hb rfl (r:=r0) (by rw [q1];exact Zl hcap) (Zl hcap)
    (.inl (Nat.lt_succ_self _)) ⟨rfl,rfl,rfl,jLj _,fun _ _ _=>rfl⟩ (fun hst=>by
     have hrin:RowIn w (MM F hp ρ) s (es.take k.toNat) c:=by
      refine ⟨fun i d hd=>q5 i d ?_,fun i d j a hd ha=>q6 i d j a ?_ ha⟩ <;> (rw [List.getElem?_take] at hd;split at hd;exact hd;cases hd)
     have hr3:=hrin.mono (w':=w) (M':=MM F ((b,Blk.row (ver+1) s (es.take k.toNat))::hp) (Vl ρ b (.slice (some ⟨r0,0,none⟩) k.toNat cap))) (fun x y hd=>hst.dr hd)
     exact .inr ⟨r0,c,e,cap,by rw [QG,hkl],⟨by rw [hkl];omega,hcap⟩,q3,q4,hr3.1,hr3.2⟩)
   refine ⟨.slice (some ⟨r0,0,none⟩) k.toNat cap,?_,⟨_,g1,g2,.own b (ver+1) _ _ (Qd _ _ _) (jLj _) rfl fun _=>(QG _ _ _).symm⟩⟩
   have h3:=VK (P:=cx.P) (k:=kd) (i:=k) (y:=cap) (by omega) (by omega) .sliceAcap w
   simp [Instr.sliceAt,Instr.slice,Sem.run_bind,h1,Instr.sliceBounds,h3,h2,Result.andThen_ok]
   intro _;rw [add_at]
theorem QaX (h:HSim cx F hp ρ w) (hev:∀ x,VR w (MM F hp ρ) hp ρ (ev x) (re x)) {t:TypeId} {x:Operand} {lo hi mx:Option Operand} (hr:zX cx sym orc hp t (ev x) (lo.map ev) (hi.map ev) (mx.map ev)=some r) (ho:∀ q,q∈r.ob→q) :
  ∃ v,(Instr.sliceAt t (re x) (lo.map re) (hi.map re) (mx.map re)).run cx.P w=.ok v w∧OpOK cx F hp ρ w r.up r.val v w:=by
 have hx:=hev x
 unfold zX at hr
 split at hr
 case h_2=>cases hr
 rename_i o b ver kd l ho1 hex hlo hhi hmx
 split at hr
 case h_2=>cases hr
 rename_i ver' sz es hb
 split at hr
 case h_2=>cases hr
 rename_i elem hu hbq
 split at hr
 case h_2=>cases hr
 rename_i s ob o' hs hd
 split at hr
 case h_2=>cases hr
 rename_i hsz
 simp only [jIj] at hr;subst hr
 have e1:=Nat.eq_of_beq_eq_true hbq
 have e2:=Nat.eq_of_beq_eq_true hsz
 subst e1;subst e2
 obtain ⟨b1,b2⟩:=Wo hd ho
 have e3:mx.map re=none:=by cases mx <;> simp_all
 have e4:hi.map re=none:=by cases hi <;> simp_all
 have e5:lo.map re=some (.int kd l):=by
  cases lo with
  | none=>simp at hlo
  | some q =>
   simp only [Option.map_some,jIj] at hlo ⊢
   have:=hev q
   rw [hlo] at this
   exact jy this
 rw [e3,e4,e5]
 rw [hex] at hx
 cases hx with
 | own _ _ kk _ hb' hv hone hh =>
  rw [hb] at hb';cases hb'
  rw [hh rfl]
  have h1:=Qn hu w
  have h2:=Zc hs w
  rcases h.blk b _ hb with ⟨rfl,a0,q1⟩ | ⟨r0,c,e,cap,q1,⟨q2,hcap⟩,q3,q4,q5,q6⟩
  ·simp at b2;omega
  ·rw [q1]
   refine ⟨.slice (some ⟨r0,l.toNat * s,none⟩) (es.length - l.toNat) (cap - l.toNat),?_,OpOK.quiet h (.sub b ver s l.toNat (es.length - l.toNat) _ _ hb (jLj _) rfl fun _=>⟨r0,_,by rw [q1];exact Zl hcap,rfl⟩)⟩
   have h3:=VK (P:=cx.P) (k:=kd) (i:=l) (y:=es.length) b1 (by omega) .sliceB w
   have hne:¬ cap=l.toNat:=by omega
   simp [Instr.sliceAt,Instr.slice,Sem.run_bind,h1,Instr.sliceBounds,h3,h2,Result.andThen_ok,hne,add_at]
theorem Qdc {hi:Option AV} {es:jVj} {h l:Int} (hh:Ua hi es.length=some h):cutD (isNo hi) es h l=(es.take h.toNat).drop l.toNat:=by
 cases hi with
 | none =>
  simp only [Ua,jIj] at hh
  subst hh
  simp [cutD,isNo]
 | some a=>rfl
theorem yU (h:HSim cx F hp ρ w) (hev:∀ x,VR w (MM F hp ρ) hp ρ (ev x) (re x)) {t:TypeId} {x:Operand} {lo hi mx:Option Operand} (hr:J2 cx sym orc hp t (ev x) (lo.map ev) (hi.map ev) (mx.map ev)=some r) (ho:∀ q,q∈r.ob→q) :
  ∃ v,(Instr.sliceAt t (re x) (lo.map re) (hi.map re) (mx.map re)).run cx.P w=.ok v w∧OpOK cx F hp ρ w r.up r.val v w:=by
 have hx:=hev x
 unfold J2 at hr
 split at hr
 ·rename_i s hex
  split at hr
  case h_2=>cases hr
  rename_i l hh hmx hl hh'
  rw [hex] at hx
  have e1:=uG (hev:=hev) hl
  have e2:=uG (hev:=hev) hh'
  have e3:mx.map re=none:=by cases mx <;> simp_all
  rw [e1,e2,e3,jy hx]
  exact zA h hr ho
 ·split at hr
  case h_3=>cases hr
  case h_2 =>
   rename_i elem m0 full sz es fs hu hmx hd
   split at hr
   case h_2=>cases hr
   rename_i s l hh m hs hl hh' hm'
   split at hr
   case h_2=>cases hr
   rename_i ob o' how
   simp only [jIj] at hr;subst hr
   obtain ⟨b1,b2,b3,b5,b4⟩:=Wo how ho
   have hdr:=Wu h fs _ _ _ fs hd (fun _ h=>h) hx
   rw [← hmx] at hm'
   have hm2:=UA (hev:=hev) hm'
   have hl2:=UA (hev:=hev) hl
   have hh2:=UA (hev:=hev) hh'
   obtain ⟨km,m1⟩:∃ k,mx.map re=some (.int k m):=by
    rcases hm2 with ⟨e,_⟩ | e
    ·cases mx <;> simp_all
    ·exact e
   obtain ⟨kh,h1⟩:∃ k,hi.map re=some (.int k hh):=by
    rcases hh2 with ⟨_,e⟩ | e
    ·omega
    ·exact e
   generalize re x=xv at hdr ⊢
   cases hdr with
   | lst _ _ _ a cap blk off ys hf hc ha hs' hw hd' =>
    have hb:(Instr.sliceBounds true es.length cap (lo.map re) (hi.map re) (mx.map re)).run cx.P w=.ok (l.toNat,hh.toNat,m.toNat) w:=by
     have h3:=VK (P:=cx.P) (k:=km) (i:=m) (y:=cap) (by omega) (by omega) .slice3Acap w
     have h4:=VK (P:=cx.P) (k:=kh) (i:=hh) (y:=m.toNat) (by omega) (by omega) .slice3B w
     rcases hl2 with ⟨l1,l2⟩ | ⟨k',l1⟩
     ·have l3:l.toNat=0:=by rw [l2];rfl
      simp [Instr.sliceBounds,h1,l1,m1,h3,h4,l3,Result.andThen_ok]
     ·have h5:=VK (P:=cx.P) (k:=k') (i:=l) (y:=hh.toNat) (by omega) (by omega) .slice3C w
      simp [Instr.sliceBounds,h1,l1,m1,h3,h4,h5,Result.andThen_ok]
    have h1':=Qn hu w
    have h2:=Zc hs w
    refine ⟨.slice (if m.toNat=l.toNat then a else a.map (·.add (l.toNat * s))) (hh.toNat - l.toNat) (m.toNat - l.toNat),?_,?_⟩
    ·simp only [Instr.sliceAt,Instr.slice,Sem.run_bind,h1',Result.andThen_ok,hb,h2,Sem.run_pure]
    ·refine OpOK.frz h fs (.d _ _ ?_)
     have hlen:((es.take hh.toNat).drop l.toNat).length=hh.toNat - l.toNat:=by simp;omega
     have hidx:∀ (i:Nat) (e:D),((es.take hh.toNat).drop l.toNat)[i]?=some e→es[l.toNat+i]?=some e:=by
      intro i e he
      rw [List.getElem?_drop,List.getElem?_take] at he
      split at he
      ·exact he
      ·cases he
     have key:=DR.lst (w:=w) (M:=MM F (Qe hp fs++hp) ρ) (decide (hh=m)) sz ((es.take hh.toNat).drop l.toNat) (if m.toNat=l.toNat then a else a.map (·.add (l.toNat * s))) (m.toNat - l.toNat) blk (off+l.toNat * sz)
      (fun k=>ys (l.toNat * sz+k)) (fun h=>by have:=of_decide_eq_true h;omega) (by omega)
      (fun hne=>by
       have hne2:es≠[]:=by rintro rfl;simp at hne
       obtain ⟨g1,g2,g3⟩:=ha hne2
       have hss:sz=s:=by
        rcases b4 with e | e
        ·exact absurd e hne2
        ·exact e
       subst hss
       have hpos:0 < ((es.take hh.toNat).drop l.toNat).length:=List.length_pos_iff.2 hne
       refine ⟨?_,g2,g3⟩
       rw [jFj (by omega),g1]
       simp [add_at])
      (fun i e he=>hs' _ e (hidx i e he))
      (fun i e j c he hj=>by
       have:=hw _ e j c (hidx i e he) hj
       rw [Nat.add_mul,Nat.add_assoc] at this
       rw [Nat.add_assoc];exact this)
      (fun i e j c he hj=>by
       have:=hd' _ e j c (hidx i e he) hj
       rw [Nat.add_mul,Nat.add_assoc] at this
       exact this)
     rw [hlen] at key
     exact key
  rename_i elem full sz es fs hu hmx hd
  split at hr
  case h_2=>cases hr
  rename_i s l hh hs hl hh'
  split at hr
  case h_2=>cases hr
  rename_i ob o' how
  simp only [jIj] at hr;subst hr
  rw [Qdc hh']
  obtain ⟨b1,b2,b3,b4⟩:=Wo how ho
  have hdr:=Wu h fs _ _ _ fs hd (fun _ h=>h) hx
  have e3:mx.map re=none:=by cases mx <;> simp_all
  rw [e3]
  generalize re x=xv at hdr ⊢
  cases hdr with
  | lst _ _ _ a cap blk off ys hf hc ha hs' hw hd' =>
   have hl2:=UA (hev:=hev) hl
   have hh2:=UA (hev:=hev) hh'
   have hb:(Instr.sliceBounds true es.length cap (lo.map re) (hi.map re) none).run cx.P w=.ok (l.toNat,hh.toNat,cap) w:=by
    rcases hh2 with ⟨h1,h2⟩ | ⟨k,h1⟩ <;> rcases hl2 with ⟨l1,l2⟩ | ⟨k',l1⟩
    ·subst h2;subst l2;simp [Instr.sliceBounds,h1,l1]
    ·subst h2
     have:l≤(es.length:Int):=by omega
     simp [Instr.sliceBounds,h1,l1,Instr.sliceBound,asIntOf,b1,this]
    ·subst l2
     have h3:0≤hh:=by omega
     have h4:hh≤(cap:Int):=by omega
     simp [Instr.sliceBounds,h1,l1,Instr.sliceBound,asIntOf,h3,h4]
    ·have h3:0≤hh:=by omega
     have h4:hh≤(cap:Int):=by omega
     have h5:l≤((hh.toNat:Nat):Int):=by omega
     simp [Instr.sliceBounds,h1,l1,Instr.sliceBound,asIntOf,h3,h4,b1]
     omega
   have h1:=Qn hu w
   have h2:=Zc hs w
   refine ⟨.slice (if cap=l.toNat then a else a.map (·.add (l.toNat * s))) (hh.toNat - l.toNat) (cap - l.toNat),?_,?_⟩
   ·simp only [Instr.sliceAt,Instr.slice,Sem.run_bind,h1,Result.andThen_ok,hb,h2,Sem.run_pure]
   ·refine OpOK.frz h fs (.d _ _ ?_)
    have hlen:((es.take hh.toNat).drop l.toNat).length=hh.toNat - l.toNat:=by simp;omega
    have hidx:∀ (i:Nat) (e:D),((es.take hh.toNat).drop l.toNat)[i]?=some e→es[l.toNat+i]?=some e:=by
     intro i e he
     rw [List.getElem?_drop,List.getElem?_take] at he
     split at he
     ·exact he
     ·cases he
    have key:=DR.lst (w:=w) (M:=MM F (Qe hp fs++hp) ρ) (decd sym orc && (full && decide (hh=(es.length:Int)))) sz ((es.take hh.toNat).drop l.toNat) (if cap=l.toNat then a else a.map (·.add (l.toNat * s))) (cap - l.toNat) blk (off+l.toNat * sz)
     (fun k=>ys (l.toNat * sz+k)) (fun h=>by
      simp only [jAj,decide_eq_true_eq] at h
      have:=hf h.2.1
      omega) (by omega)
     (fun hne=>by
      have hne2:es≠[]:=by rintro rfl;simp at hne
      obtain ⟨g1,g2,g3⟩:=ha hne2
      have hss:sz=s:=by
       rcases b4 with e | e
       ·exact absurd e hne2
       ·exact e
      subst hss
      have hpos:0 < ((es.take hh.toNat).drop l.toNat).length:=List.length_pos_iff.2 hne
      refine ⟨?_,g2,g3⟩
      rw [jFj (by omega),g1]
      simp [add_at])
     (fun i e he=>hs' _ e (hidx i e he))
     (fun i e j c he hj=>by
      have:=hw _ e j c (hidx i e he) hj
      rw [Nat.add_mul,Nat.add_assoc] at this
      rw [Nat.add_assoc];exact this)
     (fun i e j c he hj=>by
      have:=hd' _ e j c (hidx i e he) hj
      rw [Nat.add_mul,Nat.add_assoc] at this
      exact this)
    rw [hlen] at key
    exact key
end
end Go.SX
