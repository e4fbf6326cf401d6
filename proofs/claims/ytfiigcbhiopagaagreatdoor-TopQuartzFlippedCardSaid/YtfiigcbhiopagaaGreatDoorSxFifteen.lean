/- Own texts. -/
import Derived.Test.YtfiigcbhiopagaaGreatDoorSxEight
import Derived.Maps.RangeRun
import Derived.MapKept
import Derived.Scope
import Derived.Orders
import Derived.OrdersIn
import Derived.RangeFuncLeaves
import Derived.RangeFuncRecord
import Derived.RangeFuncCalls
set_option linter.unusedVariables false
set_option linter.unusedSimpArgs false
set_option linter.unnecessarySimpa false
set_option linter.unusedSectionVars false
namespace Go.SX
variable [DrawMode]
section
variable {cx:Cx} {F:Nat→Prop} {hp:List (Nat×Blk)} {ρ:Nat→Value} {w:World} {re:Operand→Value} {ev:Operand→AV} {sym:Bool} {orc:List Orc} {r:R}
theorem wS (h:HSim cx F hp ρ w) {name:Nat} {t elem:TypeId} {n m:Int} {kn km:IntKind} {s b:Nat} {z:Value} (hu:cx.P.underlying t=some (.slice elem)) (hs:cx.sz elem=some s) (hz:cx.zero elem=some z) (hb:cx.bytes elem=some b)
  (hname:look hp name=none) (hok:GM cx elem s=true) (hc:0≤n∧n≤m∧b * m≤281474976710656∧m≤9223372036854775807) :
  ∃ v w',(Instr.makeSlice t (.int kn n) (.int km m)).run cx.P w=.ok v w'∧OpOK cx F hp ρ w [(name,.row 0 s (List.replicate n.toNat (ofV z)))] (.own name 0) v w':=by
 have hi:∃ i,cx.P.info? elem=some i∧i.bytes=b∧i.size=s∧i.zero=some z:=by
  unfold Cx.bytes at hb
  unfold Cx.sz at hs
  unfold Cx.zero at hz
  split at hb
  ·rename_i i hi;rw [hi] at hs hz;exact ⟨i,hi,by simpa using hb,by simpa using hs,hz⟩
  ·cases hb
 obtain ⟨i,hi,rfl,rfl,hz'⟩:=hi
 obtain ⟨z',hz2,hzs,hzo⟩:=Jk hok
 rw [hz] at hz2;cases hz2
 refine ⟨_,_,run_make w t elem i z hu hi hz' kn km n m hc.1 hc.2.1 hc.2.2.1 hc.2.2.2,?_⟩
 have hcell:∀ (j:Nat) (a:D),(ofV z).cells[j]?=some a→∃ y,z.cells[j]?=some y∧one y=true∧∀ M,DR w M a y:=by
  intro j a hj
  have hlen:=KK z
  have hjl:j < z.cells.size:=by
   have:=(List.getElem?_eq_some_iff.1 hj).1;simpa using (hlen ▸ (by simpa using this):j < z.cells.size)
  refine ⟨z.cells[j],by simp [hjl],hzo _ (by simp),fun M=>?_⟩
  have:=UW (hp:=[]) (ρ:=fun _=>undef) (F:=M) (w:=w) z j (.d a) z.cells[j] (by simp [hj]) (by simp [hjl])
  cases this
  rename_i hd
  exact hd.ext (Nat.le_refl _) (fun _ _ _=>rfl) (fun _ _ hm=>.inl hm)
 have hcl:(ofV z).cells.length=i.size:=by have:=KK z;simpa [hzs] using this
 obtain ⟨g1,g2⟩:=h.fresh (b:=name) (k:=.row 0 i.size (List.replicate n.toNat (ofV z))) (v:=.slice (some ⟨w.heap.size,0,none⟩) n.toNat m.toNat)
  (madeCells z.cells (m.toNat * i.size)) elem (fun r hr=>by
    by_cases hm0:m.toNat=0
    ·rw [hm0,Zv] at hr;cases hr
    ·rw [QC (by omega)] at hr;exact (Option.some.inj hr).symm) (fun k0 hk0=>by rw [hname] at hk0;cases hk0) (fun hst=>by
   by_cases hm0:m.toNat=0
   ·have hn0:n.toNat=0:=by omega
    exact .inl ⟨by rw [hn0];rfl,some ⟨w.heap.size,0,none⟩,by rw [Qo,hm0,hn0]⟩
   refine .inr ⟨w.heap.size,_,elem,m.toNat,by rw [Qo,List.length_replicate],⟨by rw [List.length_replicate];omega,by omega⟩,by rw [size_madeCells];exact Nat.le_refl _,Q7 _ _,fun k d hd=>?_,fun k d j a hd ha=>?_⟩
   ·rw [List.getElem?_replicate] at hd
    split at hd <;> simp only [Option.some.injEq,reduceCtorEq] at hd
    subst hd;exact hcl
   ·rw [List.getElem?_replicate] at hd
    split at hd <;> simp only [Option.some.injEq,reduceCtorEq] at hd
    rename_i hk
    subst hd
    obtain ⟨y,y1,y2,y3⟩:=hcell j a ha
    have hjl:j < i.size:=by have:=(List.getElem?_eq_some_iff.1 ha).1;omega
    refine ⟨y,?_,y2,hst.dr (F:=F) (y3 _)⟩
    have hlt:k * i.size+j < m.toNat * i.size:=V5 (by omega) hjl
    have hmod:(k * i.size+j) % z.cells.size=j:=by rw [hzs,Nat.mul_comm,Nat.mul_add_mod];exact Nat.mod_eq_of_lt hjl
    rw [madeCells,Array.getElem?_map,Array.getElem?_range,if_pos hlt,Option.map_some,hmod,getElem!_def,y1])
 exact ⟨_,g1,g2,.own name 0 _ _ (Qd _ _ _) (Nat.le_refl _) rfl fun _=>(Qo _ _ _).symm⟩
theorem uP (h:HSim cx F hp ρ w) (hev:∀ x,VR w (MM F hp ρ) hp ρ (ev x) (re x)) {t:TypeId} {len name:Nat} {parts:Array (Nat×Operand)} {orc:List Orc} {r:R}
  (hr:uQ cx hp name t len (parts.toList.map fun p=>(p.1,ev p.2)) orc=some r) :
  ∃ v w',(Instr.buildSlice t len (parts.map fun (i,x)=>(i,re x))).run cx.P w=.ok v w'∧OpOK cx F hp ρ w r.up r.val v w':=by
 unfold uQ at hr
 split at hr
 case h_2=>cases hr
 rename_i elem hu hname
 split at hr
 case h_2=>cases hr
 rename_i s z hs hz
 split at hr
 case h_2=>cases hr
 rename_i es hl
 split at hr
 case h_2=>cases hr
 rename_i hc
 simp only [Bool.and_eq_true] at hc
 simp only [Option.some.injEq] at hr;subst hr
 have hle:=Nat.le_of_ble_eq_true hc.1.1
 have hlen:parts.toList.length=len:=by simpa using Q6 hc.1.2
 have hpos:0 < len:=by simpa using hc.2
 obtain ⟨p1,p2⟩:=E9 hev parts.toList
 have hpt:(parts.map fun (p:Nat×Operand)=>(p.1,re p.2)).toList=parts.toList.map fun p=>(p.1,re p.2):=by simp
 let zc:Array Value:=if len * s=0 then #[] else z.cells
 obtain ⟨C',g1,g2,g3,g4,g5⟩:=G0 h [] _ _ 0 es [] ((Array.range (len * s)).map (zc[· % zc.size]!)) hl (fun _ h=>h) p1 p2 (by simp [hlen])
 have hel:es.length=len:=by rw [g4];simpa using hlen
 refine ⟨.slice (some ⟨w.heap.size,0,none⟩) len len,w.alloc (.cells C' elem),?_,?_⟩
 ·simp only [Instr.buildSlice,Sem.run_bind,Qh hu,Result.andThen_ok,QB hs]
  rw [if_neg (by omega)]
  by_cases h0:len * s=0
  ·have hz0:zc=#[]:=by simp [zc,h0]
   rw [hz0] at g1
   rw [if_pos h0]
   simp only [Sem.run_bind,Sem.run_pure,Result.andThen_ok]
   rw [hpt,g1]
   simp only [newRow,Sem.run_bind,run_newObj,Result.andThen_ok,Sem.run_pure,World.alloc_eq]
  ·have hz0:zc=z.cells:=by simp [zc,h0]
   rw [hz0] at g1
   rw [if_neg h0]
   simp only [Sem.run_bind,Sem.run_pure,VZ hz,Result.andThen_ok]
   rw [hpt,g1]
   simp only [newRow,Sem.run_bind,run_newObj,Result.andThen_ok,Sem.run_pure,World.alloc_eq]
 ·obtain ⟨k1,k2⟩:=h.fresh (b:=name) (k:=.row 0 s es) (v:=.slice (some ⟨w.heap.size,0,none⟩) len len) C' elem
   (fun r hr=>by rw [QC hpos] at hr;exact (Option.some.inj hr).symm) (fun k0 hk0=>by rw [hname] at hk0;cases hk0)
   (fun hst=>.inr ⟨w.heap.size,_,elem,len,by rw [Qo,hel],⟨by omega,hpos⟩,by rw [g2];simp,Q7 _ _,fun k d hd=>(g5 k d hd).1,fun k d j a hd ha=>by
    obtain ⟨y,y1,y2,y3⟩:=(g5 k d hd).2 j a ha
    rw [Nat.zero_add] at y1
    exact ⟨y,y1,y2,hst.dr (F:=F) y3⟩⟩)
  exact ⟨_,k1,k2,.own name 0 _ _ (Qd _ _ _) (Nat.le_refl _) rfl fun _=>(Qo _ _ _).symm⟩
theorem X1 (zc:Array Value) (n i:Nat) (h:i < n * zc.size):(Builtin.zeroCells zc n)[i]?=some (zc[i % zc.size]!):=by
 unfold Builtin.zeroCells
 rw [Array.getElem?_map]
 have:(Array.range (n * zc.size))[i]?=some i:=by simp [h]
 rw [this];rfl
theorem Qe0 {t t2 elem:TypeId} {k2:IntKind} {sz b:Nat} {z:Value} {ats:List TypeId} {ty:TypeId} (hu:cx.P.underlying t=some (.slice elem)) (hu2:cx.P.underlying t2=some (.int k2)) (hs:cx.sz elem=some sz) (hb:cx.bytes elem=some b)
  (hz:cx.zero elem=some z) (hsz:0 < sz) {a:Option Addr} {m:Int} (hm:0 < m) (hroom:m.toNat * b≤140737488355328∧0 < b) :
  ∃ nc,m.toNat≤nc∧(Builtin.append_ (t::t2::ats).toArray ty #[.slice a 0 0,.int .i64 m]).run cx.P w =
    .ok (.slice (some ⟨w.heap.size,0,none⟩) m.toNat nc) (w.drew.alloc (.cells (Builtin.zeroCells z.cells m.toNat++Builtin.zeroCells z.cells (nc - m.toNat)) elem)):=by
 have hi:∃ i,cx.P.info? elem=some i∧i.bytes=b:=by
  unfold Cx.bytes at hb
  split at hb
  ·rename_i i hi;exact ⟨i,hi,by simpa using hb⟩
  ·cases hb
 obtain ⟨i,hi,hib⟩:=hi
 obtain ⟨n,rfl⟩:∃ n:Nat,m=(n:Int):=⟨m.toNat,by omega⟩
 simp only [Int.toNat_natCast] at hroom ⊢
 have hn:0 < n:=by omega
 have hsmall:n≤140737488355328:=by
  calc n=n * 1:=by omega
   _≤n * b:=Nat.mul_le_mul_left _ hroom.2
   _≤_:=hroom.1
 have hw:IntKind.i64.wrap (n:Int)=(n:Int):=by rw [IntKind.wrap_i64];omega
 have h1:∀ w' : World,(Builtin.firstCells sz 0 (.slice a 0 0)).run cx.P w'=.ok #[] w':=by
  intro w'
  cases a with
  | none=>simp [Builtin.firstCells]
  | some a=>simp [Builtin.firstCells,loadCells,loadCellsFrom]
 have h2:=QB hs w
 have h3:=Qh hu w
 have h4:=Qh hu2 w
 have h5:=growslice_fits (need:=n) (old:=0) (bytes:=b) (by omega) hroom.1
 have h6:=Ur hi w
 have h6':=Ur hi w.drew
 have h7:=VZ hz w.drew
 refine ⟨grownCap w n 0 elem,by simpa using grownCap_ge w n 0 elem,?_⟩
 have hbig:¬ (9223372036854775807 < (n:Int)):=by omega
 subst hib
 have h8:¬ (281474976710656 < Builtin.nextslicecap n 0 * i.bytes):=by omega
 have h9:(Question.appendCap n 0 elem).forced=false:=rfl
 have h10:(Question.appendCap n 0 elem).cut (w.tape w.drawn (Question.appendCap n 0 elem))=grownCap w n 0 elem:=rfl
 have h11:¬ (281474976710656 < (n:Int) * (i.bytes:Int)):=by
  have h:=Int.ofNat_le.2 hroom.1
  rw [← Int.natCast_mul]
  omega
 have h12:¬ (n * sz=0):=by
  have:=Nat.mul_pos hn hsz;omega
 have h13:¬ ((n:Int) < 0):=by omega
 have h14:n≠0:=by omega
 have h0:(asInt (.int .i64 (n:Int))).run cx.P w=.ok (n:Int) w:=by simp [asInt,asIntOf]
 simp [Builtin.append_,h2,h3,h4,h0,hw,h13,h6,h11,hbig,h8,h9,h10,h6',h1,h7,h14]
 rw [if_neg h12]
 simp [newRow]
theorem Qcv (h:HSim cx F hp ρ w) {name:Nat} {t t2:TypeId} {ats:List TypeId} {ty:TypeId} {s x:AV} {sv u:Value} (hr:Qdg cx sym orc hp name t t2 s x=some r) (ho:∀ q,q∈r.ob→q)
  (hsv:VR w (MM F hp ρ) hp ρ s sv) (hxv:VR w (MM F hp ρ) hp ρ x u) :
  ∃ v w',(Builtin.append_ (t::t2::ats).toArray ty #[sv,u]).run cx.P w=.ok v w'∧OpOK cx F hp ρ w r.up r.val v w':=by
 unfold Qdg at hr
 split at hr
 case h_2=>cases hr
 rename_i elem k2 sz0 es m hu hu2
 split at hr
 case h_2=>cases hr
 rename_i sz z hs hz hnil hname
 split at hr
 case h_2=>cases hr
 rename_i ob o' hc how
 simp only [Option.some.injEq] at hr;subst hr
 simp only [Bool.and_eq_true,Nat.blt_eq] at hc
 obtain ⟨hok,hsz⟩:=hc
 obtain ⟨hm,hrm⟩:=Zm how ho
 obtain ⟨b,hb,hroom⟩:=W9 hrm
 have hes:=Yf hnil
 subst hes
 have hu0:u=.int .i64 m:=by cases hxv with | d _ _ hd=>cases hd;rfl
 subst hu0
 cases hsv with
 | d _ _ hsv =>
 obtain ⟨a,rfl⟩:∃ a,sv=.slice a 0 0:=by
  cases hsv with
  | lst _ _ _ a cap blk off ys hf hcp ha hs' hw hd =>
   have:=hf rfl
   simp only [List.length_nil] at this ⊢
   subst this
   exact ⟨a,rfl⟩
 obtain ⟨z',hz2,hzs,hzo⟩:=Jk hok
 rw [hz] at hz2;cases hz2
 obtain ⟨nc,hnc,hrun⟩:=Qe0 (w:=w) (ats:=ats) (ty:=ty) (a:=a) hu hu2 hs hb hz hsz hm hroom
 refine ⟨_,_,hrun,?_⟩
 have hcell:∀ (j:Nat) (a:D),(ofV z).cells[j]?=some a→∃ y,z.cells[j]?=some y∧one y=true∧∀ M,DR w M a y:=by
  intro j a hj
  have hlen:=KK z
  have hjl:j < z.cells.size:=by
   have:=(List.getElem?_eq_some_iff.1 hj).1;simpa using (hlen ▸ (by simpa using this):j < z.cells.size)
  refine ⟨z.cells[j],by simp [hjl],hzo _ (by simp),fun M=>?_⟩
  have:=UW (hp:=[]) (ρ:=fun _=>undef) (F:=M) (w:=w) z j (.d a) z.cells[j] (by simp [hj]) (by simp [hjl])
  cases this
  rename_i hd
  exact hd.ext (Nat.le_refl _) (fun _ _ _=>rfl) (fun _ _ hm=>.inl hm)
 have hcl:(ofV z).cells.length=sz:=by have:=KK z;simpa [hzs] using this
 obtain ⟨d1,d2⟩:=h.drew
 have hcsz:(Builtin.zeroCells z.cells m.toNat++Builtin.zeroCells z.cells (nc - m.toNat)).size=nc * sz:=by
  simp only [Array.size_append,size_zeroCells,hzs]
  rw [← Nat.add_mul];congr 1;omega
 obtain ⟨k1,k2⟩:=d1.fresh (b:=name) (k:=.row 0 sz (List.replicate m.toNat (ofV z))) (v:=.slice (some ⟨w.heap.size,0,none⟩) m.toNat nc)
  (Builtin.zeroCells z.cells m.toNat++Builtin.zeroCells z.cells (nc - m.toNat)) elem (fun r hr=>by rw [QC (by omega)] at hr;exact (Option.some.inj hr).symm) (fun k0 hk0=>by rw [hname] at hk0;cases hk0)
  (fun hst=>by
   refine .inr ⟨w.heap.size,_,elem,nc,by rw [Qo,List.length_replicate],⟨by rw [List.length_replicate];exact hnc,by omega⟩,by rw [hcsz];exact Nat.le_refl _,Q7 _ _,fun k d hd=>?_,fun k d j a hd ha=>?_⟩
   ·rw [List.getElem?_replicate] at hd
    split at hd <;> simp only [Option.some.injEq,reduceCtorEq] at hd
    subst hd;exact hcl
   ·rw [List.getElem?_replicate] at hd
    split at hd <;> simp only [Option.some.injEq,reduceCtorEq] at hd
    rename_i hk
    subst hd
    obtain ⟨y,y1,y2,y3⟩:=hcell j a ha
    have hjl:j < sz:=by have:=(List.getElem?_eq_some_iff.1 ha).1;omega
    refine ⟨y,?_,y2,(d2.trans hst).dr (F:=F) (y3 _)⟩
    have hlt:k * sz+j < m.toNat * sz:=V5 (by omega) hjl
    have hmod:(k * sz+j) % z.cells.size=j:=by rw [hzs,Nat.mul_comm,Nat.mul_add_mod];exact Nat.mod_eq_of_lt hjl
    rw [Array.getElem?_append_left (by rw [size_zeroCells,hzs];exact hlt),X1 _ _ _ (by rw [hzs];exact hlt),hmod]
    have hjs:j < z.cells.size:=by rw [hzs];exact hjl
    rw [Array.getElem?_eq_getElem hjs] at y1
    simp only [Option.some.injEq] at y1
    simp [hjs,y1])
 exact ⟨_,k1,d2.trans k2,.own name 0 _ _ (Qd _ _ _) (Nat.le_refl _) rfl fun _=>(Qo _ _ _).symm⟩
theorem QcC (h:HSim cx F hp ρ w) {t:TypeId} {ats:List TypeId} {ty:TypeId} {d s:AV} {dv sv:Value} (hr:uz cx orc hp t d s=some r) (hd:VR w (MM F hp ρ) hp ρ d dv) (hsv:VR w (MM F hp ρ) hp ρ s sv) :
  ∃ v w',(Builtin.copy_ (t::ats).toArray ty #[dv,sv]).run cx.P w=.ok v w'∧OpOK cx F hp ρ w r.up r.val v w':=by
 unfold uz at hr
 split at hr
 case h_2=>cases hr
 rename_i elem b ver asz ds fs hu hadd
 cases hd with
 | own _ _ k _ hb hv hone hh =>
 split at hr
 case h_2=>cases hr
 rename_i ver' sz es z hb' hz
 rw [hb] at hb';cases hb'
 split at hr
 case h_2=>cases hr
 rename_i hc
 simp only [Bool.and_eq_true,Bool.not_eq_true'] at hc
 have e1:=Q6 hc.1.1.1
 have e2:=Q6 hc.1.1.2
 have e3:=uY hc.1.2
 have hfs:=hc.2
 subst e1;subst e2
 simp only [Option.some.injEq] at hr;subst hr
 rw [hh rfl]
 obtain ⟨g1,g2⟩:=h.freeze fs
 have hmem:¬ b∈fs:=by
  intro hm
  have:fs.contains b=true:=by simpa using hm
  rw [this] at hfs;cases hfs
 have hb1:look (Qc hp fs++hp) b=some (.row ver sz es):=by
  have:∀ l:List Nat,¬ b∈l→look (Qc hp l++hp) b=look hp b:=by
   intro l
   induction l with
   | nil=>intro _;rfl
   | cons q l ih =>
    intro hq
    simp only [List.mem_cons,not_or] at hq
    simp only [Qc]
    split
    ·rw [List.cons_append,Qa _ _ (fun e=>hq.1 e.symm)];exact ih hq.2
    ·split
     ·rw [List.cons_append,Qa _ _ (fun e=>hq.1 e.symm)];exact ih hq.2
     ·exact ih hq.2
    ·rw [List.cons_append,Qa _ _ (fun e=>hq.1 e.symm)];exact ih hq.2
    ·exact ih hq.2
  rw [this fs hmem];exact hb
 have hdr:∃ full,DR w (MM F (Qc hp fs++hp) ρ) (.lst full asz ds) sv:=by
  unfold Ya at hadd
  split at hadd <;> simp only [Option.some.injEq,reduceCtorEq,Prod.mk.injEq] at hadd
  rename_i full sz' es' fs' hd
  obtain ⟨rfl,rfl,rfl⟩:=hadd
  exact ⟨full,Zr h fs' s sv _ fs' hd (fun _ h=>h) hsv⟩
 obtain ⟨full,hdr⟩:=hdr
 obtain ⟨xa,xc,rfl,hxc,_,news,n1,n2,n3,n4,n5⟩:=qn hdr
 have hnl:news.length=ds.length * sz:=by
  rcases e3 with e | e
  ·rw [← e];exact n1
  ·rw [e] at n1 ⊢;simpa using n1
 have hn2:∀ m,m≤ds.length→(Builtin.firstCells sz m (.slice xa ds.length xc)).run cx.P w=.ok (news.take (m * sz)).toArray w:=by
  intro m hm
  rcases e3 with e | e
  ·rw [← e];exact n2 _ _ rfl m hm
  ·have:=n2 cx.P w rfl m hm
   subst e
   have hm0:m=0:=by simpa using hm
   subst hm0
   have hn0:news=[]:=by simpa using n1
   subst hn0
   cases xa with
   | none=>simpa [Builtin.firstCells] using this
   | some a=>simpa [Builtin.firstCells,loadCells,loadCellsFrom] using this
 have hn4:∀ (i:Nat) (d:D),ds[i]?=some d→d.cells.length=sz:=by
  rcases e3 with e | e
  ·rw [← e];exact n4
  ·subst e;intro i d hd;simp at hd
 have hn5:∀ (i:Nat) (d:D) (j:Nat) (c:D),ds[i]?=some d→d.cells[j]?=some c→∃ y,news[i * sz+j]?=some y∧one y=true∧DR w (MM F (Qc hp fs++hp) ρ) c y:=by
  rcases e3 with e | e
  ·rw [← e];exact n5
  ·subst e;intro i d j c hd;simp at hd
 rcases g1.blk b _ hb1 with ⟨he0,a0,q1⟩ | ⟨rr,c,e,cap,q1,⟨q2,hcap⟩,q3,q4,q5,q6⟩
 ·subst he0
  rw [q1]
  refine ⟨.int .i64 (min ds.length 0:Nat),w,?_,?_⟩
  ·have h1:=Qh hu w
   have h2:=QB hz w
   have h3:=hn2 0 (Nat.zero_le _)
   simp only [Nat.zero_mul,List.take_zero] at h3
   cases a0 with
   | none=>simp [Builtin.copy_,h1,h2,Builtin.lenOf,h3,goInt]
   | some a0=>simp [Builtin.copy_,h1,h2,Builtin.lenOf,h3,goInt,storeCells]
  ·have hl:∀ n,look ((b,Blk.row ver sz (ds.take ([]:List D).length++([]:List D).drop ds.length))::(Qc hp fs++hp)) n=look (Qc hp fs++hp) n:=by
    intro n
    by_cases hn:n=b
    ·subst hn;rw [Qd,hb1];simp
    ·rw [Qa _ _ (Ne.symm hn)]
   obtain ⟨k1,k2⟩:=ZN hl g1
   exact ⟨_,k1,g2.trans k2,.d _ _ (.v _)⟩
 rw [q1]
 have hesz:es.length * sz≤c.size:=Nat.le_trans (Nat.mul_le_mul_right _ q2) q3
 have hml:min ds.length es.length≤ds.length:=Nat.min_le_left _ _
 have hme:min ds.length es.length≤es.length:=Nat.min_le_right _ _
 have hmz1:min ds.length es.length * sz≤ds.length * sz:=Nat.mul_le_mul_right _ hml
 have hmz2:min ds.length es.length * sz≤es.length * sz:=Nat.mul_le_mul_right _ hme
 have htl:(news.take (min ds.length es.length * sz)).length=min ds.length es.length * sz:=by rw [List.length_take];omega
 obtain ⟨w',s1,s2,s3⟩:=Yn cx.P rr 0 (news.take (min ds.length es.length * sz)) 0 w c e q4 (by rw [htl];omega) (fun v hv=>(VJ (n3 v (List.mem_of_mem_take hv))).2)
 refine ⟨.int .i64 (min ds.length es.length:Nat),w',?_,?_⟩
 ·have h1:=Qh hu w
  have h2:=QB hz w
  have h3:=hn2 _ hml
  simp [Builtin.copy_,h1,h2,Builtin.lenOf,h3,s1,goInt]
 ·obtain ⟨k1,k2⟩:=g1.write (b:=b) (k:=.row ver sz (ds.take es.length++es.drop ds.length)) (v:=ρ b) hb1 rfl (r:=rr) (by rw [q1];exact QC hcap) (by rw [q1];exact QC hcap) (.inr ⟨rfl,rfl⟩) s3 (fun hst=>by
   have hlen:(ds.take es.length++es.drop ds.length).length=es.length:=by simp;omega
   have hgo:∀ k,(YI c (0+0) (news.take (min ds.length es.length * sz)))[k]?=if k < min ds.length es.length * sz then news[k]? else c[k]?:=by
    intro k
    rw [WM _ _ _ (by rw [htl];omega),htl]
    by_cases hk:k < min ds.length es.length * sz
    ·rw [if_pos (by omega),if_pos hk]
     simp only [Nat.zero_add,Nat.sub_zero,List.getElem?_take,hk,if_true]
    ·rw [if_neg (by omega),if_neg hk]
   refine .inr ⟨rr,_,e,cap,by rw [Qo,q1,hlen],⟨by rw [hlen];exact q2,hcap⟩,by rw [VH];exact q3,s2,fun i d hi=>?_,fun i d j a hi hj=>?_⟩
   ·by_cases hl:i < (ds.take es.length).length
    ·rw [List.getElem?_append_left hl,List.getElem?_take] at hi
     split at hi
     ·exact hn4 i d hi
     ·cases hi
    ·rw [List.getElem?_append_right (by omega),List.getElem?_drop] at hi;exact q5 _ d hi
   ·by_cases hl:i < (ds.take es.length).length
    ·rw [List.getElem?_append_left hl,List.getElem?_take] at hi
     split at hi
     ·have hjl:j < sz:=by have:=(List.getElem?_eq_some_iff.1 hj).1;have:=hn4 i d hi;omega
      obtain ⟨y,y1,y2,y3⟩:=hn5 i d j a hi hj
      refine ⟨y,?_,y2,hst.dr y3⟩
      rw [hgo,if_pos (V5 (by simp at hl;omega) hjl)];exact y1
     ·cases hi
    ·have hge:min ds.length es.length≤i:=by simp at hl;omega
     rw [List.getElem?_append_right (by omega),List.getElem?_drop] at hi
     have hidx:ds.length+(i - (ds.take es.length).length)=i:=by
      have:=(List.getElem?_eq_some_iff.1 hi).1
      simp at hl this ⊢;omega
     rw [hidx] at hi
     obtain ⟨y,y1,y2,y3⟩:=q6 i d j a hi hj
     refine ⟨y,?_,y2,hst.dr y3⟩
     have:min ds.length es.length * sz≤i * sz:=Nat.mul_le_mul_right _ hge
     rw [hgo,if_neg (by omega)];exact y1)
  exact ⟨_,k1,g2.trans k2,.d _ _ (.v _)⟩
theorem QbM (h:HSim cx F hp ρ w) {t:TypeId} {ats:List TypeId} {ty:TypeId} {x:AV} {xv:Value} (hr:QaF cx sym orc hp t x=some r) (ho:∀ q,q∈r.ob→q) (hx:VR w (MM F hp ρ) hp ρ x xv) :
  ∃ v w',(Builtin.clear_ (t::ats).toArray ty #[xv]).run cx.P w=.ok v w'∧OpOK cx F hp ρ w r.up r.val v w':=by
 unfold QaF at hr
 split at hr
 case h_2=>cases hr
 rename_i elem b ver sz lo n hu
 split at hr
 case h_2=>cases hr
 rename_i ver' sz' es z hb hz
 split at hr
 case h_2=>cases hr
 rename_i ob o' hc how
 simp only [Bool.and_eq_true] at hc
 have e1:=Q6 hc.1.1
 have e2:=Q6 hc.1.2
 have hok:=hc.2
 subst e1;subst e2
 simp only [Option.some.injEq] at hr;subst hr
 obtain ⟨hn,hle⟩:=Zm how ho
 obtain ⟨z',hz2,hzs,hzo⟩:=Jk hok
 rw [hz] at hz2;cases hz2
 cases hx with
 | sub _ _ _ _ _ kk _ hb' hv hone hh =>
 rw [hb] at hb';cases hb'
 obtain ⟨r0,cap0,hr0,rfl⟩:=hh rfl
 rcases h.blk b _ hb with ⟨he0,a0,q1⟩ | ⟨rr,c,e,cap,q1,⟨q2,hcap⟩,q3,q4,q5,q6⟩
 ·subst he0;simp only [List.length_nil] at hle;omega
 have hrr:r0=rr:=by
  rw [q1,QC hcap] at hr0
  exact (Option.some.inj hr0).symm
 subst hrr
 have hcell:∀ (j:Nat) (a:D),(ofV z).cells[j]?=some a→∃ y,z.cells[j]?=some y∧one y=true∧∀ M,DR w M a y:=by
  intro j a hj
  have hlen:=KK z
  have hjl:j < z.cells.size:=by
   have:=(List.getElem?_eq_some_iff.1 hj).1;simpa using (hlen ▸ (by simpa using this):j < z.cells.size)
  refine ⟨z.cells[j],by simp [hjl],hzo _ (by simp),fun M=>?_⟩
  have:=UW (hp:=[]) (ρ:=fun _=>undef) (F:=M) (w:=w) z j (.d a) z.cells[j] (by simp [hj]) (by simp [hjl])
  cases this
  rename_i hd
  exact hd.ext (Nat.le_refl _) (fun _ _ _=>rfl) (fun _ _ hm=>.inl hm)
 have hcl:(ofV z).cells.length=sz:=by have:=KK z;simpa [hzs] using this
 have hnews:(Builtin.zeroCells z.cells n).toList.length=n * sz:=by rw [Array.length_toList,size_zeroCells,hzs]
 have hfit:(lo+n) * sz≤c.size:=Nat.le_trans (Nat.mul_le_mul_right _ (Nat.le_trans hle q2)) q3
 rw [Nat.add_mul] at hfit
 have hget:∀ k,k < n * sz→(Builtin.zeroCells z.cells n)[k]?=some (z.cells[k % z.cells.size]!):=fun k hk=>X1 _ _ _ (by rw [hzs];exact hk)
 obtain ⟨w',s1,s2,s3⟩:=Yn cx.P r0 (lo * sz) (Builtin.zeroCells z.cells n).toList 0 w c e q4 (by rw [hnews];omega) (fun v hv=>by
  obtain ⟨k,hk⟩:=List.getElem?_of_mem hv
  have hkl:=(List.getElem?_eq_some_iff.1 hk).1
  rw [hnews] at hkl
  rw [Array.getElem?_toList,hget k hkl] at hk
  have hsz:0 < z.cells.size:=by
   rw [hzs]
   rcases Nat.eq_zero_or_pos sz with h0 | h0
   ·rw [h0] at hkl;omega
   ·exact h0
  have hm:=Nat.mod_lt k hsz
  simp only [Option.some.injEq] at hk
  rw [← hk]
  refine (VJ (hzo _ ?_)).2
  simp [hm])
 refine ⟨.tuple #[],w',?_,?_⟩
 ·have h1:=Qh hu w
  have h2:=VZ hz w
  obtain ⟨m,rfl⟩:∃ m,n=m+1:=⟨n - 1,by omega⟩
  simp [Builtin.clear_,h1,h2,s1]
 ·obtain ⟨k1,k2⟩:=h.write (b:=b) (k:=.row ver sz (es.take lo++(List.replicate n (ofV z)++es.drop (lo+n)))) (v:=ρ b) hb rfl (r:=r0) (by rw [q1];exact QC hcap) (by rw [q1];exact QC hcap) (.inr ⟨rfl,rfl⟩) s3 (fun hst=>by
   have hlen:(es.take lo++(List.replicate n (ofV z)++es.drop (lo+n))).length=es.length:=by simp;omega
   have hgo:∀ k,(YI c (lo * sz+0) (Builtin.zeroCells z.cells n).toList)[k]?=if lo * sz≤k∧k < lo * sz+n * sz then (Builtin.zeroCells z.cells n)[k - lo * sz]? else c[k]?:=by
    intro k
    rw [WM _ _ _ (by rw [hnews];omega),hnews,Nat.add_zero,Array.getElem?_toList]
   have hel:∀ i,(es.take lo++(List.replicate n (ofV z)++es.drop (lo+n)))[i]?=if i < lo then es[i]? else if i < lo+n then some (ofV z) else es[i]?:=by
    intro i
    have ht:(es.take lo).length=lo:=by simp;omega
    by_cases h1:i < lo
    ·rw [if_pos h1,List.getElem?_append_left (by omega),List.getElem?_take,if_pos h1]
    ·rw [if_neg h1,List.getElem?_append_right (by omega),ht]
     by_cases h2:i < lo+n
     ·rw [if_pos h2,List.getElem?_append_left (by simp;omega),List.getElem?_replicate,if_pos (by omega)]
     ·rw [if_neg h2,List.getElem?_append_right (by simp;omega),List.getElem?_drop,List.length_replicate]
      congr 1;omega
   refine .inr ⟨r0,_,e,cap,by rw [Qo,q1,hlen],⟨by rw [hlen];exact q2,hcap⟩,by rw [VH];exact q3,s2,fun i d hi=>?_,fun i d j a hi hj=>?_⟩
   ·rw [hel] at hi
    split at hi
    ·exact q5 i d hi
    ·split at hi
     ·cases hi;exact hcl
     ·exact q5 i d hi
   ·rw [hel] at hi
    have hold:es[i]?=some d→(i < lo ∨ lo+n≤i)→∃ y,(YI c (lo * sz+0) (Builtin.zeroCells z.cells n).toList)[i * sz+j]?=some y∧one y=true∧DR w' (MM F ((b,Blk.row ver sz (es.take lo++(List.replicate n (ofV z)++es.drop (lo+n))))::hp) (Wp ρ b (ρ b))) a y:=by
     intro hi hlo
     obtain ⟨y,y1,y2,y3⟩:=q6 i d j a hi hj
     refine ⟨y,?_,y2,hst.dr y3⟩
     have hjl:j < sz:=by have:=(List.getElem?_eq_some_iff.1 hj).1;have:=q5 i d hi;omega
     rw [hgo,if_neg ?_];exact y1
     intro hq
     rcases hlo with hl | hl
     ·have:=V5 hl hjl;omega
     ·have:(lo+n) * sz≤i * sz:=Nat.mul_le_mul_right _ hl
      rw [Nat.add_mul] at this;omega
    split at hi
    ·rename_i h1;exact hold hi (.inl h1)
    ·split at hi
     ·rename_i h1 h2
      cases hi
      obtain ⟨y,y1,y2,y3⟩:=hcell j a hj
      have hjl:j < sz:=by have:=(List.getElem?_eq_some_iff.1 hj).1;omega
      refine ⟨y,?_,y2,(hst.dr (y3 _))⟩
      have hge:lo * sz≤i * sz:=Nat.mul_le_mul_right _ (by omega)
      have hlt:(i - lo) * sz+j < n * sz:=V5 (by omega) hjl
      have hsub:i * sz+j - lo * sz=(i - lo) * sz+j:=by rw [Nat.sub_mul];omega
      have hmod:((i - lo) * sz+j) % z.cells.size=j:=by rw [hzs,Nat.mul_comm,Nat.mul_add_mod];exact Nat.mod_eq_of_lt hjl
      rw [hgo,if_pos ⟨by omega,by omega⟩,hsub,hget _ hlt,hmod]
      have hjs:j < z.cells.size:=by rw [hzs];exact hjl
      rw [Array.getElem?_eq_getElem hjs] at y1
      simp only [Option.some.injEq] at y1
      simp [hjs,y1]
     ·rename_i h1 h2;exact hold hi (.inr (by omega)))
  exact ⟨_,k1,k2,.tup [] [] rfl (fun i c y hc _=>by simp at hc)⟩
theorem GT {es:List D} {i:Int} {y:D} {ob:List Prop} {o' : List Orc} (h:Qbe sym orc es i=some (y,ob,o')) (ho:∀ q,q∈ob→q):0≤i∧es[i.toNat]?=some y:=by
 unfold Qbe at h
 split at h
 ·simp only [Option.some.injEq,Prod.mk.injEq] at h;obtain ⟨rfl,rfl,rfl⟩:=h
  have h1:=ho _ List.mem_cons_self
  have h2:=ho _ (List.mem_cons_of_mem _ List.mem_cons_self)
  rw [Q3] at h2
  exact ⟨h1,h2⟩
 ·split at h
  ·rename_i hd hn
   simp only [Option.some.injEq,Prod.mk.injEq] at h;obtain ⟨rfl,rfl,rfl⟩:=h
   rw [Q3] at hn
   exact ⟨of_decide_eq_true hd,hn⟩
  ·cases h
 ·cases h
theorem QcB {full:Bool} {sz s:Nat} {es:List D} {t elem:TypeId} {x:Value} {i:Int} {k:IntKind} {y:D} (hx:DR w (MM F hp ρ) (.lst full sz es) x) (hu:cx.P.underlying t=some (.slice elem)) (hs:cx.sz elem=some s)
  (he:sz=s) (hi:0≤i) (hy:es[i.toNat]?=some y) :
  ∃ v,(Instr.indexAt t x (.int k i)).run cx.P w=.ok v w∧VR w (MM F hp ρ) hp ρ (.dptr y 0) v:=by
 subst he
 cases hx with
 | lst _ _ _ a cap blk off ys hf hc ha hs' hw hd =>
  have hne:es≠[]:=by rintro rfl;simp at hy
  obtain ⟨rfl,hM,hblk⟩:=ha hne
  have hlt:i.toNat < es.length:=(List.getElem?_eq_some_iff.1 hy).1
  have hrun:(Instr.indexAt t (.slice (some ⟨blk,off,none⟩) es.length cap) (.int k i)).run cx.P w=.ok (.pointer (some ⟨blk,off+i.toNat * sz,none⟩)) w:=by
   have h1:=Qh hu w
   have h2:=QB hs w
   have h3:i < (es.length:Int):=by omega
   simp [Instr.indexAt,asIntOf,h1,h2,hi,h3,add_at]
  refine ⟨_,hrun,?_⟩
  have:=VR.dptr (w:=w) (M:=MM F hp ρ) (hp:=hp) (ρ:=ρ) y 0 blk (off+i.toNat * sz) ⟨hM,hblk,fun j c hj=>⟨ys (i.toNat * sz+j),by
   have:=(hw _ _ _ _ hy hj).1
   rw [Nat.add_assoc];exact this,hd _ _ _ _ hy hj⟩⟩
  rw [Nat.add_zero] at this
  exact this
theorem KP {b ver:Nat} {k:Blk} (h:J6 hp b ver=true) (hb:look hp b=some k):ver=k.ver:=by
 unfold J6 at h
 rw [hb] at h
 exact Q6 h
theorem KW (h:HSim cx F hp ρ w) {t:TypeId} {x:AV} {i:Int} {k:IntKind} {xv:Value} (hr:Wu cx sym orc hp t x i=some r) (ho:∀ q,q∈r.ob→q) (hx:VR w (MM F hp ρ) hp ρ x xv) :
  ∃ v,(Instr.indexAt t xv (.int k i)).run cx.P w=.ok v w∧OpOK cx F hp ρ w r.up r.val v w:=by
 unfold Wu at hr
 split at hr
 ·rename_i len elem hu
  split at hr
  case h_2=>cases hr
  rename_i s hs hd
  have hd':=of_decide_eq_true hd
  split at hr
  ·rename_i b ver sz j off
   split at hr
   case h_2=>cases hr
   rename_i hcu
   simp only [val1,Option.some.injEq] at hr;subst hr
   cases hx with
   | ptr _ _ _ _ _ kk _ hb hv hone hh =>
    obtain ⟨r0,hr0,rfl⟩:=hh (KP hcu hb)
    have h1:=Qh hu w
    have h2:=QB hs w
    refine ⟨.pointer (some ⟨r0,j * sz+(off+i.toNat * s),none⟩),?_,OpOK.quiet h (.ptr b ver sz j _ kk _ hb hv rfl fun _=>⟨r0,hr0,rfl⟩)⟩
    simp [Instr.indexAt,asIntOf,h1,Instr.sureAddr,hd'.1,hd'.2,h2,add_at,Nat.add_assoc]
  ·rename_i y off
   simp only [val1,Option.some.injEq] at hr;subst hr
   cases hx with
   | dptr _ _ blk o hda =>
    have h1:=Qh hu w
    have h2:=QB hs w
    refine ⟨.pointer (some ⟨blk,o+(off+i.toNat * s),none⟩),?_,OpOK.quiet h (.dptr y _ blk o hda)⟩
    simp [Instr.indexAt,asIntOf,h1,Instr.sureAddr,hd'.1,hd'.2,h2,add_at,Nat.add_assoc]
  ·cases hr
 ·rename_i elem hu
  split at hr
  ·cases hr
  rename_i s hs
  split at hr
  ·rename_i b ver
   cases hx with
   | own _ _ kk _ hb hv hone hh =>
   rw [hb] at hr
   cases kk with
   | box _=>simp at hr
   | loop _ _ _ _ _ _=>simp at hr
   | mp _=>simp at hr
   | it _ _=>simp at hr
   | fbox _=>simp at hr
   | left _=>simp at hr
   | dead=>simp at hr
   | row ver' sz es =>
    simp only at hr
    split at hr
    case h_2=>cases hr
    rename_i hc
    simp only [Bool.and_eq_true] at hc
    have e1:=Q6 hc.1
    have e2:=Q6 hc.2
    subst e1;subst e2
    split at hr
    case h_2=>cases hr
    rename_i ob o' how
    simp only [Option.some.injEq] at hr;subst hr
    have hi:=Zm how ho
    rw [hh rfl]
    rcases h.blk b _ hb with ⟨q0,_,_⟩ | ⟨r0,c,e,cap,q1,⟨q2,hcap⟩,q3,q4,q5,q6⟩
    ·rw [q0] at hi;simp only [List.length_nil] at hi;omega
    have h1:=Qh hu w
    have h2:=QB hs w
    refine ⟨.pointer (some ⟨r0,i.toNat * sz,none⟩),?_,OpOK.quiet h (.ptr b ver sz i.toNat 0 _ _ hb hv rfl fun _=>⟨r0,by rw [q1];exact QC hcap,rfl⟩)⟩
    rw [q1]
    simp [Instr.indexAt,asIntOf,h1,h2,hi.1,hi.2,add_at]
   | frozen ver' sz es =>
    simp only at hr
    split at hr
    case h_2=>cases hr
    rename_i hc
    simp only [Bool.and_eq_true] at hc
    have e1:=Q6 hc.1
    have e2:=Q6 hc.2
    subst e1
    split at hr
    case h_2=>cases hr
    rename_i y ob o' hp1
    simp only [Option.some.injEq] at hr;subst hr
    obtain ⟨p1,p2⟩:=GT hp1 ho
    rw [hh rfl]
    obtain ⟨v,v1,v2⟩:=QcB (k:=k) (h.blk b _ hb) hu hs e2 p1 p2
    exact ⟨v,v1,OpOK.quiet h v2⟩
   | virt ver' sz es =>
    simp only at hr
    split at hr
    case h_2=>cases hr
    rename_i hc
    simp only [Bool.and_eq_true] at hc
    have e1:=Q6 hc.1
    have e2:=Q6 hc.2
    subst e1
    split at hr
    case h_2=>cases hr
    rename_i y ob o' hp1
    simp only [Option.some.injEq] at hr;subst hr
    obtain ⟨p1,p2⟩:=GT hp1 ho
    rw [hh rfl]
    obtain ⟨v,v1,v2⟩:=QcB (k:=k) (h.blk b _ hb) hu hs e2 p1 p2
    exact ⟨v,v1,OpOK.quiet h v2⟩
  ·rename_i full sz es
   split at hr
   case h_2=>cases hr
   rename_i hc
   split at hr
   case h_2=>cases hr
   rename_i y ob o' hp1
   simp only [Option.some.injEq] at hr;subst hr
   obtain ⟨p1,p2⟩:=GT hp1 ho
   cases hx with
   | d _ _ hx =>
    obtain ⟨v,v1,v2⟩:=QcB (k:=k) (hp:=hp) hx hu hs (Q6 hc) p1 p2
    exact ⟨v,v1,OpOK.quiet h v2⟩
  ·rename_i b ver sz lo n
   split at hr
   case h_2=>cases hr
   rename_i ob o' hc how
   simp only [Bool.and_eq_true] at hc
   have e2:=Q6 hc.2
   subst e2
   split at hr
   ·simp only [Option.some.injEq] at hr;subst hr
    obtain ⟨i1,i2⟩:=Zm how ho
    cases hx with
    | sub _ _ _ _ _ kk _ hb hv hone hh =>
     obtain ⟨r0,c0,hr0,rfl⟩:=hh (KP hc.1 hb)
     have h1:=Qh hu w
     have h2:=QB hs w
     refine ⟨.pointer (some ⟨r0,(lo+i.toNat) * sz,none⟩),?_,OpOK.quiet h (.ptr b ver sz 0 ((lo+i.toNat) * sz) kk _ hb hv rfl fun _=>⟨r0,hr0,by simp⟩)⟩
     simp [Instr.indexAt,asIntOf,h1,h2,i1,i2,add_at,Nat.add_mul]
   ·simp only [Option.some.injEq] at hr;subst hr
    obtain ⟨i1,i2⟩:=Zm how ho
    cases hx with
    | sub _ _ _ _ _ kk _ hb hv hone hh =>
     obtain ⟨r0,c0,hr0,rfl⟩:=hh (KP hc.1 hb)
     have h1:=Qh hu w
     have h2:=QB hs w
     refine ⟨.pointer (some ⟨r0,(lo+i.toNat) * sz,none⟩),?_,OpOK.quiet h (.ptr b ver sz (lo+i.toNat) 0 kk _ hb hv rfl fun _=>⟨r0,hr0,rfl⟩)⟩
     simp [Instr.indexAt,asIntOf,h1,h2,i1,i2,add_at,Nat.add_mul]
  ·cases hr
 ·cases hr
theorem wA (h:HSim cx F hp ρ w) {s:Sem Value} (hr:QcW cx sym orc s=some r) (ho:∀ q,q∈r.ob→q):∃ v,s.run cx.P w=.ok v w∧OpOK cx F hp ρ w r.up r.val v w:=by
 unfold QcW at hr
 split at hr
 ·simp only [Option.some.injEq] at hr;subst hr
  exact ⟨_,Wt (ho _ List.mem_cons_self) w,OpOK.quiet h (K6 _ _ _ _ _)⟩
 ·split at hr
  ·rename_i x hx
   simp only [Option.some.injEq] at hr;subst hr
   exact ⟨_,Wt hx w,OpOK.quiet h (K6 _ _ _ _ _)⟩
  ·cases hr
 ·cases hr
theorem Ek {t:TypeId} {s off:Nat} {g:Bool} {x y:AV} {C:Array Value} (hs:cx.sz t=some s) (hg:cx.isAgg t=some g) (hx:VR w (MM F hp ρ) hp ρ x (.agg C)) (hl:Um g s off x=some y) :
  ∃ v,(part t C off).run cx.P w=.ok v w∧VR w (MM F hp ρ) hp ρ y v:=by
 unfold Um at hl
 split at hl
 ·cases hl
 rename_i cs hcs
 obtain ⟨c1,c2,c3⟩:=WZ hcs hx
 simp only [Value.cells] at c1 c3
 unfold part
 simp only [Sem.run_bind,zz hg,Result.andThen_ok]
 cases g with
 | false =>
  simp only at hl
  rw [Q3] at hl
  obtain ⟨v,v1,v2⟩:=c3 _ _ hl
  refine ⟨v,?_,v2⟩
  simp only [Bool.false_eq_true,if_false,v1,Sem.run_pure]
 | true =>
  simp only at hl
  split at hl
  case h_2=>cases hl
  rename_i hle
  have hle' : off+s≤cs.length:=Nat.le_of_ble_eq_true hle
  refine ⟨.agg (C.extract off (off+s)),by simp only [if_true,Sem.run_bind,QB hs,Result.andThen_ok,Sem.run_pure],?_⟩
  split at hl
  ·rename_i hb
   simp only [Option.some.injEq] at hl;subst hl
   simp only [Bool.and_eq_true] at hb
   have h1:=Q6 hb.1.2
   have h2:=Q6 hb.2
   subst h1
   have:C.extract 0 (0+s)=C:=by rw [h2,← c1];simp
   rw [this];exact hx
  ·simp only [Option.some.injEq] at hl;subst hl
   refine QcJ (by simp;omega) fun j a q ha hq=>?_
   rw [Array.getElem?_extract] at hq
   split at hq
   ·rw [List.getElem?_take] at ha
    split at ha
    ·rw [List.getElem?_drop] at ha
     obtain ⟨v,v1,v2⟩:=c3 _ _ ha
     rw [hq] at v1;cases v1;exact v2
    ·cases ha
   ·cases hq
theorem we {M:Nat→Prop} {x:AV} {v:Value} (ha:K8 x=true) (h:VR w M hp ρ x v):∃ C,v=.agg C:=by
 cases h with
 | agg=>exact ⟨_,rfl⟩
 | d _ _ h=>cases h with
  | agg=>exact ⟨_,rfl⟩
  | _=>cases ha
 | _=>cases ha
theorem wK {s:TypeId} {f:Nat} {fd:Field} (h:jk cx s f=some fd):∃ fields,cx.P.underlying s=some (.struct fields)∧fields[f]?=some fd:=by
 unfold jk at h
 split at h
 ·rename_i fields hu
  rw [Q3] at h
  exact ⟨fields,hu,by simpa using h⟩
 ·cases h
theorem X8 (h:HSim cx F hp ρ w) {t:TypeId} {x:AV} {ix xv iv:Value} (hr:jp cx sym orc t x ix=some r) (ho:∀ q,q∈r.ob→q) (hx:VR w (MM F hp ρ) hp ρ x xv) (hi:iv=ix) :
  ∃ v,(Instr.index t xv iv).run cx.P w=.ok v w∧OpOK cx F hp ρ w r.up r.val v w:=by
 subst hi
 unfold jp at hr
 split at hr
 ·cases hx with
  | d _ _ hx=>cases hx;exact wA h hr ho
 ·split at hr
  case h_2=>cases hr
  rename_i len elem k i cs hu hcs
  split at hr
  case h_2=>cases hr
  rename_i s g hs hg hd
  have hd':=of_decide_eq_true hd
  have key:∀ y,K8 x=true→Um g s (i.toNat * s) x=some y→∃ v,(Instr.index t xv (.int k i)).run cx.P w=.ok v w∧OpOK cx F hp ρ w [] y v w:=by
   intro y ha hy
   obtain ⟨C,rfl⟩:=we ha hx
   obtain ⟨v,v1,v2⟩:=Ek hs hg hx hy
   refine ⟨v,?_,OpOK.quiet h v2⟩
   have h1:=Qh hu w
   have h2:=QB hs w
   simp [Instr.index,asIntOf,h1,hd'.1,hd'.2,h2,v1]
  split at hr
  ·split at hr
   case h_2=>cases hr
   rename_i y hy
   simp only [val1,Option.some.injEq] at hr;subst hr
   refine key y rfl ?_
   rename_i c0 _ _
   have:cs=c0:=by
    simp only [AV.cells] at hcs
    split at hcs <;> simp only [Option.some.injEq,reduceCtorEq] at hcs
    exact hcs.symm
   subst this;exact hy
  ·split at hr
   case h_2=>cases hr
   rename_i y hy
   simp only [val1,Option.some.injEq] at hr;subst hr
   exact key y rfl hy
  ·cases hr
theorem wd (h:HSim cx F hp ρ w) {t:TypeId} {x:AV} {i:Int} {k:IntKind} {xv:Value} (hr:V9 cx sym orc hp t x i=some r) (ho:∀ q,q∈r.ob→q) (hx:VR w (MM F hp ρ) hp ρ x xv) :
  ∃ v,(Instr.indexAt t xv (.int k i)).run cx.P w=.ok v w∧OpOK cx F hp ρ w r.up r.val v w:=by
 unfold V9 at hr
 split at hr
 ·split at hr
  case h_2=>cases hr
  rename_i q hq
  simp only [Option.some.injEq] at hr;subst hr
  have hi:i=_:=ho _ List.mem_cons_self
  rw [hi]
  have:=KW (r:=q) (k:=k) h hq (fun p hp=>ho p (List.mem_cons_of_mem _ hp)) hx
  exact this
 ·exact KW h hr ho hx
theorem QaE (h:HSim cx F hp ρ w) {t:TypeId} {x:AV} {ix xv iv:Value} (hr:QcI cx sym orc t x ix=some r) (ho:∀ q,q∈r.ob→q) (hx:VR w (MM F hp ρ) hp ρ x xv) (hi:iv=ix) :
  ∃ v,(Instr.index t xv iv).run cx.P w=.ok v w∧OpOK cx F hp ρ w r.up r.val v w:=by
 unfold QcI at hr
 split at hr
 ·split at hr
  case h_2=>cases hr
  rename_i q hq
  simp only [Option.some.injEq] at hr;subst hr
  have hj:=ho _ List.mem_cons_self
  rw [hj] at hi
  have:=X8 (r:=q) h hq (fun p hp=>ho p (List.mem_cons_of_mem _ hp)) hx hi
  exact this
 ·exact X8 h hr ho hx hi
theorem JN {t:TypeId} {k:IntKind} (hu:cx.P.underlying t=some (.int k)) {C:Array Value} {off:Nat} {v:Value} (hv:C[off]?=some v):(part t C off).run cx.P w=.ok v w:=by
 have hg:cx.isAgg t=some false:=by unfold Cx.isAgg;rw [hu]
 unfold part
 simp only [Sem.run_bind,zz hg,Result.andThen_ok,Bool.false_eq_true,if_false,hv,Sem.run_pure]
def XD (cx:Cx) (t:TypeId) (k:Value):Bool:=match cx.P.underlying t,k with
 | some (.int j),.int j' _=>decide (j'=j)
 | some .string,.string _=>true
 | some .bool,.bool _=>true
 | _,_=>false
theorem yq {t:TypeId} {k:Value} (h:XC cx t k=true):XD cx t k=true ∨ ∃ fs cs,cx.P.underlying t=some (.struct fs)∧k=.agg cs∧cx.P.stoodInHeld t=false∧WO cx.P 0 fs.toList cs.toList=true:=by
 unfold XC at h
 split at h
 ·rename_i hu;left;unfold XD;rw [hu];exact h
 ·rename_i hu;left;unfold XD;rw [hu]
 ·rename_i hu;left;unfold XD;rw [hu]
 ·rename_i fs cs hu
  right
  simp only [Bool.and_eq_true,Bool.not_eq_true'] at h
  exact ⟨fs,cs,hu,rfl,h.1,h.2⟩
 ·cases h
theorem Qcs {t:TypeId} {k:Value} (h:XD cx t k=true):∃ d,cx.P.underlying t=some d∧MapKept.IsKey d k:=by
 unfold XD at h
 split at h
 ·refine ⟨.int _,by assumption,?_⟩
  exact of_decide_eq_true (p:=_=_) h
 ·exact ⟨.string,by assumption,trivial⟩
 ·exact ⟨.bool,by assumption,trivial⟩
 ·cases h
theorem yQ {d:TypeDesc} {k j:Value} (hk:MapKept.IsKey d k) (hj:(VS k j).isSome=true):MapKept.IsKey d j∧Instr.sameNow d k j=VS k j:=by
 cases d <;> cases k <;> simp only [MapKept.IsKey] at hk <;> cases j <;> simp_all [VS,MapKept.IsKey,Instr.sameNow]
theorem Qdu {d:TypeDesc} {k j:Value} (hk:MapKept.IsKey d k) (h:VS k j=some true):j=k:=by
 obtain ⟨h1,h2⟩:=yQ hk (j:=j) (by rw [h];rfl)
 obtain ⟨r,hr,hi⟩:=MapKept.sameNow_of_keys hk h1
 rw [h2,h] at hr
 cases hr
 exact (hi.1 rfl).symm
theorem Qbu:∀ {l m:List Value},U7 l m=some true→m=l
 | [],[],_=>rfl
 | x::l,y::m,h=>by
  cases x <;> cases y <;> first | (simp [U7] at h;done) | skip
  unfold U7 at h
  split at h
  case h_2=>cases h
  rename_i r h1 h2
  simp only [Option.some.injEq,Bool.and_eq_true,beq_iff_eq] at h
  obtain ⟨h3,h4⟩:=h
  subst h4
  rw [Qbu h2,h3,of_decide_eq_true h1]
 | [],_::_,h=>by simp [U7] at h
 | x::_,[],h=>by cases x <;> simp [U7] at h
theorem Qbx {P:Program}:∀ {fs:List Field} {vs:List Value} {n:Nat},WO P n fs vs=true→fs.length=vs.length∧∀ v,v∈vs→∃ k z,v=.int k z
 | [],[],_,_=>⟨rfl,fun v h=>by simp at h⟩
 | [],_::_,_,h=>by simp [WO] at h
 | g::fs,vs,n,h=>by
  cases vs with
  | nil=>simp [WO] at h
  | cons v vs =>
   cases v <;> first | (simp [WO] at h;done) | skip
   rename_i k z
   unfold WO at h
   split at h
   case h_2=>cases h
   simp only [Bool.and_eq_true] at h
   obtain ⟨h1,h2⟩:=Qbx h.2
   refine ⟨by simp [h1],fun v hv=>?_⟩
   rcases List.mem_cons.1 hv with rfl | hv
   ·exact ⟨k,z,rfl⟩
   ·exact h2 v hv
theorem ug {P:Program} {xs ys:Array Value} {n:Nat} {fs:List Field} {vs us:List Value} (hx:xs.toList.drop n=vs) (hy:ys.toList.drop n=us) (h:WO P n fs vs=true):(∀ f fs',fs=f::fs'→∃ j z vs',P.underlying f.type=some (.int j)∧f.name≠ "_"∧f.offset=n∧vs=.int j z::vs'∧xs[n]?=some (.int j z)∧xs.toList.drop (n+1)=vs'∧WO P (n+1) fs' vs'=true):=by
 rintro f fs' rfl
 cases vs with
 | nil=>simp [WO] at h
 | cons v vs =>
  cases v <;> first | (simp [WO] at h;done) | skip
  rename_i k z
  unfold WO at h
  split at h
  case h_2=>cases h
  rename_i j hu
  simp only [Bool.and_eq_true,bne_iff_ne,ne_eq] at h
  obtain ⟨⟨⟨h1,h2⟩,h3⟩,h4⟩:=h
  have hjk:=of_decide_eq_true h1
  subst hjk
  refine ⟨j,z,vs,hu,h3,Nat.eq_of_beq_eq_true h2,rfl,?_,?_,h4⟩
  ·have:(xs.toList.drop n)[0]?=some (.int j z):=by rw [hx];rfl
   simpa using this
  ·rw [← List.drop_drop,hx];rfl
theorem kr {D:Nat} {xs ys:Array Value}:∀ (fs:List Field) (n:Nat) (vs us:List Value) (r:Bool),xs.toList.drop n=vs→ys.toList.drop n=us→WO cx.P n fs vs=true→U7 vs us=some r →
      (forIn fs (none,()) fun (fd:Field) (_:Option Bool×Unit)=>(if fd.name≠ "_" then do
          let a ← part fd.type xs fd.offset
          let c ← part fd.type ys fd.offset
          let r ← Op.equalIn (D+1) fd.type a c
          if (!r)=true then pure (ForInStep.done (some false,())) else pure (ForInStep.yield (none,()))
        else pure (ForInStep.yield (none,())):Sem (ForInStep (Option Bool×Unit)))).run cx.P w=.ok (if r then (none,()) else (some false,())) w
  | [],n,vs,us,r,hx,hy,hf,hi=>by
    cases vs with
    | nil =>
      cases us with
      | nil=>simp only [U7,Option.some.injEq] at hi;subst hi;simp [Sem.run_pure]
      | cons u us=>simp [U7] at hi
    | cons v vs=>simp [WO] at hf
  | f::fs,n,vs,us,r,hx,hy,hf,hi=>by
    obtain ⟨j,z,vs',hu,hn,ho,rfl,hxn,hxd,hf'⟩:=ug hx hy hf f fs rfl
    cases us with
    | nil=>simp [U7] at hi
    | cons u us =>
      cases u <;> first | (simp [U7] at hi;done) | skip
      rename_i k z'
      unfold U7 at hi
      split at hi
      case h_2=>cases hi
      rename_i q hk hq
      have hjk:=of_decide_eq_true hk
      subst hjk
      simp only [Option.some.injEq] at hi;subst hi
      have hyn:ys[n]?=some (.int j z'):=by
        have:(ys.toList.drop n)[0]?=some (.int j z'):=by rw [hy];rfl
        simpa using this
      have hyd:ys.toList.drop (n+1)=us:=by rw [← List.drop_drop,hy];rfl
      have he:(Op.equalIn (D+1) f.type (.int j z) (.int j z')).run cx.P w=.ok (z == z') w:=by
        unfold Op.equalIn
        simp only [Sem.run_bind,Qh hu w,Result.andThen_ok,if_true,Sem.run_pure]
      rw [List.forIn_cons,Sem.run_bind,if_pos hn,ho]
      simp only [Sem.run_bind,JN hu hxn,JN hu hyn,he,Result.andThen_ok]
      cases hzz:(z == z') with
      | true =>
        simp only [Bool.not_true,Bool.false_eq_true,if_false,Sem.run_pure,Result.andThen_ok,Bool.true_and]
        exact kr fs (n+1) vs' us q hxd hyd hf' hq
      | false=>simp [Sem.run_pure,Result.andThen_ok]
theorem Qcw {t:TypeId} {fs:Array Field} {xs ys:Array Value} {r:Bool} (hu:cx.P.underlying t=some (.struct fs)) (hs:cx.P.stoodInHeld t=false) (hf:WO cx.P 0 fs.toList xs.toList=true) (hi:U7 xs.toList ys.toList=some r) :
  (Op.equal t (.agg xs) (.agg ys)).run cx.P w=.ok r w:=by
 have:=kr (cx:=cx) (w:=w) (D:=9998) (xs:=xs) (ys:=ys) fs.toList 0 _ _ r rfl rfl (by simpa using hf) (by simpa using hi)
 unfold Op.equal Op.maxDepth Op.equalIn
 simp only [Sem.run_bind,Qh hu w,run_program,Result.andThen_ok,hs,Bool.false_eq_true,if_false]
 rw [← Array.forIn_toList,this]
 cases r <;> simp [Result.andThen_ok,Sem.run_pure]
theorem X7 {D:Nat} {e:Bool} {xs:Array Value}:∀ (fs:List Field) (n:Nat) (vs:List Value),xs.toList.drop n=vs→WO cx.P n fs vs=true →
      (forIn fs () fun (fd:Field) (_:Unit)=>(if fd.name≠ "_" then do
          let a ← part fd.type xs fd.offset
          Instr.checkKey e (D+1) fd.type a
          pure (ForInStep.yield ())
        else pure (ForInStep.yield ()):Sem (ForInStep Unit))).run cx.P w=.ok () w
  | [],n,vs,hx,hf=>by simp [Sem.run_pure]
  | f::fs,n,vs,hx,hf=>by
    obtain ⟨j,z,vs',hu,hn,ho,rfl,hxn,hxd,hf'⟩:=ug (ys:=xs) hx hx hf f fs rfl
    have he:(Instr.checkKey e (D+1) f.type (.int j z)).run cx.P w=.ok () w:=by
      unfold Instr.checkKey
      simp only [Sem.run_bind,Qh hu w,Result.andThen_ok,Sem.run_pure]
    rw [List.forIn_cons,Sem.run_bind,if_pos hn,ho]
    simp only [Sem.run_bind,JN hu hxn,he,Result.andThen_ok,Sem.run_pure]
    exact X7 fs (n+1) vs' hxd hf'
theorem X3 (D:Nat):∀ {l:List Value},(∀ v,v∈l→∃ k z,v=.int k z)→((l.zip l).all fun (x,y)=>Instr.sameBits D x y)=true
 | [],_=>rfl
 | v::l,h=>by
  obtain ⟨k,z,rfl⟩:=h v List.mem_cons_self
  have ih:=X3 D (l:=l) fun v hv=>h v (List.mem_cons_of_mem _ hv)
  simp only [List.zip_cons_cons,List.all_cons,ih,Bool.and_true]
  simp [Instr.sameBits]
structure KeyOK (cx:Cx) (t:TypeId) (k:Value):Prop where
 check:∀ (e:Bool) (w:World),(Instr.checkKey e 10000 t k).run cx.P w=.ok () w
 stay:∀ w:World,(Instr.keyThatStays k k).run cx.P w=.ok k w
 same:∀ j:Value,VS k j=some true→j=k
 ask:(∃ d,cx.P.underlying t=some d∧∀ j r,VS k j=some r→Instr.sameNow d k j=some r) ∨
  (∃ d,cx.P.underlying t=some d∧(∀ j,Instr.sameNow d k j=none)∧∀ (w:World) j r,VS k j=some r→(Op.equal t k j).run cx.P w=.ok r w)
theorem jS {t:TypeId} {k:Value} (h:XC cx t k=true):KeyOK cx t k:=by
 rcases yq h with h1 | ⟨fs,cs,hu,rfl,hs,hf⟩
 ·obtain ⟨d,hd,hik⟩:=Qcs h1
  refine ⟨fun e w=>MapKept.run_checkKey hd hik e _,fun w=>MapKept.run_keyThatStays hik,fun j hj=>Qdu hik hj,.inl ⟨d,hd,fun j r hj=>?_⟩⟩
  rw [(yQ hik (j:=j) (by rw [hj];rfl)).2,hj]
 ·refine ⟨fun e w=>?_,fun w=>?_,fun j hj=>?_,.inr ⟨_,hu,fun j=>?_,fun w j r hj=>?_⟩⟩
  ·have:=X7 (cx:=cx) (w:=w) (D:=9998) (e:=e) (xs:=cs) fs.toList 0 _ rfl (by simpa using hf)
   unfold Instr.checkKey
   simp only [Sem.run_bind,Qh hu w,Result.andThen_ok]
   rw [← Array.forIn_toList]
   refine Eq.trans (congrArg (Result.andThen · _) this) ?_
   rfl
  ·have:Instr.sameBits 10000 (.agg cs) (.agg cs)=true:=by
    have:=X3 9999 (Qbx hf).2
    simp only [Instr.sameBits,beq_self_eq_true,Bool.true_and]
    exact this
   simp [Instr.keyThatStays,this]
  ·cases j <;> first | (simp [VS] at hj;done) | skip
   rename_i bs
   have:=Qbu (show U7 cs.toList bs.toList=some true from hj)
   rw [Array.toList_inj.1 this]
  ·cases j <;> rfl
  ·cases j <;> first | (simp [VS] at hj;done) | skip
   exact Qcw hu hs hf hj
theorem QbA {M:Nat→Prop} {t:TypeId} {k:Value} (hk:KeyOK cx t k):∀ (es:List D) (l:List MapEntry) (i:Nat),MR w M es l→mok k es=true→∀ f:List MapEntry→Nat→Option (Option (Nat×Value)),
  (∀ i,f [] i=some none)→(∀ e l i,e.key=e.key→∀ r,VS k e.key=some r→f (e::l) i=if r then some (some (i,e.val)) else f l (i+1)) →
  (QD k es=none∧f l i=some none∧∀ y,Qw k y es=es++[.tup [.v k,y]]) ∨
  ∃ j e x,QD k es=some x∧f l i=some (some (i+j,e.val))∧l[j]?=some e∧e.key=k∧DR w M x e.val∧∀ y,Qw k y es=es.set j (.tup [.v k,y])
 | [],[],i,_,_,f,hf,_=>.inl ⟨rfl,hf i,fun _=>rfl⟩
 | [],_::_,_,h,_,_,_,_=>h.elim
 | _::_,[],_,h,_,_,_,_=>h.elim
 | d0::es,e::l,i,h,ho,f,hf0,hf=>by
  obtain ⟨⟨x,hx,hv⟩,h2⟩:=h
  subst hx
  have hko:keyOf (.tup [.v e.key,x])=some (e.key,x):=rfl
  unfold mok at ho
  rw [hko] at ho
  simp only [Bool.and_eq_true] at ho
  cases hs:VS k e.key with
  | none=>rw [hs] at ho;exact absurd ho.1 (by simp)
  | some b =>
   have q2:=hf e l i rfl b hs
   cases b with
   | true =>
    refine .inr ⟨0,e,x,?_,by simpa using q2,rfl,hk.same _ hs,hv,fun y=>?_⟩
    ·unfold QD;rw [hko];simp only [hs]
    ·unfold Qw;rw [hko];simp only [hs];rfl
   | false =>
    simp only [Bool.false_eq_true,if_false] at q2
    rcases QbA hk es l (i+1) h2 ho.2 f hf0 hf with ⟨r1,r2,r3⟩ | ⟨j,e',x',r1,r2,r3,r4,r5,r6⟩
    ·refine .inl ⟨?_,by rw [q2,r2],fun y=>?_⟩
     ·unfold QD;rw [hko];simp only [hs];exact r1
     ·unfold Qw;rw [hko];simp only [hs,r3];rfl
    ·refine .inr ⟨j+1,e',x',?_,?_,by simpa using r3,r4,r5,fun y=>?_⟩
     ·unfold QD;rw [hko];simp only [hs];exact r1
     ·rw [q2,r2];congr 3;omega
     ·unfold Qw;rw [hko];simp only [hs,r6];rfl
def wb (k:Value):List MapEntry→Nat→Option (Option (Nat×Value))
 | [],_=>some none
 | e::l,i=>match VS k e.key with
  | some true=>some (some (i,e.val))
  | some false=>wb k l (i+1)
  | none=>none
theorem Qd5 (k:Value) (e:MapEntry) (l:List MapEntry) (i:Nat) (r:Bool) (h:VS k e.key=some r):wb k (e::l) i=if r then some (some (i,e.val)) else wb k l (i+1):=by
 rw [wb,h];cases r <;> rfl
theorem kl {d:TypeDesc} {k:Value} (h:∀ j r,VS k j=some r→Instr.sameNow d k j=some r):∀ (l:List MapEntry) (i:Nat) (o:Option (Nat×Value)),wb k l i=some o→Instr.findNow d k l i=some o
 | [],i,o,hq=>by simpa [wb,Instr.findNow] using hq
 | e::l,i,o,hq=>by
  unfold wb at hq
  cases hs:VS k e.key with
  | none=>rw [hs] at hq;cases hq
  | some b =>
   rw [hs] at hq
   cases b with
   | true =>
    simp only [Option.some.injEq] at hq;subst hq
    simp [Instr.findNow,h _ _ hs]
   | false =>
    simp only at hq
    simp only [Instr.findNow,h _ _ hs]
    exact kl h l (i+1) o hq
theorem X6 {t:TypeId} {k:Value} (h:∀ (w:World) j r,VS k j=some r→(Op.equal t k j).run cx.P w=.ok r w):∀ (l:List MapEntry) (i:Nat) (o:Option (Nat×Value)),wb k l i=some o→(Instr.findAsking t k l i).run cx.P w=.ok o w
 | [],i,o,hq=>by
  simp only [wb,Option.some.injEq] at hq;subst hq
  simp [Instr.findAsking,Sem.run_pure]
 | e::l,i,o,hq=>by
  unfold wb at hq
  unfold Instr.findAsking
  cases hs:VS k e.key with
  | none=>rw [hs] at hq;cases hq
  | some b =>
   rw [hs] at hq
   simp only [Sem.run_bind,h w _ _ hs,Result.andThen_ok]
   cases b with
   | true =>
    simp only [Option.some.injEq] at hq;subst hq
    simp [Sem.run_pure]
   | false =>
    simp only at hq
    simp only [Bool.false_eq_true,if_false]
    exact X6 h l (i+1) o hq
theorem ko {t:TypeId} {k:Value} (hk:KeyOK cx t k) {l:List MapEntry} {o:Option (Nat×Value)} (h:wb k l 0=some o):(Instr.findKey t k l).run cx.P w=.ok o w:=by
 rcases hk.ask with ⟨d,hd,hn⟩ | ⟨d,hd,hn,he⟩
 ·exact MapKept.run_findKey hd (kl hn l 0 o h)
 ·cases l with
  | nil=>exact MapKept.run_findKey hd (by simpa [wb,Instr.findNow] using h)
  | cons e l =>
   have:Instr.findNow d k (e::l) 0=none:=by simp [Instr.findNow,hn]
   simp only [Instr.findKey,Sem.run_bind,Qh hd w,Result.andThen_ok,this]
   exact X6 he (e::l) 0 o h
theorem kj {M:Nat→Prop} {t:TypeId} {k:Value} (hk:KeyOK cx t k) (es:List D) (l:List MapEntry) (h:MR w M es l) (ho:mok k es=true) :
  (QD k es=none∧(Instr.findKey t k l).run cx.P w=.ok none w∧∀ y,Qw k y es=es++[.tup [.v k,y]]) ∨
  ∃ j e x,QD k es=some x∧(Instr.findKey t k l).run cx.P w=.ok (some (j,e.val)) w∧l[j]?=some e∧e.key=k∧DR w M x e.val∧∀ y,Qw k y es=es.set j (.tup [.v k,y]):=by
 rcases QbA hk es l 0 h ho (wb k) (fun _=>rfl) (fun e l i _ r hr=>Qd5 k e l i r hr) with ⟨q1,q2,q3⟩ | ⟨j,e,x,q1,q2,q3⟩
 ·exact .inl ⟨q1,ko hk q2,q3⟩
 ·rw [Nat.zero_add] at q2
  exact .inr ⟨j,e,x,q1,ko hk q2,q3⟩
theorem MR.set {M:Nat→Prop}:∀ {es:List D} {l:List MapEntry} (j:Nat) (d:D) (e:MapEntry),MR w M es l→(∃ x,d=.tup [.v e.key,x]∧DR w M x e.val)→MR w M (es.set j d) (l.set j e)
 | [],[],_,_,_,_,_=>trivial
 | _::_,_::_,0,_,_,h,k=>⟨k,h.2⟩
 | _::_,_::_,j+1,d,e,h,k=>⟨h.1,MR.set j d e h.2 k⟩
 | [],_::_,_,_,_,h,_=>h.elim
 | _::_,[],_,_,_,h,_=>h.elim
theorem MR.push {M:Nat→Prop}:∀ {es:List D} {l:List MapEntry} (d:D) (e:MapEntry),MR w M es l→(∃ x,d=.tup [.v e.key,x]∧DR w M x e.val)→MR w M (es++[d]) (l++[e])
 | [],[],_,_,_,k=>⟨k,trivial⟩
 | _::_,_::_,d,e,h,k=>⟨h.1,MR.push d e h.2 k⟩
 | [],_::_,_,_,h,_=>h.elim
 | _::_,[],_,_,h,_=>h.elim
theorem zD (h:HSim cx F hp ρ w) {m:AV} {b:Nat} {es:List D} {mv:Value} (hm:GV hp m=some (b,es)) (hx:VR w (MM F hp ρ) hp ρ m mv) :
  look hp b=some (.mp es)∧mv=ρ b∧∃ r es' c,ρ b=.map (some r)∧w.heap[r]?=some (.map es' c)∧MRB w (MM F hp ρ) es es'.toList c:=by
 unfold GV at hm
 split at hm
 case h_2=>cases hm
 rename_i b0 v0
 cases hx with
 | own _ _ kk _ hb hv hone hh =>
  rw [hb] at hm
  split at hm
  case h_2=>cases hm
  rename_i es0 heq
  cases heq
  simp only [Option.some.injEq,Prod.mk.injEq] at hm
  obtain ⟨rfl,rfl⟩:=hm
  refine ⟨hb,hh ?_,h.blk _ _ hb⟩
  simp only [Blk.ver] at hv ⊢
  omega
theorem Gp (h:HSim cx F hp ρ w) {t:TypeId} {m k x:AV} {mv kv xv:Value} (hr:V8 cx sym orc hp t m k x=some r) (ho:∀ q,q∈r.ob→q)
  (hm:VR w (MM F hp ρ) hp ρ m mv) (hk:VR w (MM F hp ρ) hp ρ k kv) (hx:VR w (MM F hp ρ) hp ρ x xv) :
  ∃ w',(Instr.mapUpdate t mv kv xv).run cx.P w=.ok () w'∧OpOK cx F hp ρ w r.up r.val undef w':=by
 unfold V8 at hr
 split at hr
 case h_2=>cases hr
 rename_i kt et b es kv' xd hu hom hkv hxd
 split at hr
 case h_2=>cases hr
 rename_i ob o' hkf how
 simp only [Option.some.injEq] at hr;subst hr
 obtain ⟨hb,rfl,r0,es',c,h1,h2,h3⟩:=zD h hom hm
 have hke:=UP hkv hk
 subst hke
 have hxv:=YG w (MM F hp ρ) hp ρ x xv xd hxd hx
 have hik:=jS hkf
 have hok:=Zm how ho
 have hlt:r0 < w.heap.size:=(Array.getElem?_eq_some_iff.1 h2).1
 have key:∀ (es2:Array MapEntry) (c2:Nat),(Instr.mapUpdate t (.map (some r0)) kv xv).run cx.P w=.ok () { w with heap:=w.heap.setIfInBounds r0 (.map es2 c2) } →
   MRB w (MM F hp ρ) (Qw kv xd es) es2.toList c2→∃ w',(Instr.mapUpdate t (ρ b) kv xv).run cx.P w=.ok () w'∧OpOK cx F hp ρ w [(b,.mp (Qw kv xd es))] (.d (.v undef)) undef w':=by
  intro es2 c2 hrun hmr
  rw [h1]
  refine ⟨_,hrun,?_⟩
  have hset:=MapKept.heap_set (w:=w) (r:=r0) (o':=Obj.map es2 c2) h2
  obtain ⟨g1,g2⟩:=h.write (b:=b) (k0:=.mp es) (k:=.mp (Qw kv xd es)) (v:=ρ b) (r:=r0) (w':={ w with heap:=w.heap.setIfInBounds r0 (.map es2 c2) }) hb rfl (by rw [h1];rfl) (by rw [h1];rfl) (.inr ⟨rfl,rfl⟩)
   ⟨fun _=>Nat.le_refl _,rfl,rfl,rfl,by simp,fun q _ hq=>hset.2 q hq⟩ (fun hst=>by
    refine ⟨r0,es2,c2,by rw [Qo];exact h1,hset.1,?_⟩
    exact hmr.ext hst.ext.size (fun q hq hnm=>hst.ext.same q hq fun hmu=>hnm (.inr hmu)) (fun q hq hmm=>hmm.imp id (hst.mt q hq)))
  exact ⟨_,g1,g2,.d _ _ (.v _)⟩
 rcases kj hik es es'.toList h3.1 hok with ⟨q1,q2,q3⟩ | ⟨j,e,y,q1,q2,q3,q4,q5,q6⟩
 ·refine key (es'.push { key:=kv,val:=xv,born:=c }) (c+1) ?_ ?_
  ·simp [Instr.mapUpdate,Qh hu,MapKept.run_getObj_map h2,hik.check,q2,MapKept.run_setObj_map _ h2,Result.andThen]
  ·rw [q3,Array.toList_push]
   refine ⟨h3.1.push _ _ ⟨xd,rfl,hxv⟩,fun x hx=>?_,?_⟩
   ·rcases List.mem_append.1 hx with hx | hx
    ·have:=h3.2.1 x hx;omega
    ·rcases List.mem_cons.1 hx with rfl | hx
     ·exact Nat.lt_succ_self c
     ·cases hx
   ·rw [List.map_append,List.nodup_append]
    refine ⟨h3.2.2,by simp,fun a ha b hb=>?_⟩
    obtain ⟨x,hx,rfl⟩:=List.mem_map.1 ha
    rcases List.mem_cons.1 hb with hbc | hb
    ·have:=h3.2.1 x hx
     rw [hbc]
     show x.born≠c
     omega
    ·cases hb
 ·have hj:es'[j]?=some e:=by simpa using q3
  refine key (es'.modify j fun e=>{ e with key:=kv,val:=xv }) c ?_ ?_
  ·simp [Instr.mapUpdate,Qh hu,MapKept.run_getObj_map h2,hik.check,q2,hj,q4,hik.stay,MapKept.run_setObj_map _ h2,Result.andThen]
  ·have hml:(es'.modify j fun e=>{ e with key:=kv,val:=xv }).toList=es'.toList.set j { e with key:=kv,val:=xv }:=by
    apply List.ext_getElem?
    intro i
    rw [Array.getElem?_toList,Array.getElem?_modify,List.getElem?_set,Array.getElem?_toList]
    by_cases hij:j=i
    ·subst hij
     have hjl:j < es'.toList.length:=(List.getElem?_eq_some_iff.1 q3).1
     simp only [if_true,hj,Option.map_some,if_pos hjl]
    ·simp only [if_neg hij]
   rw [q6,hml]
   have hje:es'.toList[j]?=some e:=q3
   have hmb:(es'.toList.set j { e with key:=kv,val:=xv }).map (·.born)=es'.toList.map (·.born):=by
    apply List.ext_getElem?
    intro i
    rw [List.getElem?_map,List.getElem?_map,List.getElem?_set]
    by_cases hij:j=i
    ·subst hij
     rw [if_pos rfl,if_pos (List.getElem?_eq_some_iff.1 hje).1,hje];rfl
    ·rw [if_neg hij]
   refine ⟨h3.1.set _ _ _ ⟨xd,rfl,hxv⟩,fun x hx=>?_,by rw [hmb];exact h3.2.2⟩
   have hxm:x.born∈(es'.toList.set j { e with key:=kv,val:=xv }).map (·.born):=List.mem_map.2 ⟨x,hx,rfl⟩
   rw [hmb] at hxm
   obtain ⟨y',hy',hye⟩:=List.mem_map.1 hxm
   rw [← hye];exact h3.2.1 y' hy'
theorem Qbp {M:Nat→Prop} {t:TypeId} {k:Value} {ok:Bool} {z:Value} {es:List D} {l:List MapEntry} {x:D} (hk:KeyOK cx t k) (h:MR w M es l) (hl:QU ok k (ofV z) es=some x) :
  ∃ o,(Instr.findKey t k l).run cx.P w=.ok o w∧((o=none∧(if ok then x=.tup [ofV z,.v (.bool false)] else x=ofV z)) ∨ ∃ j v y,o=some (j,v)∧DR w M y v∧(if ok then x=.tup [y,.v (.bool true)] else x=y)):=by
 unfold QU at hl
 split at hl
 ·cases hl
 rename_i hok
 rcases kj hk es l h hok with ⟨q1,q2,_⟩ | ⟨j,e,y,q1,q2,q3,q4,q5,_⟩
 ·refine ⟨_,q2,.inl ⟨rfl,?_⟩⟩
  rw [q1] at hl
  cases ok <;> simp_all
 ·refine ⟨_,q2,.inr ⟨_,_,y,rfl,q5,?_⟩⟩
  rw [q1] at hl
  cases ok <;> simp_all
theorem QdU (h:HSim cx F hp ρ w) {m:AV} {es:List D} {mv:Value} (hm:zS hp m=some es) (hx:VR w (MM F hp ρ) hp ρ m mv) :
  ∃ r es' c,mv=.map (some r)∧w.heap[r]?=some (.map es' c)∧MR w (MM F hp ρ) es es'.toList:=by
 unfold zS at hm
 split at hm
 ·rename_i b ver
  split at hm
  case h_2=>cases hm
  rename_i es0 hb
  simp only [Option.some.injEq] at hm;subst hm
  obtain ⟨_,rfl,r,es',c,h1,h2,h3⟩:=zD (b:=b) (es:=es0) h (by unfold GV;simp only [hb]) hx
  exact ⟨r,es',c,h1,h2,h3.1⟩
 ·simp only [Option.some.injEq] at hm;subst hm
  cases hx;rename_i hd
  exact hd.mr
 ·cases hm
theorem Qai (h:HSim cx F hp ρ w) {t:TypeId} {m k:AV} {ok:Bool} {mv kv:Value} (hr:XJ cx sym orc hp t m k ok=some r) (ho:∀ q,q∈r.ob→q)
  (hm:VR w (MM F hp ρ) hp ρ m mv) (hk:VR w (MM F hp ρ) hp ρ k kv) :
  ∃ v,(Instr.lookup t mv kv ok).run cx.P w=.ok v w∧OpOK cx F hp ρ w r.up r.val v w:=by
 unfold XJ at hr
 split at hr
 case h_2=>cases hr
 rename_i kt et es kv' hu hom hkv
 obtain ⟨r0,es',c,rfl,h2,h3⟩:=QdU h hom hm
 have hke:=UP hkv hk
 subst hke
 have key:∀ (z:Value) (x:D),XC cx kt kv=true→cx.zero et=some z→QU ok kv (ofV z) es=some x →
   ∃ v,(Instr.lookup t (.map (some r0)) kv ok).run cx.P w=.ok v w∧OpOK cx F hp ρ w [] (.d x) v w:=by
  intro z x hkf hz hx
  have hik:=jS hkf
  have hzr:=VZ hz w
  have hzd:DR w (MM F hp ρ) (ofV z) z:=QeD _ _ z
  obtain ⟨o,q1,q2⟩:=Qbp hik h3 hx
  rcases q2 with ⟨rfl,q3⟩ | ⟨j,v,y,rfl,q3,q4⟩
  ·cases ok with
   | true =>
    simp only [if_true] at q3;subst q3
    refine ⟨.tuple #[z,.bool false],?_,OpOK.quiet h (.d _ _ ?_)⟩
    ·simp [Instr.lookup,Qh hu,MapKept.run_getObj_map h2,hik.check,q1,hzr,Result.andThen]
    ·refine .tup _ [z,.bool false] rfl fun i c y hc hy=>?_
     match i with
     | 0=>cases hc;cases hy;exact hzd
     | 1=>cases hc;cases hy;exact .v _
     | i+2=>simp at hc
   | false =>
    simp only [if_false,Bool.false_eq_true] at q3;subst q3
    refine ⟨z,?_,OpOK.quiet h (.d _ _ hzd)⟩
    simp [Instr.lookup,Qh hu,MapKept.run_getObj_map h2,hik.check,q1,hzr,Result.andThen]
  ·cases ok with
   | true =>
    simp only [if_true] at q4;subst q4
    refine ⟨.tuple #[v,.bool true],?_,OpOK.quiet h (.d _ _ ?_)⟩
    ·simp [Instr.lookup,Qh hu,MapKept.run_getObj_map h2,hik.check,q1,Result.andThen]
    ·refine .tup _ [v,.bool true] rfl fun i c y hc hy=>?_
     match i with
     | 0=>cases hc;cases hy;exact q3
     | 1=>cases hc;cases hy;exact .v _
     | i+2=>simp at hc
   | false =>
    simp only [if_false,Bool.false_eq_true] at q4;subst q4
    refine ⟨v,?_,OpOK.quiet h (.d _ _ q3)⟩
    simp [Instr.lookup,Qh hu,MapKept.run_getObj_map h2,hik.check,q1,Result.andThen]
 split at hr
 ·rename_i z x o' hkf hz _
  simp only [Option.some.injEq] at hr;subst hr
  exact key z x hkf hz (ho _ List.mem_cons_self)
 ·rename_i z o' hkf hz _
  split at hr
  case h_2=>cases hr
  rename_i x hx
  simp only [Option.some.injEq] at hr;subst hr
  exact key z x hkf hz hx
 ·cases hr
theorem yp (h:HSim cx F hp ρ w) {name:Nat} (t:TypeId) (hn:look hp name=none):∃ v w',(Instr.makeMap t none).run cx.P w=.ok v w'∧OpOK cx F hp ρ w [(name,.mp [])] (.own name 0) v w':=by
 refine ⟨.map (some w.heap.size),w.alloc (.map #[] 0),rfl,?_⟩
 obtain ⟨g1,g2⟩:=h.freshO (b:=name) (k:=.mp []) (v:=.map (some w.heap.size)) (.map #[] 0) (fun r hr=>by simp only [Qx,Option.some.injEq] at hr;exact hr.symm) (fun k0 hk0=>by rw [hn] at hk0;cases hk0)
  (fun hst=>⟨w.heap.size,#[],0,Qo _ _ _,Q7 _ _,trivial,fun x hx=>(by cases hx),List.nodup_nil⟩)
 exact ⟨_,g1,g2,.own name 0 _ _ (Qd _ _ _) (Nat.le_refl _) rfl fun _=>(Qo _ _ _).symm⟩
theorem HSim.box_frozen (h:HSim cx F hp ρ w) {b:Nat} {x:AV} {ds:List D} (hb:look hp b=some (.box x)) (hxd:x.toD=some (.agg ds)) :
  HSim cx F ((b,.fbox (.agg ds))::hp) ρ w∧Steps1 hp ρ w ((b,.fbox (.agg ds))::hp) ρ w:=by
 have hmut:∀ q,Mut ((b,.fbox (.agg ds))::hp) ρ q→∃ n k,n≠b∧look hp n=some k∧k.live=true∧Qx (ρ n)=some q:=by
  rintro q ⟨n,k',hn,hm,hq⟩
  by_cases hnb:n=b
  ·subst hnb;rw [Qd] at hn;cases hn;cases hm
  ·rw [Qa _ _ (Ne.symm hnb)] at hn;exact ⟨n,k',hnb,hn,hm,hq⟩
 have hst:Steps1 hp ρ w ((b,.fbox (.agg ds))::hp) ρ w:=by
  refine ⟨Ext.refl _ _,fun q _ hm=>?_,⟨fun n k1 hn=>?_⟩⟩
  ·obtain ⟨n,k,_,h1,h2,h3⟩:=hmut q hm;exact ⟨n,k,h1,h2,h3⟩
  ·by_cases hnb:n=b
   ·subst hnb;rw [hb] at hn;cases hn;exact ⟨_,Qd _ _ _,Nat.le_refl _,fun _=>rfl⟩
   ·exact ⟨k1,by rw [Qa _ _ (Ne.symm hnb)];exact hn,Nat.le_refl _,fun _=>rfl⟩
 have hB:BlkR w (MM F ((b,.fbox (.agg ds))::hp) ρ) ((b,.fbox (.agg ds))::hp) ρ b (.fbox (.agg ds)):=by
  obtain ⟨r,e,v,cs',h1,h2,h3,h4⟩:=h.blk b _ hb
  have hroot:Qx (ρ b)=some r:=by rw [h1];rfl
  have hlt:r < w.heap.size:=(h.blk b _ hb).root_lt rfl hroot
  refine ⟨r,h1,?_,hlt,fun j c hj=>?_⟩
  ·rintro (hF | hM)
   ·exact h.forb r ⟨b,_,hb,rfl,hroot⟩ hF
   ·obtain ⟨n,k,hnb,g1,g2,g3⟩:=hmut r hM
    exact hnb (h.inj n b k _ r g1 hb g2 rfl g3 hroot)
  ·have hdr:DR w (MM F hp ρ) (.agg ds) v:=YG w (MM F hp ρ) hp ρ x v _ hxd h4
   obtain ⟨y,hy,hyd⟩:=Qd1 hdr j c hj
   exact ⟨y,by rw [Nat.zero_add,Vj h2];exact hy,hst.dr hyd⟩
 refine ⟨h.step hst (fun n k' hn=>?_) (fun n n' k1 k2 q h1 h2 m1 m2 r1 r2=>?_) (fun q hq=>?_),hst⟩
 ·by_cases hnb:n=b
  ·subst hnb;rw [Qd] at hn;cases hn;exact .inr hB
  ·rw [Qa _ _ (Ne.symm hnb)] at hn;exact .inl ⟨hn,rfl,fun _ _ _=>rfl⟩
 ·have key:∀ n k1,look ((b,Blk.fbox (.agg ds))::hp) n=some k1→k1.live=true→look hp n=some k1:=by
   intro n k1 hn hm
   by_cases hnb:n=b
   ·subst hnb;rw [Qd] at hn;cases hn;cases hm
   ·rw [Qa _ _ (Ne.symm hnb)] at hn;exact hn
  exact h.inj n n' k1 k2 q (key n k1 h1 m1) (key n' k2 h2 m2) m1 m2 r1 r2
 ·obtain ⟨n,k,_,h1,h2,h3⟩:=hmut q hq;exact h.forb q ⟨n,k,h1,h2,h3⟩
theorem Qey (h:HSim cx F hp ρ w) (b:Nat):HSim cx F (preB hp b) ρ w∧Steps1 hp ρ w (preB hp b) ρ w:=by
 unfold preB
 split
 ·rename_i x hb
  split
  ·rename_i ds hd
   exact h.box_frozen hb hd
  ·exact ⟨h,Steps1.refl _ _ _⟩
 ·exact ⟨h,Steps1.refl _ _ _⟩
theorem yX:∀ (l:List Nat) (hp:List (Nat×Blk)),HSim cx F hp ρ w→HSim cx F (Qbd hp l) ρ w∧Steps1 hp ρ w (Qbd hp l) ρ w
 | [],hp,h=>⟨h,Steps1.refl _ _ _⟩
 | b::l,hp,h=>by
  obtain ⟨h1,h2⟩:=Qey h b
  obtain ⟨h3,h4⟩:=yX l _ h1
  exact ⟨h3,h2.trans h4⟩
theorem yY:∀ (l:List Nat) (hp:List (Nat×Blk)),∃ new,Qbd hp l=new++hp
 | [],_=>⟨[],rfl⟩
 | b::l,hp=>by
  obtain ⟨n1,e1⟩:=yY l (preB hp b)
  have:∃ n2,preB hp b=n2++hp:=by
   unfold preB
   split
   ·split
    ·exact ⟨[_],rfl⟩
    ·exact ⟨[],rfl⟩
   ·exact ⟨[],rfl⟩
  obtain ⟨n2,e2⟩:=this
  exact ⟨n1++n2,by rw [List.append_assoc,← e2];exact e1⟩
theorem qx:∀ (n s:Nat) (ds:List D),(wN n s ds).length=n
 | 0,_,_=>rfl
 | n+1,s,ds=>by simp [wN,qx n]
theorem ut:∀ (n s:Nat) (ds:List D) (i:Nat) (e:D),(wN n s ds)[i]?=some e→e=.agg ((ds.drop (i * s)).take s)∧i < n
 | 0,_,_,i,e,h=>by simp [wN] at h
 | n+1,s,ds,0,e,h=>by
  simp only [wN,List.getElem?_cons_zero,Option.some.injEq] at h
  subst h;simp
 | n+1,s,ds,i+1,e,h=>by
  simp only [wN,List.getElem?_cons_succ] at h
  obtain ⟨h1,h2⟩:=ut n s (ds.drop s) i e h
  refine ⟨?_,by omega⟩
  rw [h1,List.drop_drop]
  congr 3
  rw [Nat.add_mul,Nat.one_mul,Nat.add_comm]
theorem jB (h:HSim cx F hp ρ w) {t:TypeId} {b ver sz i off:Nat} {whole:Bool} {xv:Value} (hr:UT cx hp orc t b ver sz i off whole=some r) (hx:VR w (MM F hp ρ) hp ρ (.ptr b ver sz i off) xv) :
  whole=true∧∃ v,(Instr.sliceAt t xv none none none).run cx.P w=.ok v w∧OpOK cx F hp ρ w r.up r.val v w:=by
 unfold UT at hr
 split at hr
 case h_2=>cases hr
 rename_i ds up n elem hao hu
 split at hr
 case h_2=>cases hr
 rename_i s hs
 split at hr
 case h_2=>cases hr
 rename_i hc
 simp only [Option.some.injEq] at hr;subst hr
 simp only [Bool.and_eq_true,Nat.blt_eq] at hc
 obtain ⟨⟨⟨⟨⟨⟨⟨c1,c2⟩,c3⟩,c4⟩,c5⟩,c6⟩,c7⟩,c8⟩:=hc
 replace c2:=Nat.eq_of_beq_eq_true c2
 replace c3:=Nat.eq_of_beq_eq_true c3
 replace c4:=Nat.eq_of_beq_eq_true c4
 replace c5:=Nat.eq_of_beq_eq_true c5
 replace c6:=Nat.eq_of_beq_eq_true c6
 subst c2;subst c3;subst c4;subst c5
 refine ⟨c1,?_⟩
 have hpre:HSim cx F (up++hp) ρ w∧Steps1 hp ρ w (up++hp) ρ w∧look (up++hp) b=some (.fbox (.agg ds))∧∃ k,look hp b=some k∧k.ver=0:=by
  unfold qE at hao
  split at hao
  ·rename_i ds0 hb
   simp only [Option.some.injEq,Prod.mk.injEq] at hao
   obtain ⟨rfl,rfl⟩:=hao
   exact ⟨h,Steps1.refl _ _ _,hb,_,hb,rfl⟩
  ·rename_i x hb
   split at hao
   ·rename_i ds0 hd
    simp only [Option.some.injEq,Prod.mk.injEq] at hao
    obtain ⟨rfl,rfl⟩:=hao
    obtain ⟨g1,g2⟩:=h.box_frozen hb hd
    exact ⟨g1,g2,Qd _ _ _,_,hb,rfl⟩
   ·cases hao
  ·cases hao
 obtain ⟨g1,g2,hb,k1,hb1,hk1⟩:=hpre
 cases hx with
 | ptr _ _ _ _ _ k _ hb' hv ho hh =>
  rw [hb1] at hb';cases hb'
  obtain ⟨r0,q1,rfl⟩:=hh hk1.symm
  obtain ⟨r1,p1,p2,p3,p4⟩:=g1.blk b _ hb
  rw [p1] at q1
  simp only [Qx,Option.some.injEq] at q1
  subst q1
  have hone:∀ (j:Nat) (c:D),ds[j]?=some c→∃ x,c=.v x∧one x=true:=by
   intro j c hj
   have:=List.all_eq_true.1 c8 c (List.mem_of_getElem? hj)
   cases c with
   | v x=>exact ⟨x,rfl,this⟩
   | agg _=>cases this
   | tup _=>cases this
   | lst _ _ _=>cases this
   | fn _ _ _=>cases this
   | ref _ _=>cases this
   | nan _=>cases this
   | mp _=>cases this
  have hcell:∀ (j:Nat) (x:Value),ds[j]?=some (.v x)→w.cell? ⟨r1,j,none⟩=some x:=by
   intro j x hj
   obtain ⟨y,hy,hyd⟩:=p4 j (.v x) hj
   rw [Nat.zero_add] at hy
   cases hyd
   exact hy
  refine ⟨.slice (some ⟨r1,0,none⟩) n n,?_,⟨_,g1,g2,.d _ _ ?_⟩⟩
  ·have hz:=QB hs w
   simp [Instr.sliceAt,Qh hu,Instr.sureAddr,Instr.sliceBounds,hz,Result.andThen_ok]
   intro hn
   rw [add_at]
  ·have hgl:(Es s n ds).length=n:=by
    unfold Es
    split
    ·rename_i hs1
     have:=Nat.eq_of_beq_eq_true hs1
     subst this;omega
    ·exact qx n s ds
   have hge:∀ (i:Nat) (e:D),(Es s n ds)[i]?=some e→e.cells=(ds.drop (i * s)).take s∧i < n:=by
    intro i e he
    unfold Es at he
    split at he
    ·rename_i hs1
     have:=Nat.eq_of_beq_eq_true hs1
     subst this
     obtain ⟨x,rfl,_⟩:=hone i e he
     have hi:i < ds.length:=(List.getElem?_eq_some_iff.1 he).1
     refine ⟨?_,by omega⟩
     rw [Nat.mul_one,List.drop_eq_getElem_cons hi]
     have:=(List.getElem?_eq_some_iff.1 he).2
     simp [D.cells,this]
    ·obtain ⟨e1,e2⟩:=ut n s ds i e he
     subst e1;exact ⟨rfl,e2⟩
   have hlen:∀ i,i < n→i * s+s≤ds.length:=by
    intro i hi
    rw [c6]
    calc i * s+s=(i+1) * s:=by rw [Nat.add_mul,Nat.one_mul]
     _≤n * s:=Nat.mul_le_mul_right _ hi
   have hcells:∀ (i:Nat) (e:D) (j:Nat) (c:D),(Es s n ds)[i]?=some e→e.cells[j]?=some c→ds[i * s+j]?=some c:=by
    intro i e j c he hj
    obtain ⟨e1,e2⟩:=hge i e he
    rw [e1,List.getElem?_take] at hj
    split at hj
    ·rw [List.getElem?_drop] at hj;exact hj
    ·cases hj
   have key:=DR.lst (w:=w) (M:=MM F (up++hp) ρ) true s (Es s n ds) (some ⟨r1,0,none⟩) n r1 0 (fun j=>(w.cell? ⟨r1,j,none⟩).getD undef) (fun _=>hgl.symm) (by omega) (fun _=>⟨rfl,p2,p3⟩) (fun i e he=>by
     obtain ⟨e1,e2⟩:=hge i e he
     have:=hlen i e2
     rw [e1];simp;omega) (fun i e j c he hj=>by
     have hd:=hcells i e j c he hj
     obtain ⟨x,rfl,ho1⟩:=hone _ c hd
     have:=hcell _ x hd
     simp only [Nat.zero_add,this,Option.getD_some]
     exact ⟨trivial,ho1⟩) (fun i e j c he hj=>by
     have hd:=hcells i e j c he hj
     obtain ⟨x,rfl,ho1⟩:=hone _ c hd
     have:=hcell _ x hd
     simp only [this,Option.getD_some]
     exact .v _)
   rw [hgl] at key
   exact key
theorem QbU {M:Nat→Prop} {k:IntKind} {n:Int}:∀ {es:List D} {l:List MapEntry},MR w M es l→wc k n es=true→∀ x,x∈l→x.val=.int k n
 | [],[],_,_,x,hx=>by cases hx
 | _::es,e::l,h,ha,x,hx=>by
  obtain ⟨⟨y,rfl,hv⟩,h2⟩:=h
  unfold wc at ha
  have hk:keyOf (.tup [.v e.key,y])=some (e.key,y):=rfl
  rw [hk] at ha
  cases y with
  | v y =>
   cases y with
   | int k' m =>
    simp only [Bool.and_eq_true,decide_eq_true_eq] at ha
    obtain ⟨rfl,rfl,ha⟩:=ha
    rcases List.mem_cons.1 hx with rfl | hx
    ·generalize x.val=z at hv
     cases hv;rfl
    ·exact QbU h2 ha x hx
   | _=>cases ha
  | _=>cases ha
 | [],_::_,h,_,_,_=>h.elim
 | _::_,[],h,_,_,_=>h.elim
theorem MR.len {M:Nat→Prop}:∀ {es:List D} {l:List MapEntry},MR w M es l→l.length=es.length
 | [],[],_=>rfl
 | _::es,_::l,h=>by rw [List.length_cons,List.length_cons,MR.len h.2]
 | [],_::_,h=>h.elim
 | _::_,[],h=>h.elim
theorem ue (seen:Array Nat) (e:MapEntry) (hs:seen.contains e.born=false):∀ l:List MapEntry,(l.map (·.born)).Nodup→e∈l→(l.filter fun x=>!(seen.push e.born).contains x.born).length+1=(l.filter fun x=>!seen.contains x.born).length
 | [],_,he=>by cases he
 | a::l,hn,he=>by
  rw [List.map_cons,List.nodup_cons] at hn
  simp only [List.filter_cons,contains_push]
  rcases List.mem_cons.1 he with rfl | he
  ·have hno:∀ x,x∈l→x.born≠e.born:=fun x hx h=>hn.1 (List.mem_map.2 ⟨x,hx,h⟩)
   have e1:(l.filter fun x=>!(seen.contains x.born || x.born == e.born))=l.filter fun x=>!seen.contains x.born:=List.filter_congr fun x hx=>by simp [hno x hx]
   rw [e1,hs]
   simp
  ·have hne:a.born≠e.born:=fun h=>hn.1 (List.mem_map.2 ⟨e,he,h.symm⟩)
   have ih:=ue seen e hs l hn.2 he
   simp only [contains_push] at ih
   have hb:(a.born == e.born)=false:=by rw [beq_eq_false_iff_ne];exact hne
   rw [hb,Bool.or_false]
   cases hc:seen.contains a.born with
   | true=>simpa using ih
   | false =>
    simp only [Bool.not_false,if_true,List.length_cons]
    omega
theorem Qa7 (h:HSim cx F hp ρ w) {name:Nat} {t:TypeId} {x:AV} {xv:Value} (hr:QaA cx hp name orc t x=some r) (ho:∀ q,q∈r.ob→q) (hx:VR w (MM F hp ρ) hp ρ x xv) :
  ∃ v w',(Instr.range t xv).run cx.P w=.ok v w'∧OpOK cx F hp ρ w r.up r.val v w':=by
 unfold QaA at hr
 split at hr
 ·rename_i s hu hxv hn
  simp only [Option.some.injEq] at hr;subst hr
  have hxe:=UP hxv hx
  subst hxe
  refine ⟨.pointer (some ⟨w.heap.size,0,none⟩),w.alloc (.stringIter s 0),?_,?_⟩
  ·simp [Instr.range,Qh hu]
  obtain ⟨g1,g2⟩:=h.freshO (b:=name) (k:=.it (.str s) 0) (v:=.pointer (some ⟨w.heap.size,0,none⟩)) (.stringIter s 0) (fun r hr=>by simp only [Qx,Option.some.injEq] at hr;exact hr.symm) (fun k0 hk0=>by rw [hn] at hk0;cases hk0)
   (fun hst=>⟨w.heap.size,Qo _ _ _,Q7 _ _⟩)
  exact ⟨_,g1,g2,.own name 0 _ _ (Qd _ _ _) (Nat.le_refl _) rfl fun _=>(Qo _ _ _).symm⟩
 ·rename_i kt et hu hxv hn
  split at hr
  case h_2=>cases hr
  rename_i b es k n orc' hom
  simp only [Option.some.injEq] at hr;subst hr
  obtain ⟨hb,rfl,r0,es',c,h1,h2,h3⟩:=zD h hom hx
  obtain ⟨k1,k2,k3⟩:=h.kill hb
  have hlt:r0 < w.heap.size:=(Array.getElem?_eq_some_iff.1 h2).1
  have hnb:name≠b:=by intro e;subst e;rw [hn] at hb;cases hb
  have hn' : look ((b,Blk.dead)::hp) name=none:=by rw [Qa _ _ (Ne.symm hnb)];exact hn
  refine ⟨.pointer (some ⟨w.heap.size,0,none⟩),w.alloc (.mapIter (some r0) c #[] c),?_,?_⟩
  ·rw [h1];exact run_range_map w t kt et r0 es' c hu h2
  obtain ⟨g1,g2⟩:=k1.freshO (b:=name) (k:=.it (.mp (.int k n) es.length) es.length) (v:=.pointer (some ⟨w.heap.size,0,none⟩)) (.mapIter (some r0) c #[] c) (fun r hr=>by simp only [Qx,Option.some.injEq] at hr;exact hr.symm) (fun k0 hk0=>by rw [hn'] at hk0;cases hk0)
   (fun hst=>⟨w.heap.size,Qo _ _ _,r0,es',c,#[],Q7 _ _,fun hmm=>k3 r0 (by rw [h1];rfl) (hmm.imp id (hst.mt r0 hlt)),(heap_alloc_old _ _ hlt).trans h2,h3.2,QbU h3.1 (ho _ List.mem_cons_self),by
    rw [← h3.1.len]
    simp,fun hl=>absurd hl (Nat.lt_irrefl _)⟩)
  exact ⟨_,g1,k2.trans g2,.own name 0 _ _ (Qd _ _ _) (Nat.le_refl _) rfl fun _=>(Qo _ _ _).symm⟩
 ·cases hr
theorem jK (h:HSim cx F hp ρ w) {m:AV} {b p:Nat} {s:It} {mv:Value} (hm:wC hp m=some (b,s,p)) (hx:VR w (MM F hp ρ) hp ρ m mv) :
  look hp b=some (.it s p)∧mv=ρ b∧∃ r,ρ b=.pointer (some ⟨r,0,none⟩)∧ItR w (MM F hp ρ) r p s:=by
 unfold wC at hm
 split at hm
 case h_2=>cases hm
 rename_i b0 v0
 cases hx with
 | own _ _ kk _ hb hv hone hh =>
  rw [hb] at hm
  split at hm
  case h_2=>cases hm
  rename_i s0 p0 heq
  cases heq
  simp only [Option.some.injEq,Prod.mk.injEq] at hm
  obtain ⟨rfl,rfl,rfl⟩:=hm
  refine ⟨hb,hh ?_,h.blk _ _ hb⟩
  simp only [Blk.ver] at hv ⊢
  omega
theorem Qck (h:HSim cx F hp ρ w) {ty:TypeId} {x:AV} {xv:Value} (hr:Qde sym orc hp x=some r) (ho:∀ q,q∈r.ob→q) (hx:VR w (MM F hp ρ) hp ρ x xv) :
  ∃ v w',(Instr.next xv true ty).run cx.P w=.ok v w'∧OpOK cx F hp ρ w r.up r.val v w':=by
 unfold Qde at hr
 split at hr
 case h_2=>cases hr
 rename_i b s p hit
 obtain ⟨hb,rfl,r0,h1,h2'⟩:=jK h hit hx
 have h2:w.heap[r0]?=some (.stringIter s p):=h2'
 have key1:p < s.size→∃ v w',(Instr.next (ρ b) true ty).run cx.P w=.ok v w'∧OpOK cx F hp ρ w [(b,.it (.str s) (p+(Utf8.decode s p).2))] (.d (QeH s p)) v w':=by
  intro hp
  refine ⟨.tuple #[.bool true,.int .i64 (p:Int),.int .i32 ((Utf8.decode s p).1:Int)],{ w with heap:=w.heap.setIfInBounds r0 (.stringIter s (p+(Utf8.decode s p).2)) },?_,?_⟩
  ·rw [h1]
   simp [Instr.next,getObj,setObj,Sem.run,h2,hp,goInt,Result.andThen]
  have hset:=MapKept.heap_set (w:=w) (r:=r0) (o':=Obj.stringIter s (p+(Utf8.decode s p).2)) h2
  obtain ⟨g1,g2⟩:=h.write (b:=b) (k0:=.it (.str s) p) (k:=.it (.str s) (p+(Utf8.decode s p).2)) (v:=ρ b) (r:=r0) (w':={ w with heap:=w.heap.setIfInBounds r0 (.stringIter s (p+(Utf8.decode s p).2)) }) hb rfl (by rw [h1];rfl) (by rw [h1];rfl) (.inr ⟨rfl,rfl⟩)
   ⟨fun _=>Nat.le_refl _,rfl,rfl,rfl,by simp,fun q _ hq=>hset.2 q hq⟩ (fun hst=>by
    exact ⟨r0,by rw [Qo];exact h1,hset.1⟩)
  exact ⟨_,g1,g2,.d _ _ (.tup _ [.bool true,.int .i64 (p:Int),.int .i32 ((Utf8.decode s p).1:Int)] rfl fun i c y hc hy=>by
   match i with
   | 0=>cases hc;cases hy;exact .v _
   | 1=>cases hc;cases hy;exact .v _
   | 2=>cases hc;cases hy;exact .v _
   | i+3=>simp at hc)⟩
 have key2:¬ p < s.size→∃ v w',(Instr.next (ρ b) true ty).run cx.P w=.ok v w'∧OpOK cx F hp ρ w [] (.d (.tup [.v (.bool false)])) v w':=by
  intro hp
  refine ⟨.tuple #[.bool false],w,?_,OpOK.quiet h (.d _ _ (.tup _ [.bool false] rfl fun i c y hc hy=>?_))⟩
  ·rw [h1]
   simp [Instr.next,getObj,Sem.run,h2,hp,Result.andThen]
  ·match i with
   | 0=>cases hc;cases hy;exact .v _
   | i+1=>simp at hc
 split at hr
 ·simp only [Option.some.injEq] at hr;subst hr
  exact key1 (ho _ List.mem_cons_self)
 ·simp only [Option.some.injEq] at hr;subst hr
  exact key2 (ho _ List.mem_cons_self)
 ·split at hr
  ·rename_i hd
   simp only [Option.some.injEq] at hr;subst hr
   exact key1 (of_decide_eq_true hd)
  ·rename_i hd
   simp only [Option.some.injEq] at hr;subst hr
   exact key2 (of_decide_eq_false hd)
 ·cases hr
theorem Qbo (h:HSim cx F hp ρ w) {ty:TypeId} {x:AV} {xv:Value} (hr:QaC sym orc hp x=some r) (ho:∀ q,q∈r.ob→q) (hx:VR w (MM F hp ρ) hp ρ x xv) :
  ∃ v w',(Instr.next xv false ty).run cx.P w=.ok v w'∧OpOK cx F hp ρ w r.up r.val v w':=by
 unfold QaC at hr
 split at hr
 case h_2=>cases hr
 rename_i b v n p hit
 obtain ⟨hb,rfl,r0,h1,bm,es,c,seen,q1,q2,q3,q4,q5,q6,q7⟩:=jK h hit hx
 have hrun:=run_next_at (P:=cx.P) w ty r0 bm c c seen es c q1 q3 q4.1 (Nat.le_refl c)
 have hsz:(leftOf es seen).size=p:=q6
 split at hr
 ·simp only [Option.some.injEq] at hr;subst hr
  have hp0:0 < p:=ho _ List.mem_cons_self
  rcases hrun with ⟨z,_⟩ | ⟨e,he,w1,hw1,hrn⟩
  ·omega
  obtain ⟨he1,he2⟩:=mem_left he
  have hh:w1.heap=w.heap:=by rcases hw1 with rfl | rfl <;> rfl
  have q1' : w1.heap[r0]?=some (.mapIter (some bm) c seen c):=by rw [hh];exact q1
  have hset:=MapKept.heap_set (w:=w1) (r:=r0) (o':=Obj.mapIter (some bm) c (seen.push e.born) c) q1'
  have hne:bm≠r0:=by intro e;subst e;rw [q1] at q3;cases q3
  have hdr:w.drawn≤w1.drawn:=by
   rcases hw1 with rfl | rfl
   ·exact Nat.le_refl _
   ·exact Nat.le_succ _
  have hos:w1.os=w.os:=by rcases hw1 with rfl | rfl <;> rfl
  have htp:w1.tape=w.tape:=by rcases hw1 with rfl | rfl <;> rfl
  have hout:w1.output=w.output:=by rcases hw1 with rfl | rfl <;> rfl
  have hsz2:w.heap.size≤(w1.heap.setIfInBounds r0 (.mapIter (some bm) c (seen.push e.born) c)).size:=by
   rw [Array.size_setIfInBounds,hh];exact Nat.le_refl _
  refine ⟨.tuple #[.bool true,e.key,e.val],_,by rw [h1];exact hrn,?_⟩
  obtain ⟨g1,g2⟩:=h.write (b:=b) (k0:=.it (.mp v n) p) (k:=.it (.mp v n) (p - 1)) (v:=ρ b) (r:=r0) (w':=ChangeMaps.setBlock w1 r0 (.mapIter (some bm) c (seen.push e.born) c)) hb rfl (by rw [h1];rfl) (by rw [h1];rfl) (.inr ⟨rfl,rfl⟩)
   ⟨fun _=>hdr,hos,htp,hout,hsz2,fun q _ hq=>(hset.2 q hq).trans (by rw [hh])⟩ (fun hst=>by
    refine ⟨r0,by rw [Qo];exact h1,bm,es,c,seen.push e.born,hset.1,?_,(hset.2 bm hne).trans (by rw [hh];exact q3),q4,q5,?_,fun _=>⟨e,he1,by simp⟩⟩
    ·exact fun hmm=>q2 (hmm.imp id (hst.mt bm (Array.getElem?_eq_some_iff.1 q3).1))
    ·have hpu:=ue seen e he2 es.toList q4.2 he1
     rw [← Array.toList_filter,← Array.toList_filter,Array.length_toList,Array.length_toList] at hpu
     omega)
  exact ⟨_,g1,g2,.tup _ [.bool true,e.key,e.val] rfl fun i c y hc hy=>by
   match i with
   | 0=>cases hc;cases hy;exact .d _ _ (.v _)
   | 1=>cases hc;exact .junk _
   | 2=>cases hc;exact .junk _
   | i+3=>simp at hc⟩
 ·simp only [Option.some.injEq] at hr;subst hr
  have hp0:¬ 0 < p:=ho _ List.mem_cons_self
  rcases hrun with ⟨z,hrn⟩ | ⟨e,he,_⟩
  ·refine ⟨.tuple #[.bool false],w,by rw [h1];exact hrn,OpOK.quiet h (.d _ _ (.tup _ [.bool false] rfl fun i c y hc hy=>?_))⟩
   match i with
   | 0=>cases hc;cases hy;exact .v _
   | i+1=>simp at hc
  ·exfalso
   have:0 < (leftOf es seen).toList.length:=List.length_pos_of_mem he
   rw [Array.length_toList] at this
   omega
 ·cases hr
theorem Qah (h:HSim cx F hp ρ w) {x:AV} {xv:Value} (hr:jo orc hp x=some r) (ho:∀ q,q∈r.ob→q) (hx:VR w (MM F hp ρ) hp ρ x xv) :
  ∃ v w',(Instr.entry xv).run cx.P w=.ok v w'∧OpOK cx F hp ρ w r.up r.val v w':=by
 unfold jo at hr
 split at hr
 case h_2=>cases hr
 rename_i b v n p hit
 simp only [Option.some.injEq] at hr;subst hr
 obtain ⟨hb,rfl,r0,h1,bm,es,c,seen,q1,q2,q3,q4,q5,q6,q7⟩:=jK h hit hx
 obtain ⟨e,he,hbk⟩:=q7 (ho _ List.mem_cons_self)
 obtain ⟨sn,rfl⟩:=Array.back?_eq_some_iff.1 hbk
 refine ⟨.tuple #[e.key,e.val],w,by rw [h1];exact run_entry_at w r0 bm c sn es c e q1 q3 he q4.2,OpOK.quiet h (.tup _ [e.key,e.val] rfl fun i c y hc hy=>?_)⟩
 match i with
 | 0=>cases hc;exact .junk _
 | 1=>cases hc;cases hy;rw [q5 e he];exact .d _ _ (.v _)
 | i+2=>simp at hc
theorem E0 {M:Nat→Prop} {y v:Value} (h:VR w M hp ρ (.d (.v y)) v):v=y:=by
 cases h with
 | d _ _ h=>cases h;rfl
theorem Qbh {hev:∀ x,VR w (MM F hp ρ) hp ρ (ev x) (re x)} {lo:Option Operand} {l:Option Value} (h:optV (lo.map ev)=some l):lo.map re=l:=by
 cases lo with
 | none=>simp only [Option.map_none,optV,Option.some.injEq] at h;subst h;rfl
 | some x =>
  simp only [Option.map_some,optV] at h
  split at h <;> simp only [Option.some.injEq,reduceCtorEq] at h
  rename_i v hv
  subst h
  simp only [Option.map_some,Option.some.injEq]
  exact UP hv (hev x)
theorem Vv {hev:∀ x,VR w (MM F hp ρ) hp ρ (ev x) (re x)} {lo:Option Operand} {d n:Int} (h:VW (lo.map ev) d=some n):(lo.map re=none∧n=d) ∨ ∃ k,lo.map re=some (.int k n):=by
 cases lo with
 | none=>simp only [Option.map_none,VW,Option.some.injEq] at h;exact .inl ⟨rfl,h.symm⟩
 | some x =>
  have hx:=hev x
  simp only [Option.map_some] at h ⊢
  cases hex:ev x with
  | d q =>
   rw [hex] at h hx
   cases q with
   | v y =>
    cases y with
    | int k m =>
     simp only [VW,Option.some.injEq] at h;subst h
     exact .inr ⟨k,by rw [E0 hx]⟩
    | _=>simp [VW] at h
   | _=>simp [VW] at h
  | _=>rw [hex] at h;simp [VW] at h
theorem WX {P:Program} {k:IntKind} {i:Int} {y:Nat} (h0:0≤i) (h1:i≤(y:Int)) (c:BoundsCode) (w:World):(Instr.sliceBound (.int k i) y c).run P w=.ok i.toNat w:=by
 simp [Instr.sliceBound,asIntOf,h0,h1]
theorem yA (h:HSim cx F hp ρ w) (hev:∀ x,VR w (MM F hp ρ) hp ρ (ev x) (re x)) {t:TypeId} {x:Operand} {lo hi mx:Option Operand} (hr:VN cx sym orc hp t (ev x) (lo.map ev) (hi.map ev) (mx.map ev)=some r) (ho:∀ q,q∈r.ob→q) :
  ∃ v,(Instr.sliceAt t (re x) (lo.map re) (hi.map re) (mx.map re)).run cx.P w=.ok v w∧OpOK cx F hp ρ w r.up r.val v w:=by
 have hx:=hev x
 unfold VN at hr
 split at hr
 case h_2=>cases hr
 rename_i o b ver _ hex hlo hmx
 split at hr
 case h_2=>cases hr
 rename_i ver' sz es hb
 split at hr
 case h_2=>cases hr
 rename_i elem k hu hbq hk
 split at hr
 case h_2=>cases hr
 rename_i s ob o' hs how
 split at hr
 case h_2=>cases hr
 rename_i hsz
 simp only [Option.some.injEq] at hr;subst hr
 have e1:=Nat.eq_of_beq_eq_true hbq
 have e2:=Nat.eq_of_beq_eq_true hsz
 subst e1;subst e2
 obtain ⟨b1,b2⟩:=Zm how ho
 have e3:mx.map re=none:=by cases mx <;> simp_all
 have e4:lo.map re=none:=by cases lo <;> simp_all
 rw [e3,e4]
 rw [hex] at hx
 have hk2:=Vv (hev:=hev) hk
 obtain ⟨kd,hk3⟩:∃ kd,hi.map re=some (.int kd k):=by
  rcases hk2 with ⟨_,e⟩ | e
  ·omega
  ·exact e
 rw [hk3]
 cases hx with
 | own _ _ kk _ hb' hv hone hh =>
  rw [hb] at hb';cases hb'
  rw [hh rfl]
  have h1:=Qh hu w
  have h2:=QB hs w
  rcases h.blk b _ hb with ⟨rfl,a0,q1⟩ | ⟨r0,c,e,cap,q1,⟨q2,hcap⟩,q3,q4,q5,q6⟩
  ·have hk0:k=0:=by simp at b2;omega
   subst hk0
   rw [q1]
   obtain ⟨g1,g2⟩:=h.renew hb q1
   refine ⟨.slice a0 0 0,?_,⟨Wp ρ b (.slice a0 0 0),g1,g2,.own b (ver+1) _ _ (Qd _ _ _) (Nat.le_refl _) rfl fun _=>(Qo _ _ _).symm⟩⟩
   have h3:=WX (P:=cx.P) (k:=kd) (i:=0) (y:=0) (by omega) (by omega) .sliceAcap w
   simp [Instr.sliceAt,Instr.slice,Sem.run_bind,h1,Instr.sliceBounds,h3,h2,Result.andThen_ok]
  ·rw [q1]
   have hkl:(es.take k.toNat).length=k.toNat:=by simp;omega
   obtain ⟨g1,g2⟩:=h.write (b:=b) (k:=.row (ver+1) s (es.take k.toNat)) (v:=.slice (some ⟨r0,0,none⟩) k.toNat cap) hb rfl (r:=r0) (by rw [q1];exact QC hcap) (QC hcap)
    (.inl (Nat.lt_succ_self _)) ⟨fun _=>Nat.le_refl _,rfl,rfl,rfl,Nat.le_refl _,fun _ _ _=>rfl⟩ (fun hst=>by
     have hrin:RowIn w (MM F hp ρ) s (es.take k.toNat) c:=by
      refine ⟨fun i d hd=>q5 i d ?_,fun i d j a hd ha=>q6 i d j a ?_ ha⟩ <;> (rw [List.getElem?_take] at hd;split at hd;exact hd;cases hd)
     have hr3:=hrin.mono (w':=w) (M':=MM F ((b,Blk.row (ver+1) s (es.take k.toNat))::hp) (Wp ρ b (.slice (some ⟨r0,0,none⟩) k.toNat cap))) (fun x y hd=>hst.dr hd)
     exact .inr ⟨r0,c,e,cap,by rw [Qo,hkl],⟨by rw [hkl];omega,hcap⟩,q3,q4,hr3.1,hr3.2⟩)
   refine ⟨.slice (some ⟨r0,0,none⟩) k.toNat cap,?_,⟨_,g1,g2,.own b (ver+1) _ _ (Qd _ _ _) (Nat.le_refl _) rfl fun _=>(Qo _ _ _).symm⟩⟩
   have h3:=WX (P:=cx.P) (k:=kd) (i:=k) (y:=cap) (by omega) (by omega) .sliceAcap w
   simp [Instr.sliceAt,Instr.slice,Sem.run_bind,h1,Instr.sliceBounds,h3,h2,Result.andThen_ok]
   intro _;rw [add_at]
theorem QcG (h:HSim cx F hp ρ w) (hev:∀ x,VR w (MM F hp ρ) hp ρ (ev x) (re x)) {t:TypeId} {x:Operand} {lo hi mx:Option Operand} (hr:wU cx sym orc hp t (ev x) (lo.map ev) (hi.map ev) (mx.map ev)=some r) (ho:∀ q,q∈r.ob→q) :
  ∃ v,(Instr.sliceAt t (re x) (lo.map re) (hi.map re) (mx.map re)).run cx.P w=.ok v w∧OpOK cx F hp ρ w r.up r.val v w:=by
 have hx:=hev x
 unfold wU at hr
 split at hr
 case h_2=>cases hr
 rename_i o b ver kd l ho1 hex hlo hhi hmx
 split at hr
 case h_2=>cases hr
 rename_i ver' sz es hb
 split at hr
 case h_2=>cases hr
 rename_i elem hu hbq
 split at hr
 case h_2=>cases hr
 rename_i s ob o' hs hd
 split at hr
 case h_2=>cases hr
 rename_i hsz
 simp only [Option.some.injEq] at hr;subst hr
 have e1:=Nat.eq_of_beq_eq_true hbq
 have e2:=Nat.eq_of_beq_eq_true hsz
 subst e1;subst e2
 obtain ⟨b1,b2⟩:=Zm hd ho
 have e3:mx.map re=none:=by cases mx <;> simp_all
 have e4:hi.map re=none:=by cases hi <;> simp_all
 have e5:lo.map re=some (.int kd l):=by
  cases lo with
  | none=>simp at hlo
  | some q =>
   simp only [Option.map_some,Option.some.injEq] at hlo ⊢
   have:=hev q
   rw [hlo] at this
   exact E0 this
 rw [e3,e4,e5]
 rw [hex] at hx
 cases hx with
 | own _ _ kk _ hb' hv hone hh =>
  rw [hb] at hb';cases hb'
  rw [hh rfl]
  have h1:=Qh hu w
  have h2:=QB hs w
  rcases h.blk b _ hb with ⟨rfl,a0,q1⟩ | ⟨r0,c,e,cap,q1,⟨q2,hcap⟩,q3,q4,q5,q6⟩
  ·simp at b2;omega
  ·rw [q1]
   refine ⟨.slice (some ⟨r0,l.toNat * s,none⟩) (es.length - l.toNat) (cap - l.toNat),?_,OpOK.quiet h (.sub b ver s l.toNat (es.length - l.toNat) _ _ hb (Nat.le_refl _) rfl fun _=>⟨r0,_,by rw [q1];exact QC hcap,rfl⟩)⟩
   have h3:=WX (P:=cx.P) (k:=kd) (i:=l) (y:=es.length) b1 (by omega) .sliceB w
   have hne:¬ cap=l.toNat:=by omega
   simp [Instr.sliceAt,Instr.slice,Sem.run_bind,h1,Instr.sliceBounds,h3,h2,Result.andThen_ok,hne,add_at]
theorem QfS {hi:Option AV} {es:List D} {h l:Int} (hh:VW hi es.length=some h):cutD (isNo hi) es h l=(es.take h.toNat).drop l.toNat:=by
 cases hi with
 | none =>
  simp only [VW,Option.some.injEq] at hh
  subst hh
  simp [cutD,isNo]
 | some a=>rfl
theorem Qax (h:HSim cx F hp ρ w) (hev:∀ x,VR w (MM F hp ρ) hp ρ (ev x) (re x)) {t:TypeId} {x:Operand} {lo hi mx:Option Operand} (hr:Jf cx sym orc hp t (ev x) (lo.map ev) (hi.map ev) (mx.map ev)=some r) (ho:∀ q,q∈r.ob→q) :
  ∃ v,(Instr.sliceAt t (re x) (lo.map re) (hi.map re) (mx.map re)).run cx.P w=.ok v w∧OpOK cx F hp ρ w r.up r.val v w:=by
 have hx:=hev x
 unfold Jf at hr
 split at hr
 ·rename_i s hex
  split at hr
  case h_2=>cases hr
  rename_i l hh hmx hl hh'
  rw [hex] at hx
  have e1:=Qbh (hev:=hev) hl
  have e2:=Qbh (hev:=hev) hh'
  have e3:mx.map re=none:=by cases mx <;> simp_all
  rw [e1,e2,e3,E0 hx]
  exact wA h hr ho
 ·split at hr
  case h_3=>cases hr
  case h_2 =>
   rename_i elem m0 full sz es fs hu hmx hd
   split at hr
   case h_2=>cases hr
   rename_i s l hh m hs hl hh' hm'
   split at hr
   case h_2=>cases hr
   rename_i ob o' how
   simp only [Option.some.injEq] at hr;subst hr
   obtain ⟨b1,b2,b3,b5,b4⟩:=Zm how ho
   have hdr:=Zr h fs _ _ _ fs hd (fun _ h=>h) hx
   rw [← hmx] at hm'
   have hm2:=Vv (hev:=hev) hm'
   have hl2:=Vv (hev:=hev) hl
   have hh2:=Vv (hev:=hev) hh'
   obtain ⟨km,m1⟩:∃ k,mx.map re=some (.int k m):=by
    rcases hm2 with ⟨e,_⟩ | e
    ·cases mx <;> simp_all
    ·exact e
   obtain ⟨kh,h1⟩:∃ k,hi.map re=some (.int k hh):=by
    rcases hh2 with ⟨_,e⟩ | e
    ·omega
    ·exact e
   generalize re x=xv at hdr ⊢
   cases hdr with
   | lst _ _ _ a cap blk off ys hf hc ha hs' hw hd' =>
    have hb:(Instr.sliceBounds true es.length cap (lo.map re) (hi.map re) (mx.map re)).run cx.P w=.ok (l.toNat,hh.toNat,m.toNat) w:=by
     have h3:=WX (P:=cx.P) (k:=km) (i:=m) (y:=cap) (by omega) (by omega) .slice3Acap w
     have h4:=WX (P:=cx.P) (k:=kh) (i:=hh) (y:=m.toNat) (by omega) (by omega) .slice3B w
     rcases hl2 with ⟨l1,l2⟩ | ⟨k',l1⟩
     ·have l3:l.toNat=0:=by rw [l2];rfl
      simp [Instr.sliceBounds,h1,l1,m1,h3,h4,l3,Result.andThen_ok]
     ·have h5:=WX (P:=cx.P) (k:=k') (i:=l) (y:=hh.toNat) (by omega) (by omega) .slice3C w
      simp [Instr.sliceBounds,h1,l1,m1,h3,h4,h5,Result.andThen_ok]
    have h1':=Qh hu w
    have h2:=QB hs w
    refine ⟨.slice (if m.toNat=l.toNat then a else a.map (·.add (l.toNat * s))) (hh.toNat - l.toNat) (m.toNat - l.toNat),?_,?_⟩
    ·simp only [Instr.sliceAt,Instr.slice,Sem.run_bind,h1',Result.andThen_ok,hb,h2,Sem.run_pure]
    ·refine OpOK.frz h fs (.d _ _ ?_)
     have hlen:((es.take hh.toNat).drop l.toNat).length=hh.toNat - l.toNat:=by simp;omega
     have hidx:∀ (i:Nat) (e:D),((es.take hh.toNat).drop l.toNat)[i]?=some e→es[l.toNat+i]?=some e:=by
      intro i e he
      rw [List.getElem?_drop,List.getElem?_take] at he
      split at he
      ·exact he
      ·cases he
     have key:=DR.lst (w:=w) (M:=MM F (Qc hp fs++hp) ρ) (decide (hh=m)) sz ((es.take hh.toNat).drop l.toNat) (if m.toNat=l.toNat then a else a.map (·.add (l.toNat * s))) (m.toNat - l.toNat) blk (off+l.toNat * sz)
      (fun k=>ys (l.toNat * sz+k)) (fun h=>by have:=of_decide_eq_true h;omega) (by omega)
      (fun hne=>by
       have hne2:es≠[]:=by rintro rfl;simp at hne
       obtain ⟨g1,g2,g3⟩:=ha hne2
       have hss:sz=s:=by
        rcases b4 with e | e
        ·exact absurd e hne2
        ·exact e
       subst hss
       have hpos:0 < ((es.take hh.toNat).drop l.toNat).length:=List.length_pos_iff.2 hne
       refine ⟨?_,g2,g3⟩
       rw [if_neg (by omega),g1]
       simp [add_at])
      (fun i e he=>hs' _ e (hidx i e he))
      (fun i e j c he hj=>by
       have:=hw _ e j c (hidx i e he) hj
       rw [Nat.add_mul,Nat.add_assoc] at this
       rw [Nat.add_assoc];exact this)
      (fun i e j c he hj=>by
       have:=hd' _ e j c (hidx i e he) hj
       rw [Nat.add_mul,Nat.add_assoc] at this
       exact this)
     rw [hlen] at key
     exact key
  rename_i elem full sz es fs hu hmx hd
  split at hr
  case h_2=>cases hr
  rename_i s l hh hs hl hh'
  split at hr
  case h_2=>cases hr
  rename_i ob o' how
  simp only [Option.some.injEq] at hr;subst hr
  rw [QfS hh']
  obtain ⟨b1,b2,b3,b4⟩:=Zm how ho
  have hdr:=Zr h fs _ _ _ fs hd (fun _ h=>h) hx
  have e3:mx.map re=none:=by cases mx <;> simp_all
  rw [e3]
  generalize re x=xv at hdr ⊢
  cases hdr with
  | lst _ _ _ a cap blk off ys hf hc ha hs' hw hd' =>
   have hl2:=Vv (hev:=hev) hl
   have hh2:=Vv (hev:=hev) hh'
   have hb:(Instr.sliceBounds true es.length cap (lo.map re) (hi.map re) none).run cx.P w=.ok (l.toNat,hh.toNat,cap) w:=by
    rcases hh2 with ⟨h1,h2⟩ | ⟨k,h1⟩ <;> rcases hl2 with ⟨l1,l2⟩ | ⟨k',l1⟩
    ·subst h2;subst l2;simp [Instr.sliceBounds,h1,l1]
    ·subst h2
     have:l≤(es.length:Int):=by omega
     simp [Instr.sliceBounds,h1,l1,Instr.sliceBound,asIntOf,b1,this]
    ·subst l2
     have h3:0≤hh:=by omega
     have h4:hh≤(cap:Int):=by omega
     simp [Instr.sliceBounds,h1,l1,Instr.sliceBound,asIntOf,h3,h4]
    ·have h3:0≤hh:=by omega
     have h4:hh≤(cap:Int):=by omega
     have h5:l≤((hh.toNat:Nat):Int):=by omega
     simp [Instr.sliceBounds,h1,l1,Instr.sliceBound,asIntOf,h3,h4,b1]
     omega
   have h1:=Qh hu w
   have h2:=QB hs w
   refine ⟨.slice (if cap=l.toNat then a else a.map (·.add (l.toNat * s))) (hh.toNat - l.toNat) (cap - l.toNat),?_,?_⟩
   ·simp only [Instr.sliceAt,Instr.slice,Sem.run_bind,h1,Result.andThen_ok,hb,h2,Sem.run_pure]
   ·refine OpOK.frz h fs (.d _ _ ?_)
    have hlen:((es.take hh.toNat).drop l.toNat).length=hh.toNat - l.toNat:=by simp;omega
    have hidx:∀ (i:Nat) (e:D),((es.take hh.toNat).drop l.toNat)[i]?=some e→es[l.toNat+i]?=some e:=by
     intro i e he
     rw [List.getElem?_drop,List.getElem?_take] at he
     split at he
     ·exact he
     ·cases he
    have key:=DR.lst (w:=w) (M:=MM F (Qc hp fs++hp) ρ) (decd sym orc && (full && decide (hh=(es.length:Int)))) sz ((es.take hh.toNat).drop l.toNat) (if cap=l.toNat then a else a.map (·.add (l.toNat * s))) (cap - l.toNat) blk (off+l.toNat * sz)
     (fun k=>ys (l.toNat * sz+k)) (fun h=>by
      simp only [Bool.and_eq_true,decide_eq_true_eq] at h
      have:=hf h.2.1
      omega) (by omega)
     (fun hne=>by
      have hne2:es≠[]:=by rintro rfl;simp at hne
      obtain ⟨g1,g2,g3⟩:=ha hne2
      have hss:sz=s:=by
       rcases b4 with e | e
       ·exact absurd e hne2
       ·exact e
      subst hss
      have hpos:0 < ((es.take hh.toNat).drop l.toNat).length:=List.length_pos_iff.2 hne
      refine ⟨?_,g2,g3⟩
      rw [if_neg (by omega),g1]
      simp [add_at])
     (fun i e he=>hs' _ e (hidx i e he))
     (fun i e j c he hj=>by
      have:=hw _ e j c (hidx i e he) hj
      rw [Nat.add_mul,Nat.add_assoc] at this
      rw [Nat.add_assoc];exact this)
     (fun i e j c he hj=>by
      have:=hd' _ e j c (hidx i e he) hj
      rw [Nat.add_mul,Nat.add_assoc] at this
      exact this)
    rw [hlen] at key
    exact key
theorem uH (h:HSim cx F hp ρ w) (hev:∀ x,VR w (MM F hp ρ) hp ρ (ev x) (re x)) {t:TypeId} {b ver sz i off:Nat} {lo hi:Option Operand} {mxn:Bool} {xv:Value} (hr:uI cx hp orc t b ver sz i off (lo.map ev) (hi.map ev) mxn=some r) (hx:VR w (MM F hp ρ) hp ρ (.ptr b ver sz i off) xv) :
  mxn=true∧∃ v,(Instr.sliceAt t xv (lo.map re) (hi.map re) none).run cx.P w=.ok v w∧OpOK cx F hp ρ w r.up r.val v w:=by
 unfold uI at hr
 split at hr
 case h_2=>cases hr
 rename_i ds up n elem hao hu
 refine ⟨rfl,?_⟩
 split at hr
 case h_2=>cases hr
 rename_i s l hh hs hl hh'
 split at hr
 case h_2=>cases hr
 rename_i hc
 simp only [Option.some.injEq] at hr;subst hr
 simp only [Bool.and_eq_true,decide_eq_true_eq] at hc
 obtain ⟨⟨⟨⟨⟨⟨⟨c2,c3⟩,c4⟩,c5⟩,c6⟩,c7⟩,c1,c9,c10⟩,c8⟩:=hc
 replace c2:=Nat.eq_of_beq_eq_true c2
 replace c3:=Nat.eq_of_beq_eq_true c3
 replace c4:=Nat.eq_of_beq_eq_true c4
 replace c5:=Nat.eq_of_beq_eq_true c5
 replace c6:=Nat.eq_of_beq_eq_true c6
 replace c7:=Nat.eq_of_beq_eq_true c7
 subst c2;subst c3;subst c4;subst c5;subst c6
 have hpre:HSim cx F (up++hp) ρ w∧Steps1 hp ρ w (up++hp) ρ w∧look (up++hp) b=some (.fbox (.agg ds))∧∃ k,look hp b=some k∧k.ver=0:=by
  unfold qE at hao
  split at hao
  ·rename_i ds0 hb
   simp only [Option.some.injEq,Prod.mk.injEq] at hao
   obtain ⟨rfl,rfl⟩:=hao
   exact ⟨h,Steps1.refl _ _ _,hb,_,hb,rfl⟩
  ·rename_i x hb
   split at hao
   ·rename_i ds0 hd
    simp only [Option.some.injEq,Prod.mk.injEq] at hao
    obtain ⟨rfl,rfl⟩:=hao
    obtain ⟨g1,g2⟩:=h.box_frozen hb hd
    exact ⟨g1,g2,Qd _ _ _,_,hb,rfl⟩
   ·cases hao
  ·cases hao
 obtain ⟨g1,g2,hb,k1,hb1,hk1⟩:=hpre
 have hl2:=Vv (hev:=hev) hl
 have hh2:=Vv (hev:=hev) hh'
 cases hx with
 | ptr _ _ _ _ _ k _ hb' hv ho hh0 =>
  rw [hb1] at hb';cases hb'
  obtain ⟨r0,q1,rfl⟩:=hh0 hk1.symm
  obtain ⟨r1,p1,p2,p3,p4⟩:=g1.blk b _ hb
  rw [p1] at q1
  simp only [Qx,Option.some.injEq] at q1
  subst q1
  have hone:∀ (j:Nat) (c:D),ds[j]?=some c→∃ x,c=.v x∧one x=true:=by
   intro j c hj
   have:=List.all_eq_true.1 c8 c (List.mem_of_getElem? hj)
   cases c with
   | v x=>exact ⟨x,rfl,this⟩
   | _=>cases this
  have hcell:∀ (j:Nat) (x:Value),ds[j]?=some (.v x)→w.cell? ⟨r1,j,none⟩=some x:=by
   intro j x hj
   obtain ⟨y,hy,hyd⟩:=p4 j (.v x) hj
   rw [Nat.zero_add] at hy
   cases hyd
   exact hy
  have hbd:(Instr.sliceBounds false n n (lo.map re) (hi.map re) none).run cx.P w=.ok (l.toNat,hh.toNat,n) w:=by
   rcases hh2 with ⟨h1,h2⟩ | ⟨k,h1⟩ <;> rcases hl2 with ⟨l1,l2⟩ | ⟨k',l1⟩
   ·subst h2;subst l2;simp [Instr.sliceBounds,h1,l1]
   ·subst h2
    have:l≤(n:Int):=by omega
    simp [Instr.sliceBounds,h1,l1,Instr.sliceBound,asIntOf,c1,this]
   ·subst l2
    have h3:0≤hh:=by omega
    simp [Instr.sliceBounds,h1,l1,Instr.sliceBound,asIntOf,h3,c10]
   ·have h3:0≤hh:=by omega
    have h5:l≤((hh.toNat:Nat):Int):=by omega
    simp [Instr.sliceBounds,h1,l1,Instr.sliceBound,asIntOf,h3,c10,c1]
    omega
  refine ⟨.slice (some ⟨r1,l.toNat,none⟩) (hh.toNat - l.toNat) (n - l.toNat),?_,⟨_,g1,g2,.d _ _ ?_⟩⟩
  ·have hz:=QB hs w
   have hne:¬ n=l.toNat:=by omega
   simp only [Instr.sliceAt,Sem.run_bind,Qh hu w,Result.andThen_ok,Instr.sureAddr,Sem.run_pure,hbd,hz,if_neg hne,Nat.mul_one,add_at,Nat.zero_mul,Nat.zero_add,Nat.add_zero]
  ·have hlen:((ds.take hh.toNat).drop l.toNat).length=hh.toNat - l.toNat:=by simp;omega
   have hidx:∀ (i:Nat) (e:D),((ds.take hh.toNat).drop l.toNat)[i]?=some e→ds[l.toNat+i]?=some e:=by
    intro i e he
    rw [List.getElem?_drop,List.getElem?_take] at he
    split at he
    ·exact he
    ·cases he
   have key:=DR.lst (w:=w) (M:=MM F (up++hp) ρ) false 1 ((ds.take hh.toNat).drop l.toNat) (some ⟨r1,l.toNat,none⟩) (n - l.toNat) r1 l.toNat (fun j=>(w.cell? ⟨r1,l.toNat+j,none⟩).getD undef) (fun h=>by cases h) (by omega) (fun _=>⟨rfl,p2,p3⟩)
    (fun i e he=>by
     obtain ⟨x,rfl,_⟩:=hone _ e (hidx i e he)
     rfl)
    (fun i e j c he hj=>by
     have hd:=hidx i e he
     obtain ⟨x,rfl,ho1⟩:=hone _ e hd
     cases j with
     | succ j=>simp [D.cells] at hj
     | zero =>
      have:=hcell _ x hd
      simp only [Nat.mul_one,Nat.add_zero,this,Option.getD_some]
      exact ⟨trivial,ho1⟩)
    (fun i e j c he hj=>by
     have hd:=hidx i e he
     obtain ⟨x,rfl,ho1⟩:=hone _ e hd
     cases j with
     | succ j=>simp [D.cells] at hj
     | zero =>
      simp only [D.cells,List.getElem?_cons_zero,Option.some.injEq] at hj
      subst hj
      have:=hcell _ x hd
      simp only [Nat.mul_one,Nat.add_zero,this,Option.getD_some]
      exact .v _)
   rw [hlen] at key
   exact key
theorem QcP (h:HSim cx F hp ρ w) {t:TypeId} {x:AV} {xv:Value} (hr:aarr cx sym orc hp t x=some r) (ho:∀ q,q∈r.ob→q) (hx:VR w (MM F hp ρ) hp ρ x xv) :
  ∃ v,(Instr.arrayAt t xv).run cx.P w=.ok v w∧OpOK cx F hp ρ w r.up r.val v w:=by
 unfold aarr at hr
 split at hr
 case h_2=>cases hr
 rename_i n elem full sz es fs hu hd
 split at hr
 case h_2=>cases hr
 rename_i s l ob o' hs hal
 split at hr
 case h_2=>cases hr
 rename_i hc
 simp only [Option.some.injEq] at hr;subst hr
 simp only [Bool.and_eq_true,Nat.blt_eq] at hc
 obtain ⟨⟨⟨⟨c1,c2⟩,c3⟩,c4⟩,c5⟩:=hc
 replace c1:=Nat.eq_of_beq_eq_true c1
 replace c2:=Nat.eq_of_beq_eq_true c2
 replace c3:=Nat.eq_of_beq_eq_true c3
 subst c1;subst c2
 have htk:es.take n=l:=by
  unfold Qgd at hal
  split at hal
  ·simp only [Option.some.injEq,Prod.mk.injEq] at hal
   obtain ⟨rfl,rfl,rfl⟩:=hal
   exact ho _ List.mem_cons_self
  ·simp only [Option.some.injEq,Prod.mk.injEq] at hal
   exact hal.1
  ·cases hal
 have hlen:n≤es.length:=by
  have:=congrArg List.length htk
  rw [List.length_take,c3] at this
  omega
 have hdr:=Zr h fs _ _ _ fs hd (fun _ h=>h) hx
 cases hdr with
 | lst _ _ _ a cap blk off ys hf hcp ha hs' hw hd' =>
  have hne:es≠[]:=by rintro rfl;simp at hlen;omega
  obtain ⟨rfl,m1,m2⟩:=ha hne
  refine ⟨.pointer (some ⟨blk,off,none⟩),?_,OpOK.frz h fs ?_⟩
  ·have hn:¬ es.length < n:=by omega
   simp only [Instr.arrayAt,Sem.run_bind,Qh hu w,Result.andThen_ok,if_neg hn,Sem.run_pure]
  ·refine .dptr (.agg l) 0 blk off ⟨m1,m2,fun j c hj=>?_⟩
   have hj' : l[j]?=some c:=hj
   have hjn:j < n:=by rw [← c3];exact (List.getElem?_eq_some_iff.1 hj').1
   have he:es[j]?=some c:=by rw [← htk,List.getElem?_take,if_pos hjn] at hj';exact hj'
   have hone:∃ x,c=.v x∧one x=true:=by
    have:=List.all_eq_true.1 c5 c (List.mem_of_getElem? hj')
    cases c with
    | v x=>exact ⟨x,rfl,this⟩
    | _=>cases this
   obtain ⟨x,rfl,_⟩:=hone
   have k1:=(hw j _ 0 (.v x) he rfl).1
   have k2:=hd' j _ 0 (.v x) he rfl
   rw [Nat.mul_one,Nat.add_zero] at k1 k2
   exact ⟨_,k1,k2⟩
end
section
variable {cx:Cx} {F:Nat→Prop} {hp:List (Nat×Blk)} {ρ:Nat→Value} {w:World} {re:Operand→Value} {ev:Operand→AV} {sym:Bool} {orc:List Orc} {r:R}
theorem yR {P:Program} {s:Sem Value} {v:Value} {w w' : World} (h:s.run P w=.ok v w'):(do pure (Next.value (← s)):Sem Next).run P w=.ok (.value v) w':=by
 simp only [Sem.run_bind,h,Result.andThen_ok,Sem.run_pure]
theorem Good.of {s:Sem Value} (h:∃ v w',s.run cx.P w=.ok v w'∧OpOK cx F hp ρ w r.up r.val v w'):Good cx F hp ρ w r (do pure (.value (← s))):=by
 obtain ⟨v,w',h1,h2⟩:=h
 exact ⟨v,w',.inl (yR h1),h2⟩
theorem Good.of1 {s:Sem Value} (h:∃ v,s.run cx.P w=.ok v w∧OpOK cx F hp ρ w r.up r.val v w):Good cx F hp ρ w r (do pure (.value (← s))):=by
 obtain ⟨v,h1,h2⟩:=h
 exact ⟨v,w,.inl (yR h1),h2⟩
theorem Good.val1 (h:HSim cx F hp ρ w) {x:AV} {v:Value} {s:Sem Value} (hr:val1 x orc=some r) (hs:s.run cx.P w=.ok v w) (hx:VR w (MM F hp ρ) hp ρ x v):Good cx F hp ρ w r (do pure (.value (← s))):=by
 simp only [SX.val1,Option.some.injEq] at hr;subst hr
 exact Good.of1 ⟨v,hs,OpOK.quiet h hx⟩
theorem Good.pure1 (h:HSim cx F hp ρ w) {x:AV} {v:Value} (hr:SX.val1 x orc=some r) (hx:VR w (MM F hp ρ) hp ρ x v):Good cx F hp ρ w r (pure (.value v)):=by
 simp only [SX.val1,Option.some.injEq] at hr;subst hr
 exact ⟨v,w,.inl rfl,OpOK.quiet h hx⟩
theorem Uo {n:Int} (h:Qb n):IntKind.i64.wrap n=n:=by
 rw [IntKind.wrap_i64];unfold Qb at h;omega
theorem J0 {P:Program} {w:World} {f:TypeId→Value→Value→Option Bool} {g:TypeId→Value→Value→Sem Bool} (hf:∀ t a b p,f t a b=some p→(g t a b).run P w=.ok p w) (xs ys:Array Value) :
  ∀ (l:List Field) (b:Bool),Jt P f xs ys l=some b →
   (forIn l (none,()) fun (fd:Field) (_:Option Bool×Unit)=>(if fd.name≠ "_" then do
     let a ← part fd.type xs fd.offset
     let c ← part fd.type ys fd.offset
     let r ← g fd.type a c
     if (!r)=true then pure (ForInStep.done (some false,())) else pure (ForInStep.yield (none,()))
    else pure (ForInStep.yield (none,())):Sem (ForInStep (Option Bool×Unit)))).run P w=.ok (if b then (none,()) else (some false,())) w
 | [],b,h=>by
  simp only [Jt,Option.some.injEq] at h;subst h
  simp [Sem.run_pure]
 | fd::l,b,h=>by
  unfold Jt at h
  rw [List.forIn_cons,Sem.run_bind]
  split at h
  ·rename_i hn
   have hn' : fd.name= "_":=by simpa using hn
   simp only [hn',ne_eq,not_true_eq_false,if_false,Sem.run_pure,Result.andThen_ok]
   exact J0 hf xs ys l b h
  ·rename_i hn
   have hn' : fd.name≠ "_":=by simpa using hn
   split at h
   case h_2=>cases h
   rename_i a c ha hc
   split at h
   case h_2=>cases h
   rename_i p q hp hq
   simp only [Option.some.injEq] at h;subst h
   rw [if_pos hn']
   simp only [Sem.run_bind,Wt ha w,Wt hc w,hf _ _ _ _ hp,Result.andThen_ok]
   cases p with
   | true =>
    simp only [Bool.not_true,Bool.false_eq_true,if_false,Sem.run_pure,Result.andThen_ok,Bool.true_and]
    exact J0 hf xs ys l q hq
   | false=>simp [Sem.run_pure,Result.andThen_ok]
theorem wM {P:Program} {w:World} {f:TypeId→Value→Value→Option Bool} {g:TypeId→Value→Value→Sem Bool} (hf:∀ t a b p,f t a b=some p→(g t a b).run P w=.ok p w) (xs ys:Array Value) (t:TypeId) (n:Nat) :
  ∀ (l:List Nat) (b:Bool),qo P f xs ys t n l=some b →
   (forIn l (none,()) fun (i:Nat) (_:Option Bool×Unit)=>(do
     let a ← part t xs (i * n)
     let c ← part t ys (i * n)
     let r ← g t a c
     if (!r)=true then pure (ForInStep.done (some false,())) else pure (ForInStep.yield (none,())):Sem (ForInStep (Option Bool×Unit)))).run P w=.ok (if b then (none,()) else (some false,())) w
 | [],b,h=>by
  simp only [qo,Option.some.injEq] at h;subst h
  simp [Sem.run_pure]
 | i::l,b,h=>by
  unfold qo at h
  rw [List.forIn_cons,Sem.run_bind]
  split at h
  case h_2=>cases h
  rename_i a c ha hc
  split at h
  case h_2=>cases h
  rename_i p q hp hq
  simp only [Option.some.injEq] at h;subst h
  simp only [Sem.run_bind,Wt ha w,Wt hc w,hf _ _ _ _ hp,Result.andThen_ok]
  cases p with
  | true =>
   simp only [Bool.not_true,Bool.false_eq_true,if_false,Sem.run_pure,Result.andThen_ok,Bool.true_and]
   exact wM hf xs ys t n l q hq
  | false=>simp [Sem.run_pure,Result.andThen_ok]
theorem jl (w:World):∀ (d D:Nat) (t:TypeId) (x y:Value) (b:Bool),d≤D→eqA cx.P d t x y=some b→(Op.equalIn D t x y).run cx.P w=.ok b w
 | 0,_,_,_,_,_,_,h=>by simp [eqA] at h
 | d+1,0,_,_,_,_,hd,_=>by omega
 | d+1,D+1,t,x,y,b,hd,h=>by
  unfold eqA at h
  unfold Op.equalIn
  split at h
  ·rename_i hu
   simp only [Option.some.injEq] at h;subst h
   simp only [Sem.run_bind,Qh hu w,Result.andThen_ok,Sem.run_pure]
  ·rename_i hu
   split at h
   ·rename_i hk
    simp only [Option.some.injEq] at h;subst h
    simp only [Sem.run_bind,Qh hu w,Result.andThen_ok,of_decide_eq_true hk,if_true,Sem.run_pure]
   ·cases h
  ·rename_i hu
   simp only [Option.some.injEq] at h;subst h
   simp only [Sem.run_bind,Qh hu w,Result.andThen_ok,Sem.run_pure]
  ·rename_i hu
   split at h
   ·rename_i hk
    simp only [Option.some.injEq] at h;subst h
    simp only [Sem.run_bind,Qh hu w,Result.andThen_ok,of_decide_eq_true hk,if_true,Sem.run_pure]
   ·cases h
  ·rename_i fields xs ys hu
   split at h
   ·cases h
   rename_i hst
   have:=J0 (g:=Op.equalIn D) (fun t a b p hp=>jl w d D t a b p (by omega) hp) xs ys _ _ h
   simp only [Sem.run_bind,Qh hu w,run_program,Result.andThen_ok,hst,Bool.false_eq_true,if_false]
   rw [← Array.forIn_toList,this]
   cases b <;> simp [Result.andThen_ok,Sem.run_pure]
  ·rename_i len elem xs ys hu
   split at h
   case h_2=>cases h
   rename_i i hi
   have hsz:cx.sz elem=some i.size:=by unfold Cx.sz;rw [hi]
   have:=wM (g:=Op.equalIn D) (fun t a b p hp=>jl w d D t a b p (by omega) hp) xs ys _ _ _ _ h
   simp only [Sem.run_bind,Qh hu w,QB hsz w,Result.andThen_ok]
   rw [Std.Legacy.Range.forIn_eq_forIn_range']
   simp only [Std.Legacy.Range.size,Nat.sub_zero,Nat.add_sub_cancel,Nat.div_one]
   rw [this]
   cases b <;> simp [Result.andThen_ok,Sem.run_pure]
  ·cases h
theorem wL {op:BinOp} {t:TypeId} {x y:Operand} {xs ys:Array Value} (h:cx.P.eqGuardType cx.P.depth t=false) (w:World):(eqGuard op t x y (.agg xs) (.agg ys)).run cx.P w=.ok () w:=by
 unfold eqGuard
 split <;> simp [Sem.run_bind,run_program,Result.andThen_ok,h,Sem.run_pure]
theorem KX (h:HSim cx F hp ρ w) {op:BinOp} (hop:op=.add ∨ op=.sub ∨ op=.mul ∨ op=.quo) {t:TypeId} {x y:Operand} {k k' : FloatKind} {a b:Nat} {q:D} {ob:List Prop} (hr:uB op k k' a b=some (q,ob)) (ho:∀ p,p∈ob→p) :
  ∃ v,(do eqGuard op t x y (.float k a) (.float k' b);binOp op t (.float k a) (.float k' b):Sem Value).run cx.P w=.ok v w∧VR w (MM F hp ρ) hp ρ (.d q) v:=by
 unfold uB at hr
 split at hr
 case h_2=>cases hr
 rename_i hk
 have hk:=of_decide_eq_true hk
 subst hk
 simp only [Option.some.injEq,Prod.mk.injEq] at hr;obtain ⟨rfl,rfl⟩:=hr
 have h1:=ho _ List.mem_cons_self
 obtain ⟨r,h2⟩:=Option.isSome_iff_exists.1 h1
 refine ⟨_,?_,.d _ _ (.v _)⟩
 rw [h2]
 rcases hop with rfl | rfl | rfl | rfl <;> simp only [fop] at h2 <;> simp [eqGuard,binOp,Op.floatArith,h2]
theorem QbW (h:HSim cx F hp ρ w) {s t:TypeId} {a:Value} {q:D} {ob:List Prop} (hr:Qfr cx sym s t a=some (q,ob)) (ho:∀ p,p∈ob→p) :
  ∃ v,(convert s t a:Sem Value).run cx.P w=.ok v w∧VR w (MM F hp ρ) hp ρ (.d q) v:=by
 unfold Qfr at hr
 split at hr
 ·rename_i k j b hs ht
  simp only [Option.some.injEq,Prod.mk.injEq] at hr;obtain ⟨rfl,rfl⟩:=hr
  have h1:=ho _ List.mem_cons_self
  obtain ⟨r,h2⟩:=Option.isSome_iff_exists.1 h1
  refine ⟨_,?_,.d _ _ (.v _)⟩
  rw [h2]
  simp only [convert,Sem.run_bind,Qh hs w,Qh ht w,Result.andThen_ok]
  unfold f2f at h2
  unfold Conv.floatToFloat
  split at h2
  ·rename_i e;simp only [Option.some.injEq] at h2;subst h2;rw [if_pos e];rfl
  ·rename_i e;rw [if_neg e]
   revert h2
   cases j.decode b with
   | nan s t=>intro h2;cases h2
   | infinity s=>intro h2;simp only [Option.some.injEq] at h2;subst h2;rfl
   | number s m e' =>
    intro h2
    simp only at h2 ⊢
    split at h2
    ·cases h2
    ·rename_i e2;simp only [Option.some.injEq] at h2;subst h2;rw [if_neg e2];rfl
 ·rename_i k j b hs ht
  simp only [Option.some.injEq,Prod.mk.injEq] at hr;obtain ⟨rfl,rfl⟩:=hr
  have h1:=ho _ List.mem_cons_self
  obtain ⟨r,h2⟩:=Option.isSome_iff_exists.1 h1
  refine ⟨_,?_,.d _ _ (.v _)⟩
  rw [h2]
  simp only [convert,Sem.run_bind,Qh hs w,Qh ht w,Result.andThen_ok]
  unfold f2i at h2
  unfold Conv.floatToInt
  split at h2
  ·rename_i n hn
   rw [hn]
   split at h2
   ·rename_i e;simp only [Option.some.injEq] at h2;subst h2;simp only [if_pos e];rfl
   ·cases h2
  ·cases h2
 ·split at hr
  ·rename_i v hv
   simp only [Option.some.injEq,Prod.mk.injEq] at hr;obtain ⟨rfl,rfl⟩:=hr
   exact ⟨v,Wt hv w,K6 _ _ _ _ _⟩
  ·cases hr
theorem Qd0 {x:D} {b:UInt8} (h:QcE x=some b):∃ n:Int,x=.v (.int .u8 n)∧b=UInt8.ofNat n.toNat:=by
 unfold QcE at h
 split at h <;> try cases h
 split at h <;> try cases h
 split at h <;> try cases h
 exact ⟨_,rfl,rfl⟩
theorem uv:∀ {ds:List D} {l:List UInt8},zY ds=some l→∃ ns:List Int,ds=ns.map (fun n=>.v (.int .u8 n))∧l=ns.map fun n=>UInt8.ofNat n.toNat
 | [],l,h=>by cases h;exact ⟨[],rfl,rfl⟩
 | x::ds,l,h=>by
  unfold zY at h
  split at h
  case h_2=>cases h
  rename_i b bs hb hbs
  cases h
  obtain ⟨n,rfl,rfl⟩:=Qd0 hb
  obtain ⟨ns,rfl,rfl⟩:=uv hbs
  exact ⟨n::ns,rfl,rfl⟩
theorem jJ:∀ (ns:List Int) (s:ByteArray),ns.foldl (fun r n=>r.push (UInt8.ofNat n.toNat)) s=⟨s.data++(ns.map fun n=>UInt8.ofNat n.toNat).toArray⟩
 | [],s=>by simp
 | n::ns,s=>by
  rw [List.foldl_cons,jJ ns]
  simp [ByteArray.push]
theorem wH {P:Program} {w:World} (f:Value→ByteArray→Sem (ForInStep ByteArray)) (hf:∀ (n:Int) (r:ByteArray),(f (.int .u8 n) r).run P w=.ok (.yield (r.push (UInt8.ofNat n.toNat))) w) :
  ∀ (l:List Int) (s:ByteArray),(forIn (l.map (Value.int .u8)) s f).run P w=.ok (l.foldl (fun r n=>r.push (UInt8.ofNat n.toNat)) s) w
 | [],s=>by simp [Sem.run_pure]
 | n::l,s=>by
  simp only [List.map_cons,List.forIn_cons,Sem.run_bind,hf,Result.andThen_ok,List.foldl_cons]
  exact wH f hf l _
theorem Qdv {w:World} {s t e:TypeId} (hs:cx.P.underlying s=some (.slice e)) (ht:cx.P.underlying t=some .string) (he:cx.P.underlying e=some (.int .u8)) {xa:Option Addr} {xc:Nat} {ns:List Int}
  (h:(Builtin.firstCells 1 ns.length (.slice xa ns.length xc)).run cx.P w=.ok (ns.map (Value.int .u8)).toArray w) :
  (convert s t (.slice xa ns.length xc)).run cx.P w=.ok (.string ⟨(ns.map fun n=>UInt8.ofNat n.toNat).toArray⟩) w:=by
 have h1:(convert s t (.slice xa ns.length xc)).run cx.P w=(Conv.bytesToString (.slice xa ns.length xc)).run cx.P w:=by
  simp [convert,Qh hs,Qh ht,Qh he]
 rw [h1]
 cases xa with
 | none =>
  have:ns=[]:=by
   simp [Builtin.firstCells] at h
   cases ns with
   | nil=>rfl
   | cons a l=>simp at h
  subst this
  simp [Conv.bytesToString];rfl
 | some a =>
  have h2:(loadCells a ns.length).run cx.P w=.ok (ns.map (Value.int .u8)).toArray w:=by simpa [Builtin.firstCells] using h
  unfold Conv.bytesToString
  simp only [Sem.run_bind,h2,Result.andThen_ok,List.forIn_toArray]
  rw [wH _ (by intro n r;simp [Sem.run_pure]),jJ]
  simp [Sem.run_pure,ByteArray.empty,ByteArray.emptyWithCapacity]
  rfl
theorem QaG (h:HSim cx F hp ρ w) {s t:TypeId} {x:AV} {v:Value} (hr:QaH cx sym orc hp s t x=some r) (ho:∀ p,p∈r.ob→p) (hx:VR w (MM F hp ρ) hp ρ x v) :
  Good cx F hp ρ w r (do pure (.value (← convert s t v))):=by
 have key:∀ {e:TypeId} {ds:List D} {fs:List Nat} {l:List UInt8},cx.P.underlying s=some (.slice e)→cx.P.underlying t=some .string→cx.P.underlying e=some (.int .u8)→Ya hp x=some (1,ds,fs)→zY ds=some l →
   (convert s t v).run cx.P w=.ok (.string (ByteArray.mk l.toArray)) w:=by
  intro e ds fs l hs ht he ha hb
  obtain ⟨ns,rfl,rfl⟩:=uv hb
  obtain ⟨xa,xc,news,rfl,hnl,hn2,n3,hn4,hn5⟩:=Yx h ha (.inl rfl) hx
  rw [List.length_map] at hnl hn2 ⊢
  refine Qdv hs ht he ?_
  rw [hn2 w rfl]
  congr 2
  apply List.ext_getElem?
  intro i
  by_cases hi:i < ns.length
  ·obtain ⟨y,y1,_,y3⟩:=hn5 i (.v (.int .u8 ns[i])) 0 (.v (.int .u8 ns[i])) (by simp [hi]) rfl
   rw [Nat.mul_one,Nat.add_zero] at y1
   rw [y1]
   cases y3
   simp [hi]
  ·rw [List.getElem?_eq_none (by omega),List.getElem?_eq_none (by simp;omega)]
 unfold QaH at hr
 split at hr
 case h_2=>cases hr
 rename_i e ds fs hs ht ha
 split at hr
 ·rename_i b o' he _
  simp only [Option.some.injEq] at hr;subst hr
  have h1:=ho _ List.mem_cons_self
  obtain ⟨l,h2,rfl⟩:=Option.map_eq_some_iff.1 h1
  exact Good.of1 ⟨_,key hs ht he ha h2,OpOK.quiet h (.d _ _ (.v _))⟩
 ·rename_i o' he _
  split at hr
  case h_2=>cases hr
  rename_i l hl
  simp only [Option.some.injEq] at hr;subst hr
  exact Good.of1 ⟨_,key hs ht he ha hl,OpOK.quiet h (.d _ _ (.v _))⟩
 ·cases hr
theorem Qee {M:Nat→Prop} {x:D} {y:Value} (h:DR w M x y):DR w M (wk1 x) y:=by
 cases h with
 | lst f sz es a cap blk off ys h1 h2 h3 h4 h5 h6 =>
  cases es with
  | nil=>exact .lst false 1 [] a cap blk off ys (fun h=>by cases h) h2 h3 (fun i e h=>by simp at h) (fun i e j c h=>by simp at h) (fun i e j c h=>by simp at h)
  | cons x l=>exact .lst false sz (x::l) a cap blk off ys (fun h=>by cases h) h2 h3 h4 h5 h6
 | v=>exact .v _
 | agg cs ys hl h=>exact .agg cs ys hl h
 | tup cs ys hl h=>exact .tup cs ys hl h
 | fn f a b xs ys hl hm h k=>exact .fn f a b xs ys hl hm h k
 | ref x off blk o ys hm hb hw h=>exact .ref x off blk o ys hm hb hw h
 | nan k b h=>exact .nan k b h
 | mp es vs r es' c h1 h2 hw hl hv hk h=>exact .mp es vs r es' c h1 h2 hw hl hv hk h
theorem yI (e:D):(wk1 e).cells=e.cells ∨ (e.cells=[e]∧(wk1 e).cells=[wk1 e]):=by
 cases e with
 | lst f s l =>
  cases l with
  | nil=>exact .inr ⟨by simp [D.cells],by simp [wk1,D.cells]⟩
  | cons x l=>exact .inr ⟨by simp [D.cells],by simp [wk1,D.cells]⟩
 | _=>exact .inl rfl
theorem Qge {M:Nat→Prop} {f:Bool} {sz:Nat} {es:List D} {y:Value} (h:DR w M (.lst f sz es) y):DR w M (.lst f sz (es.map wk1)) y:=by
 cases h with
 | lst _ _ _ a cap blk off ys h1 h2 h3 h4 h5 h6 =>
  have key:∀ (i:Nat) (e:D) (j:Nat) (c:D),(es.map wk1)[i]?=some e→e.cells[j]?=some c→∃ (e' c' : D),es[i]?=some e'∧e'.cells[j]?=some c'∧∀ y,DR w M c' y→DR w M c y:=by
   intro i e j c hi hj
   rw [List.getElem?_map] at hi
   obtain ⟨e',k1,rfl⟩:=Option.map_eq_some_iff.1 hi
   rcases yI e' with q | ⟨q1,q2⟩
   ·rw [q] at hj;exact ⟨e',c,k1,hj,fun y h=>h⟩
   ·rw [q2] at hj
    cases j with
    | zero =>
     simp only [List.getElem?_cons_zero,Option.some.injEq] at hj
     subst hj
     exact ⟨e',e',k1,by rw [q1];rfl,fun y h=>Qee h⟩
    | succ j=>simp at hj
  have r:=DR.lst (w:=w) (M:=M) f sz (es.map wk1) a cap blk off ys (fun h=>by rw [List.length_map];exact h1 h) (by rw [List.length_map];exact h2) (fun h=>h3 fun e=>h (by rw [e];rfl))
   (fun i e hi=>by
    rw [List.getElem?_map] at hi
    obtain ⟨e',k1,rfl⟩:=Option.map_eq_some_iff.1 hi
    rcases yI e' with q | ⟨q1,q2⟩
    ·rw [q];exact h4 i e' k1
    ·have:=h4 i e' k1
     rw [q1] at this;rw [q2];exact this)
   (fun i e j c hi hj=>by
    obtain ⟨e',c',k1,k2,_⟩:=key i e j c hi hj
    exact h5 i e' j c' k1 k2)
   (fun i e j c hi hj=>by
    obtain ⟨e',c',k1,k2,k3⟩:=key i e j c hi hj
    exact k3 _ (h6 i e' j c' k1 k2))
  rwa [List.length_map] at r
theorem Qgf {M:Nat→Prop} {x:AV} {y:Value} (h:VR w M hp ρ x y):VR w M hp ρ (wkA x) y:=by
 unfold wkA
 split
 ·cases h with
  | d _ _ h =>
   split
   ·cases h with
    | agg cs ys hl h =>
     refine .d _ _ (.agg _ ys (by simpa using hl) fun i c v hc hv=>?_)
     rw [List.getElem?_map] at hc
     obtain ⟨c0,h0,rfl⟩:=Option.map_eq_some_iff.1 hc
     exact Qee (h i c0 v h0 hv)
   ·exact .d _ _ h
 ·exact h
theorem QcO (h:HSim cx F hp ρ w) {op:BinOp} {t:TypeId} {x y:Operand} {a b:Value} {q:D} {ob:List Prop} (hr:abin cx sym op t x y a b=some (q,ob)) (ho:∀ p,p∈ob→p) :
  ∃ v,(do eqGuard op t x y a b;binOp op t a b:Sem Value).run cx.P w=.ok v w∧VR w (MM F hp ρ) hp ρ (.d q) v:=by
 unfold abin at hr
 split at hr
 ·simp only [Option.some.injEq,Prod.mk.injEq] at hr;obtain ⟨rfl,rfl⟩:=hr
  refine ⟨_,?_,.d _ _ (.v _)⟩
  have:=Uo (ho _ List.mem_cons_self)
  simp [eqGuard,binOp,Op.intArith,this]
 ·simp only [Option.some.injEq,Prod.mk.injEq] at hr;obtain ⟨rfl,rfl⟩:=hr
  refine ⟨_,?_,.d _ _ (.v _)⟩
  have:=Uo (ho _ List.mem_cons_self)
  simp [eqGuard,binOp,Op.intArith,this]
 ·simp only [Option.some.injEq,Prod.mk.injEq] at hr;obtain ⟨rfl,rfl⟩:=hr
  refine ⟨_,?_,.d _ _ (.v _)⟩
  have:=Uo (ho _ List.mem_cons_self)
  simp [eqGuard,binOp,Op.intArith,this]
 ·simp only [Option.some.injEq,Prod.mk.injEq] at hr;obtain ⟨rfl,rfl⟩:=hr
  refine ⟨_,?_,.d _ _ (.v _)⟩
  have h1:=ho _ List.mem_cons_self
  have h2:=Uo (ho _ (List.mem_cons_of_mem _ List.mem_cons_self))
  simp [eqGuard,binOp,Op.intDiv,h1,h2]
 ·simp only [Option.some.injEq,Prod.mk.injEq] at hr;obtain ⟨rfl,rfl⟩:=hr
  refine ⟨_,?_,.d _ _ (.v _)⟩
  have h1:=ho _ List.mem_cons_self
  simp [eqGuard,binOp,Op.intDiv,h1]
 ·exact KX h (Or.inl rfl) hr ho
 ·exact KX h (Or.inr (Or.inl rfl)) hr ho
 ·exact KX h (Or.inr (Or.inr (Or.inl rfl))) hr ho
 ·exact KX h (Or.inr (Or.inr (Or.inr rfl))) hr ho
 ·rename_i a b
  simp only [Option.some.injEq,Prod.mk.injEq] at hr;obtain ⟨rfl,rfl⟩:=hr
  refine ⟨_,?_,.d _ _ (.v _)⟩
  have h1:a.size+b.size≤9223372036854775807:=ho _ List.mem_cons_self
  have h2:¬ (((a.size+b.size:Nat):Int) > IntKind.i64.max):=by
   have:IntKind.i64.max=9223372036854775807:=by decide
   rw [this];omega
  simp only [eqGuard,binOp,Op.stringOp,Sem.run_bind,Result.andThen_ok,h2,if_false]
  rfl
 ·rename_i a b
  simp only [Option.some.injEq,Prod.mk.injEq] at hr;obtain ⟨rfl,rfl⟩:=hr
  refine ⟨_,?_,.d _ _ (.v _)⟩
  have h1:0≤b:=ho _ List.mem_cons_self
  have h2:¬ b < 0:=by omega
  simp only [eqGuard,binOp,Op.shift,if_neg h2,IntKind.bits]
  rfl
 ·rename_i a b
  simp only [Option.some.injEq,Prod.mk.injEq] at hr;obtain ⟨rfl,rfl⟩:=hr
  refine ⟨_,?_,.d _ _ (.v _)⟩
  have h1:0≤b:=ho _ List.mem_cons_self
  have h2:¬ b < 0:=by omega
  simp only [eqGuard,binOp,Op.shift,if_neg h2,IntKind.bits]
  rfl
 ·split at hr
  case h_2=>cases hr
  rename_i b hg hb
  simp only [Option.some.injEq,Prod.mk.injEq] at hr;obtain ⟨rfl,rfl⟩:=hr
  refine ⟨.bool b,?_,.d _ _ (.v _)⟩
  have h1:=jl w 12 Op.maxDepth _ _ _ _ (by decide) hb
  simp only [Sem.run_bind,wL hg w,Result.andThen_ok,binOp,Op.equal,h1,Sem.run_pure]
 ·split at hr
  case h_2=>cases hr
  rename_i b hg hb
  simp only [Option.some.injEq,Prod.mk.injEq] at hr;obtain ⟨rfl,rfl⟩:=hr
  refine ⟨.bool !b,?_,.d _ _ (.v _)⟩
  have h1:=jl w 12 Op.maxDepth _ _ _ _ (by decide) hb
  simp only [Sem.run_bind,wL hg w,Result.andThen_ok,binOp,Op.equal,h1,Sem.run_pure]
 ·split at hr
  ·rename_i v hv
   simp only [Option.some.injEq,Prod.mk.injEq] at hr;obtain ⟨rfl,rfl⟩:=hr
   exact ⟨v,Wt hv w,K6 _ _ _ _ _⟩
  ·cases hr
theorem jg (h:HSim cx F hp ρ w) {s:Sem Value} (hr:(match ZY cx.P s with | some x=>SX.val1 (.d (ofV x)) orc | none=>none)=some r):Good cx F hp ρ w r (do pure (.value (← s))):=by
 split at hr
 ·rename_i x hx
  exact Good.val1 h hr (Wt hx w) (K6 _ _ _ _ _)
 ·cases hr
theorem KM (hev:∀ x,VR w (MM F hp ρ) hp ρ (ev x) (re x)) (l:List Operand) :
  (l.map ev).length=(l.map re).length∧∀ (i:Nat) (c:AV) (y:Value),(l.map ev)[i]?=some c→(l.map re)[i]?=some y→VR w (MM F hp ρ) hp ρ c y:=by
 refine ⟨by simp,fun i c y hc hy=>?_⟩
 simp only [List.getElem?_map] at hc hy
 cases hx:l[i]? with
 | none=>rw [hx] at hc;cases hc
 | some x =>
  rw [hx] at hc hy
  simp only [Option.map_some,Option.some.injEq] at hc hy
  subst hc;subst hy;exact hev x
theorem Gc:∀ (l:List AV) (ys vs:List Value),allV l=some vs→l.length=ys.length→(∀ (i:Nat) (c:AV) (y:Value),l[i]?=some c→ys[i]?=some y→VR w (MM F hp ρ) hp ρ c y)→ys=vs
 | [],ys,vs,h,hl,_=>by simp only [allV,Option.some.injEq] at h;subst h;cases ys <;> simp_all
 | x::l,ys,vs,h,hl,hh=>by
  simp only [allV] at h
  split at h <;> simp only [Option.some.injEq,reduceCtorEq] at h
  rename_i v vs' h1 h2;subst h
  cases ys with
  | nil=>simp at hl
  | cons y ys =>
   rw [UP h1 (hh 0 x y rfl rfl),Gc l ys vs' h2 (by simpa using hl) (fun i c z hc hz=>hh (i+1) c z (by simpa using hc) (by simpa using hz))]
theorem qq (h:HSim cx F hp ρ w) {x:AV} {v:Value} {es:List D} (he:Yt hp x=some es) (hx:VR w (MM F hp ρ) hp ρ x v):∃ a c,v=.slice a es.length c:=by
 unfold Yt at he
 split at he
 ·simp only [Option.some.injEq] at he;subst he
  cases hx with
  | d _ _ hx=>cases hx;exact ⟨_,_,rfl⟩
 ·rename_i b ver
  cases hx with
  | own _ _ k _ hb hv hone hh =>
  rw [hb] at he
  cases k with
  | box _=>simp at he
  | loop _ _ _ _ _ _=>simp at he
  | mp _=>simp at he
  | it _ _=>simp at he
  | fbox _=>simp at he
  | left _=>simp at he
  | dead=>simp at he
  | row ver' sz es' =>
   simp only at he
   split at he <;> simp only [Option.some.injEq,reduceCtorEq] at he
   rename_i hc;have:=Q6 hc;subst this;subst he
   rcases h.blk b _ hb with ⟨q0,_,q1⟩ | ⟨_,_,_,_,q1,_⟩
   ·rw [hh rfl,q1,q0];exact ⟨_,_,rfl⟩
   ·rw [hh rfl,q1];exact ⟨_,_,rfl⟩
  | frozen ver' sz es' =>
   simp only at he
   split at he <;> simp only [Option.some.injEq,reduceCtorEq] at he
   rename_i hc;have:=Q6 hc;subst this;subst he
   rw [hh rfl]
   have:=h.blk b _ hb
   simp only [BlkR] at this
   generalize ρ b=bv at this ⊢
   cases this;exact ⟨_,_,rfl⟩
  | virt ver' sz es' =>
   simp only at he
   split at he <;> simp only [Option.some.injEq,reduceCtorEq] at he
   rename_i hc;have:=Q6 hc;subst this;subst he
   rw [hh rfl]
   have:=h.blk b _ hb
   simp only [BlkR] at this
   generalize ρ b=bv at this ⊢
   cases this;exact ⟨_,_,rfl⟩
 ·rename_i b ver sz lo n
  split at he <;> simp only [Option.some.injEq,reduceCtorEq] at he
  rename_i hc;subst he
  cases hx with
  | sub _ _ _ _ _ k _ hb hv hone hh =>
   unfold J6 at hc
   rw [hb] at hc
   obtain ⟨r0,c0,_,rfl⟩:=hh (Nat.eq_of_beq_eq_true hc)
   exact ⟨some ⟨r0,lo * sz,none⟩,c0,by rw [List.length_replicate]⟩
 ·cases he
theorem QgC {M:Nat→Prop} {x:AV} {v:Value} (h:VR w M hp ρ x v):VR w M hp ρ (emp x) v:=by
 unfold emp
 split
 ·rename_i a c
  rw [E0 h]
  exact .d _ _ (.lst false 0 [] a c 0 0 (fun _=>undef) (fun h=>by cases h) (Nat.zero_le _) (fun h=>absurd rfl h) (fun i e h=>by simp at h) (fun i e j c h=>by simp at h) (fun i e j c h=>by simp at h))
 ·exact h
theorem kO (h:HSim cx F hp ρ w) (hev:∀ x,VR w (MM F hp ρ) hp ρ (ev x) (re x)) {name:Nat} {b:Builtin} {ats:Array TypeId} {ty:TypeId} {args:Array Operand} {consts:Array Bool}
  (hr:Jz cx sym orc hp name b ats ty (args.toList.map ev)=some r) (ho:∀ q,q∈r.ob→q):Good cx F hp ρ w r (builtin b ats ty consts (args.map re)):=by
 obtain ⟨l1,l2⟩:=KM hev args.toList
 have hargs:(args.map re).toList=args.toList.map re:=by simp
 unfold Jz at hr
 split at hr
 ·split at hr
  case h_2=>cases hr
  rename_i t t2 rest s x hats hl
  rw [hl] at l1 l2
  have h2:∃ sv xv,args.toList.map re=[sv,xv]:=by
   match hm:args.toList.map re,l1 with
   | [a,b],_=>exact ⟨a,b,rfl⟩
  obtain ⟨sv,xv,h2⟩:=h2
  rw [h2] at l2
  have ha:args.map re=#[sv,xv]:=by rw [← Array.toArray_toList (xs:=args.map re),hargs,h2]
  have hat:ats=(t::t2::rest).toArray:=by rw [← hats]
  rw [ha,hat]
  split at hr
  ·rename_i ht2
   split at hr
   ·exact Good.of (QcL h ht2 hr ho (l2 0 _ _ rfl rfl) (l2 1 _ _ rfl rfl))
   ·exact Good.of (yD h ht2 hr ho (l2 0 _ _ rfl rfl) (QgC (l2 1 _ _ rfl rfl)))
  ·exact Good.of (Qcv h hr ho (l2 0 _ _ rfl rfl) (l2 1 _ _ rfl rfl))
 ·split at hr
  case h_2=>cases hr
  rename_i t rest d s hats hl
  rw [hl] at l1 l2
  have h2:∃ sv xv,args.toList.map re=[sv,xv]:=by
   match hm:args.toList.map re,l1 with
   | [a,b],_=>exact ⟨a,b,rfl⟩
  obtain ⟨sv,xv,h2⟩:=h2
  rw [h2] at l2
  have ha:args.map re=#[sv,xv]:=by rw [← Array.toArray_toList (xs:=args.map re),hargs,h2]
  have hat:ats=(t::rest).toArray:=by rw [← hats]
  rw [ha,hat]
  exact Good.of (QcC h hr (l2 0 _ _ rfl rfl) (l2 1 _ _ rfl rfl))
 ·split at hr
  case h_2=>cases hr
  rename_i x hl
  rw [hl] at l1 l2
  have h2:∃ xv,args.toList.map re=[xv]:=by
   match hm:args.toList.map re,l1 with
   | [a],_=>exact ⟨a,rfl⟩
  obtain ⟨xv,h2⟩:=h2
  rw [h2] at l2
  have ha:args.map re=#[xv]:=by rw [← Array.toArray_toList (xs:=args.map re),hargs,h2]
  rw [ha]
  have hx:=l2 0 _ _ rfl rfl
  split at hr
  ·rename_i es hes
   split at hr
   case h_2=>cases hr
   rename_i t rest hats
   split at hr
   case h_2=>cases hr
   rename_i e hu
   have hat:ats=(t::rest).toArray:=by rw [← hats]
   obtain ⟨a,c,rfl⟩:=qq h hes hx
   refine Good.val1 h hr (v:=.int .i64 es.length) ?_ (.d _ _ (.v _))
   have h1:=Qh hu w
   rw [hat]
   simp [Builtin.len_,h1,goInt]
  ·split at hr
   case h_2=>cases hr
   rename_i v hv
   rw [UP hv hx]
   exact jg h hr
 ·split at hr
  case h_2=>cases hr
  rename_i vs hvs
  have:=Gc _ _ vs hvs l1 l2
  have ha:args.map re=vs.toArray:=by rw [← Array.toArray_toList (xs:=args.map re),hargs,this]
  rw [ha]
  exact jg h hr
 ·split at hr
  case h_2=>cases hr
  rename_i vs hvs
  have:=Gc _ _ vs hvs l1 l2
  have ha:args.map re=vs.toArray:=by rw [← Array.toArray_toList (xs:=args.map re),hargs,this]
  rw [ha]
  exact jg h hr
 ·split at hr
  case h_2=>cases hr
  rename_i fz es t rest hl hats
  split at hr
  case h_2=>cases hr
  rename_i e hu
  rw [hl] at l1 l2
  have h2:∃ xv,args.toList.map re=[xv]:=by
   match hm:args.toList.map re,l1 with
   | [a],_=>exact ⟨a,rfl⟩
  obtain ⟨xv,h2⟩:=h2
  rw [h2] at l2
  have ha:args.map re=#[xv]:=by rw [← Array.toArray_toList (xs:=args.map re),hargs,h2]
  rw [ha]
  have hx:=l2 0 _ _ rfl rfl
  have hat:ats=(t::rest).toArray:=by rw [← hats]
  rw [hat]
  cases hx with
  | d _ _ hx =>
   cases hx with
   | lst _ _ _ a cap blk off ys hf hc hb hs' hw hd' =>
    refine Good.val1 h hr (v:=.int .i64 es.length) ?_ (.d _ _ (.v _))
    have h1:=Qh hu w
    simp [Builtin.cap_,h1,goInt,hf rfl]
 ·split at hr
  case h_2=>cases hr
  rename_i x t rest hl hats
  rw [hl] at l1 l2
  have h2:∃ xv,args.toList.map re=[xv]:=by
   match hm:args.toList.map re,l1 with
   | [a],_=>exact ⟨a,rfl⟩
  obtain ⟨xv,h2⟩:=h2
  rw [h2] at l2
  have ha:args.map re=#[xv]:=by rw [← Array.toArray_toList (xs:=args.map re),hargs,h2]
  have hat:ats=(t::rest).toArray:=by rw [← hats]
  rw [ha,hat]
  exact Good.of (QbM h hr ho (l2 0 _ _ rfl rfl))
 ·cases hr
theorem Qfc {cx:Cx} (w:World) (d:Nat) (t e:TypeId) (a:Addr) (l c:Nat) (h:cx.P.underlying t=some (.slice e)):(Op.equalIn (d+1) t (.slice (some a) l c) (.slice none 0 0)).run cx.P w=.ok false w:=by
 simp [Op.equalIn,Sem.run_bind,Qh h w,Result.andThen_ok,Sem.run_pure]
theorem uk {cx:Cx} (w:World) (t e:TypeId) (a:Addr) (l c:Nat) (h:cx.P.underlying t=some (.slice e)):(Op.equal t (.slice (some a) l c) (.slice none 0 0)).run cx.P w=.ok false w:=Qfc w 9999 t e a l c h
theorem Qab {M:Nat→Prop} (hcst:∀ v,re (.const v)=v) {op:BinOp} {t:TypeId} {x:AV} {xo y:Operand} {v:Value} {q:D} {ob:List Prop} (hr:GX cx op t x y=some (q,ob)) (ho:∀ p,p∈ob→p) (hx:VR w M hp ρ x v) :
  ∃ u,(do eqGuard op t xo y v (re y);binOp op t v (re y):Sem Value).run cx.P w=.ok u w∧VR w (MM F hp ρ) hp ρ (.d q) u:=by
 unfold GX at hr
 have key:∀ (elem:TypeId) (full:Bool) (sz:Nat) (es:List SX.D),cx.P.underlying t=some (.slice elem)→x=.d (.lst full sz es)→es≠[]→∃ a n c,v=.slice (some a) n c:=by
  intro elem full sz es _ hxe hne
  subst hxe
  cases hx with
  | d _ _ hx =>
   cases hx with
   | lst _ _ _ a cap blk off ys hf hc ha hs' hw hd' =>
    obtain ⟨g1,_⟩:=ha hne
    subst g1
    exact ⟨_,_,_,rfl⟩
 split at hr
 ·rename_i hu
  simp only [Option.some.injEq,Prod.mk.injEq] at hr;obtain ⟨rfl,rfl⟩:=hr
  obtain ⟨a,n,c,rfl⟩:=key _ _ _ _ hu rfl (ho _ List.mem_cons_self)
  rw [hcst]
  refine ⟨.bool false,?_,.d _ _ (.v _)⟩
  have h1:=uk w t _ a n c hu
  simp [eqGuard,binOp,h1]
 ·rename_i hu
  simp only [Option.some.injEq,Prod.mk.injEq] at hr;obtain ⟨rfl,rfl⟩:=hr
  obtain ⟨a,n,c,rfl⟩:=key _ _ _ _ hu rfl (ho _ List.mem_cons_self)
  rw [hcst]
  refine ⟨.bool true,?_,.d _ _ (.v _)⟩
  have h1:=uk w t _ a n c hu
  simp [eqGuard,binOp,h1]
 ·cases hr
theorem Qfb {cx:Cx} (w:World) (d:Nat) (t e:TypeId) (a:Addr) (h:cx.P.underlying t=some (.pointer e)):(Op.equalIn (d+1) t (.pointer (some a)) (.pointer none)).run cx.P w=.ok false w:=by
 simp [Op.equalIn,Sem.run_bind,Qh h w,Result.andThen_ok,Sem.run_pure]
theorem uj {cx:Cx} (w:World) (t e:TypeId) (a:Addr) (h:cx.P.underlying t=some (.pointer e)):(Op.equal t (.pointer (some a)) (.pointer none)).run cx.P w=.ok false w:=Qfb w 9999 t e a h
theorem jW {M:Nat→Prop} {x:AV} {v:Value} (h:zL hp x=true) (hx:VR w M hp ρ x v):∃ a,v=.pointer (some a):=by
 cases x with
 | ptr b ver sz i off =>
  cases hx with
  | ptr _ _ _ _ _ k _ hb hv ho hh =>
   simp only [zL,hb] at h
   obtain ⟨r,_,hy⟩:=hh (Nat.eq_of_beq_eq_true h).symm
   exact ⟨_,hy⟩
 | dptr y o =>
  cases hx with
  | dptr _ _ blk o' hd=>exact ⟨_,rfl⟩
 | _=>cases h
theorem ym {M:Nat→Prop} (hcst:∀ v,re (.const v)=v) {op:BinOp} {t:TypeId} {x:AV} {xo y:Operand} {v:Value} {q:D} {ob:List Prop} (hr:V2 hp cx op t x y=some (q,ob)) (hx:VR w M hp ρ x v) :
  ∃ u,(do eqGuard op t xo y v (re y);binOp op t v (re y):Sem Value).run cx.P w=.ok u w∧VR w (MM F hp ρ) hp ρ (.d q) u:=by
 unfold V2 at hr
 split at hr
 ·rename_i hu hp'
  simp only [Option.some.injEq,Prod.mk.injEq] at hr;obtain ⟨rfl,rfl⟩:=hr
  obtain ⟨a,rfl⟩:=jW hp' hx
  rw [hcst]
  refine ⟨.bool false,?_,.d _ _ (.v _)⟩
  have h1:=uj w t _ a hu
  simp [eqGuard,binOp,h1]
 ·rename_i hu hp'
  simp only [Option.some.injEq,Prod.mk.injEq] at hr;obtain ⟨rfl,rfl⟩:=hr
  obtain ⟨a,rfl⟩:=jW hp' hx
  rw [hcst]
  refine ⟨.bool true,?_,.d _ _ (.v _)⟩
  have h1:=uj w t _ a hu
  simp [eqGuard,binOp,h1]
 ·cases hr
theorem QdP {k:Blk} {x:SX.D} (h:Qe9 k=some x):k=.fbox x:=by
 cases k <;> first | (cases h;rfl) | cases h
theorem Qdn (h:HSim cx F hp ρ w) {x:AV} {y:Value} (hv:VR w (MM F hp ρ) hp ρ x y):VR w (MM F hp ρ) hp ρ (unf hp x) y:=by
 cases x with
 | ptr b ver sz i off =>
  show VR w (MM F hp ρ) hp ρ (uD hp b ver sz i off) y
  unfold uD
  cases hl:X5 hp b with
  | none=>exact hv
  | some x =>
   unfold X5 at hl
   cases hb:look hp b with
   | none=>rw [hb] at hl;cases hl
   | some k =>
    rw [hb] at hl
    have hk:=QdP hl
    subst hk
    simp only
    cases hc:Nat.beq ver 0 && Nat.beq i 0 with
    | false=>exact hv
    | true =>
     simp only [Bool.and_eq_true] at hc
     have h1:=Q6 hc.1
     have h2:=Q6 hc.2
     subst h1;subst h2
     cases hv with
     | ptr _ _ _ _ _ k' _ hb' _ _ hh =>
      rw [hb] at hb';cases hb'
      obtain ⟨r,hr,hy⟩:=hh rfl
      obtain ⟨r',q1,q2⟩:=h.blk b _ hb
      rw [q1] at hr
      have:r'=r:=by simpa [Qx] using hr
      subst this
      rw [hy,Nat.zero_mul]
      exact .dptr x off _ 0 q2
 | d _=>exact hv
 | agg _=>exact hv
 | tup _=>exact hv
 | dptr _ _=>exact hv
 | own _ _=>exact hv
 | sub _ _ _ _ _=>exact hv
 | fn _ _ _=>exact hv
 | junk=>exact hv
theorem Qcl {n u v:Nat} (hv:v < 8388607) (hn:n=u * 2147483648+2139095041+v):(Ieee.single.read n).isNaN=true:=by
 have hr:n % 2147483648=2139095041+v:=by omega
 unfold Ieee.Format.read
 have e1:Ieee.single.signWeight=2147483648:=by decide
 have e2:Ieee.single.binade=8388608:=by decide
 have e3:Ieee.single.infRung=2139095040:=by decide
 simp only [e1,e2,e3,hr]
 rw [if_neg (by omega),if_neg (by omega),if_neg (by omega)];rfl
theorem Qcm {n u v:Nat} (hv:v < 4503599627370495) (hn:n=u * 9223372036854775808+9218868437227405313+v):(Ieee.double.read n).isNaN=true:=by
 have hr:n % 9223372036854775808=9218868437227405313+v:=by omega
 unfold Ieee.Format.read
 have e1:Ieee.double.signWeight=9223372036854775808:=by decide
 have e2:Ieee.double.binade=4503599627370496:=by decide
 have e3:Ieee.double.infRung=9218868437227405312:=by decide
 simp only [e1,e2,e3,hr]
 rw [if_neg (by omega),if_neg (by omega),if_neg (by omega)];rfl
theorem Qbk (k:FloatKind) (t:Nat):(k.decode (match k with
  | .f32=>(t % 2) * 2 ^ 31+0x7f800000+1+(t / 2) % (2 ^ 23 - 1)
  | .f64=>(t % 2) * 2 ^ 63+0x7ff0000000000000+1+(t / 2) % (2 ^ 52 - 1))).isNaN=true:=by
 cases k with
 | f32 =>
  refine Qcl (u:=t % 2) (v:=(t / 2) % (2 ^ 23 - 1)) (Nat.mod_lt _ (by decide)) ?_
  show (t % 2) * 2 ^ 31+0x7f800000+1+(t / 2) % (2 ^ 23 - 1)=_
  generalize (t / 2) % (2 ^ 23 - 1)=v
  omega
 | f64 =>
  refine Qcm (u:=t % 2) (v:=(t / 2) % (2 ^ 52 - 1)) (Nat.mod_lt _ (by decide)) ?_
  show (t % 2) * 2 ^ 63+0x7ff0000000000000+1+(t / 2) % (2 ^ 52 - 1)=_
  generalize (t / 2) % (2 ^ 52 - 1)=v
  omega
theorem QeJ (k:FloatKind) (x y t:Nat):(k.decode ((Question.nanBits k x y).cut t)).isNaN=true:=by
 have:=Qbk k t
 cases k <;> exact this
theorem QdE (k:FloatKind) (x t:Nat):(k.decode ((Question.nanConv k x).cut t)).isNaN=true:=by
 have:=Qbk k t
 cases k <;> exact this
theorem QbF (h:HSim cx F hp ρ w) {k:FloatKind} {b:Nat} (hb:(k.decode b).isNaN=true):OpOK cx F hp ρ w [] (.d (.nan k)) (.float k b) w.drew :=
 ⟨ρ,h.drew.1,h.drew.2,.d _ _ (.nan k b hb)⟩
theorem Qad (h:HSim cx F hp ρ w) {op:BinOp} {t:TypeId} {xo yo:Operand} {x y:AV} {u v:Value} (hr:Qcn op x y orc=some r) (ho:∀ p,p∈r.ob→p) (hx:VR w (MM F hp ρ) hp ρ x u) (hy:VR w (MM F hp ρ) hp ρ y v) :
  Good cx F hp ρ w r (do pure (.value (← (do eqGuard op t xo yo u v;binOp op t u v:Sem Value)))):=by
 unfold Qcn at hr
 split at hr
 case h_2=>cases hr
 rename_i k a k' b
 split at hr
 case h_2=>cases hr
 rename_i hk
 have hk:=of_decide_eq_true hk
 subst hk
 simp only [Option.some.injEq] at hr;subst hr
 rw [E0 hx,E0 hy]
 have h1:k.format.mul a b=none:=ho _ List.mem_cons_self
 refine Good.of ⟨_,_,?_,QbF h (QeJ k a b (w.tape w.drawn (.nanBits k a b)))⟩
 have h2:(Question.nanBits k a b).forced=false:=rfl
 simp [eqGuard,binOp,Op.floatArith,h1,h2]
theorem Qbm (h:HSim cx F hp ρ w) {op:BinOp} {t:TypeId} {xo yo:Operand} {x y:AV} {u v:Value} (hr:Qc2 op x y orc=some r) (hx:VR w (MM F hp ρ) hp ρ x u) (hy:VR w (MM F hp ρ) hp ρ y v) :
  Good cx F hp ρ w r (do pure (.value (← (do eqGuard op t xo yo u v;binOp op t u v:Sem Value)))):=by
 unfold Qc2 at hr
 split at hr
 case h_2=>cases hr
 rename_i k k'
 split at hr
 case h_2=>cases hr
 rename_i hk
 have hk:=of_decide_eq_true hk
 subst hk
 cases hx with
 | d _ _ hx =>
 cases hy with
 | d _ _ hy =>
 cases hx with
 | nan _ a ha =>
 cases hy with
 | nan _ b hb =>
 refine Good.val1 (v:=.bool true) h hr ?_ (.d _ _ (.v _))
 have h1:k.format.order a b=none:=by
  unfold Ieee.Format.order
  change (k.format.read a).isNaN=true at ha
  generalize k.format.read a=q at *
  cases q <;> first | rfl | cases ha
 simp [eqGuard,binOp,Op.floatCmp,h1]
theorem QbJ (h:HSim cx F hp ρ w) {s t:TypeId} {j i k:FloatKind} {b:Nat} (hs:cx.P.underlying s=some (.float i)) (ht:cx.P.underlying t=some (.float k)) (hb:(j.decode b).isNaN=true) :
  ∃ v w',(convert s t (.float j b):Sem Value).run cx.P w=.ok v w'∧OpOK cx F hp ρ w [] (.d (.nan k)) v w':=by
 by_cases e:j=k
 ·subst e
  refine ⟨.float j b,w,?_,OpOK.quiet h (.d _ _ (.nan j b hb))⟩
  simp [convert,Qh hs w,Qh ht w,Conv.floatToFloat]
 ·refine ⟨_,_,?_,QbF h (QdE k b (w.tape w.drawn (.nanConv k b)))⟩
  have h3:∃ p q,j.decode b=.nan p q:=by
   revert hb
   cases j.decode b with
   | nan p q=>intro _;exact ⟨p,q,rfl⟩
   | infinity _=>intro h;cases h
   | number _ _ _=>intro h;cases h
  obtain ⟨p,q,h3⟩:=h3
  have h2:(Question.nanConv k b).forced=false:=rfl
  simp [convert,Qh hs w,Qh ht w,Conv.floatToFloat,e,h3,h2]
theorem yn (h:HSim cx F hp ρ w) {s t:TypeId} {x:AV} {v:Value} (hr:nanConv cx s t x orc=some r) (ho:∀ p,p∈r.ob→p) (hx:VR w (MM F hp ρ) hp ρ x v) :
  Good cx F hp ρ w r (do pure (.value (← convert s t v))):=by
 unfold nanConv at hr
 split at hr
 case h_2=>cases hr
 rename_i i k j b hs ht
 simp only [Option.some.injEq] at hr;subst hr
 rw [E0 hx]
 exact Good.of (QbJ h hs ht (ho _ List.mem_cons_self))
theorem Qbl (h:HSim cx F hp ρ w) {s t:TypeId} {x:AV} {v:Value} (hr:Qc1 cx s t x orc=some r) (hx:VR w (MM F hp ρ) hp ρ x v) :
  Good cx F hp ρ w r (do pure (.value (← convert s t v))):=by
 unfold Qc1 at hr
 split at hr
 case h_2=>cases hr
 rename_i i k j hs ht
 simp only [val1,Option.some.injEq] at hr;subst hr
 cases hx with
 | d _ _ hx =>
 cases hx with
 | nan _ b hb=>exact Good.of (QbJ h hs ht hb)
theorem uy (h:HSim cx F hp ρ w) (hcst:∀ v,re (.const v)=v) (hev:∀ x,VR w (MM F hp ρ) hp ρ (ev x) (re x)) {name:Nat} {o:Oper} (hr:aop cx sym orc hp name ev o=some r) (ho:∀ q,q∈r.ob→q) :
  Good cx F hp ρ w r (execOp re o):=by
 cases hop:o.op with
 | move x=>simp only [aop,hop] at hr;simp only [execOp,hop];exact Good.pure1 h hr (hev x)
 | assign x=>simp only [aop,hop] at hr;simp only [execOp,hop];exact Good.pure1 h hr (hev x)
 | pick c a b =>
  simp only [aop,hop] at hr;simp only [execOp,hop]
  have hc:=hev c
  split at hr
  ·rename_i e
   rw [e] at hc
   rw [E0 hc]
   exact Good.pure1 (v:=re a) h hr (hev a)
  ·rename_i e
   rw [e] at hc
   rw [E0 hc]
   exact Good.pure1 (v:=re b) h hr (hev b)
  ·cases hr
 | alloc elem =>
  simp only [aop,hop] at hr;simp only [execOp,hop]
  split at hr
  case h_2=>cases hr
  rename_i z hz hn
  split at hr
  case h_2=>cases hr
  rename_i cs hcs
  simp only [Option.some.injEq] at hr;subst hr
  refine Good.of ⟨_,_,?_,JU h hn hcs (K6 _ _ _ _ z) elem⟩
  have h1:=VZ hz w
  simp [Instr.alloc,h1,newVar,newRow]
 | box elem x =>
  simp only [aop,hop] at hr;simp only [execOp,hop]
  split at hr
  case h_2=>cases hr
  rename_i cs hcs hn
  simp only [Option.some.injEq] at hr;subst hr
  exact Good.of ⟨_,_,rfl,JU h hn hcs (hev x) elem⟩
 | build t parts =>
  simp only [aop,hop] at hr;simp only [execOp,hop]
  split at hr
  case h_2=>cases hr
  rename_i y hy
  obtain ⟨v,v1,v2⟩:=QbQ hev hy
  split at hr
  ·exact Good.val1 h hr v1 (Qgf v2)
  ·exact Good.val1 h hr v1 v2
 | buildSlice t len parts =>
  simp only [aop,hop] at hr;simp only [execOp,hop]
  split at hr
  ·exact Good.of (uP h hev hr)
  split at hr
  ·rename_i hpe
   exact Good.of (uU h hev hpe hr)
  split at hr
  case h_2=>cases hr
  rename_i elem hu
  split at hr
  case h_2=>cases hr
  rename_i s z hs hz
  split at hr
  case h_2=>cases hr
  rename_i es fs hl
  split at hr
  case h_2=>cases hr
  rename_i hc
  simp only [Bool.and_eq_true] at hc
  split at hr
  ·simp only [Option.some.injEq] at hr;subst hr
   obtain ⟨v,w',k1,ρ',k2,k3,k4⟩:=Jx h hev hu hs hz hl (Nat.le_of_ble_eq_true hc.1) (Q6 hc.2)
   cases k4 with
   | d _ _ k4=>exact Good.of ⟨v,w',k1,ρ',k2,k3,.d _ _ (Qge k4)⟩
  ·simp only [Option.some.injEq] at hr;subst hr
   exact Good.of (Jx h hev hu hs hz hl (Nat.le_of_ble_eq_true hc.1) (Q6 hc.2))
 | load t a =>
  simp only [aop,hop] at hr;simp only [execOp,hop]
  have ha:=Qdn h (hev a)
  split at hr
  ·rename_i s g b ver sz i off hs hg e
   rw [e] at ha
   split at hr
   case h_2=>cases hr
   rename_i x ob o' hbl
   split at hr
   case h_2=>cases hr
   rename_i y hy
   simp only [Option.some.injEq] at hr;subst hr
   obtain ⟨v,v1,v2⟩:=jR h ha hs hg hbl ho hy
   exact Good.of1 ⟨v,v1,OpOK.quiet h v2⟩
  ·rename_i s g x off hs hg e
   rw [e] at ha
   split at hr
   case h_2=>cases hr
   rename_i y hy
   obtain ⟨v,v1,v2⟩:=QbH (hp:=hp) ha hs hg hy
   exact Good.val1 h hr v1 v2
  ·cases hr
 | store t a x =>
  simp only [aop,hop] at hr;simp only [execOp,hop]
  obtain ⟨w',h1,h2⟩:=QaS h (hev a) (hev x) hr ho
  exact ⟨undef,w',.inr ⟨by simp only [Sem.run_bind,h1,Result.andThen_ok,Sem.run_pure],rfl⟩,h2⟩
 | nilCheck x =>
  simp only [aop,hop] at hr;simp only [execOp,hop]
  have hx:=hev x
  split at hr
  ·rename_i b v s i f e
   rw [e] at hx
   split at hr
   case h_2=>cases hr
   rename_i hcu
   generalize re x=xv at hx ⊢
   cases hx with
   | ptr _ _ _ _ _ kk _ hb hv hone hh =>
    obtain ⟨r0,hr0,rfl⟩:=hh (KP hcu hb)
    exact Good.pure1 (orc:=orc) (v:=.pointer (some ⟨r0,i * s+f,none⟩)) h hr (.ptr b v s i f kk _ hb hv hone fun _=>⟨r0,hr0,rfl⟩)
  ·rename_i y f e
   rw [e] at hx
   generalize re x=xv at hx ⊢
   cases hx with
   | dptr _ _ blk o hd=>exact Good.pure1 (orc:=orc) h hr (.dptr y f blk o hd)
  ·rename_i g a b e
   rw [e] at hx
   generalize re x=xv at hx ⊢
   cases hx with
   | fn _ _ _ xs ys hl hm hh hk=>exact Good.pure1 (orc:=orc) h hr (.fn _ a b xs ys hl hm hh hk)
  ·rename_i g a b e
   rw [e] at hx
   generalize re x=xv at hx ⊢
   cases hx with
   | d _ _ hx =>
    cases hx with
    | fn _ _ _ xs ys hl hm hh hk=>exact Good.pure1 (orc:=orc) h hr (.d _ _ (.fn _ a b xs ys hl hm hh hk))
  ·cases hr
 | binOp op t x y yt =>
  simp only [aop,hop] at hr;simp only [execOp,hop]
  split at hr
  ·exact Qad h hr ho (hev x) (hev y)
  split at hr
  ·rename_i q hq
   simp only [Option.some.injEq] at hr;subst hr
   exact Qbm h hq (hev x) (hev y)
  split at hr
  case h_2 =>
   split at hr
   ·rename_i q ob hq
    simp only [Option.some.injEq] at hr;subst hr
    obtain ⟨v,v1,v2⟩:=ym hcst hq (hev x)
    exact Good.of1 ⟨v,v1,OpOK.quiet h v2⟩
   split at hr
   case h_2=>cases hr
   rename_i q ob hq
   simp only [Option.some.injEq] at hr;subst hr
   obtain ⟨v,v1,v2⟩:=Qab hcst hq ho (hev x)
   exact Good.of1 ⟨v,v1,OpOK.quiet h v2⟩
  rename_i a b ha hb
  split at hr
  case h_2=>cases hr
  rename_i q ob hq
  simp only [Option.some.injEq] at hr;subst hr
  rw [UP ha (hev x),UP hb (hev y)]
  obtain ⟨v,v1,v2⟩:=QcO h hq ho
  exact Good.of1 ⟨v,v1,OpOK.quiet h v2⟩
 | unOp op t x =>
  simp only [aop,hop] at hr;simp only [execOp,hop]
  split at hr
  case h_2=>cases hr
  rename_i a ha
  rw [UP ha (hev x)]
  exact jg h hr
 | convert s t x =>
  simp only [aop,hop] at hr;simp only [execOp,hop]
  split at hr
  ·exact yn h hr ho (hev x)
  split at hr
  ·rename_i q hq
   simp only [Option.some.injEq] at hr;subst hr
   exact Qbl h hq (hev x)
  split at hr
  case h_2=>exact QaG h hr ho (hev x)
  rename_i a ha
  split at hr
  case h_2=>cases hr
  rename_i q ob hq
  simp only [Option.some.injEq] at hr;subst hr
  rw [UP ha (hev x)]
  obtain ⟨v,v1,v2⟩:=QbW h hq ho
  exact Good.of1 ⟨v,v1,OpOK.quiet h v2⟩
 | makeFunc f first cap =>
  simp only [aop,hop] at hr;simp only [execOp,hop]
  obtain ⟨a1,a2⟩:=KM hev first.toList
  obtain ⟨b1,b2⟩:=KM hev cap.toList
  refine Good.val1 h hr (v:=.func f (first.map re) (cap.map re)) rfl (VK ?_)
  have:=VR.fn (w:=w) (M:=MM F hp ρ) (hp:=hp) (ρ:=ρ) f _ _ _ _ a1 b1 a2 b2
  have e1:(first.toList.map re).toArray=first.map re:=by rw [← Array.toList_map]
  have e2:(cap.toList.map re).toArray=cap.map re:=by rw [← Array.toList_map]
  rw [e1,e2] at this
  exact this
 | makeSlice t l c =>
  simp only [aop,hop] at hr;simp only [execOp,hop]
  have hl:=hev l
  have hc:=hev c
  split at hr
  case h_2=>cases hr
  rename_i elem kn n km m hu el ec hn
  rw [el] at hl;rw [ec] at hc
  split at hr
  case h_2=>cases hr
  rename_i s z b hs hz hb
  split at hr
  case h_2=>cases hr
  rename_i ob o' how hok
  simp only [Option.some.injEq] at hr;subst hr
  rw [E0 hl,E0 hc]
  exact Good.of (wS h hu hs hz hb hn hok (Zm how ho))
 | slice t x lo hi mx =>
  simp only [aop,hop] at hr;simp only [execOp,hop]
  split at hr
  ·rename_i b ver sz i off hex
   have hx:=hev x
   rw [hex] at hx
   unfold jA at hr
   split at hr
   ·rename_i q hq
    simp only [Option.some.injEq] at hr;subst hr
    obtain ⟨hw,hg⟩:=jB h hq hx
    simp only [Bool.and_eq_true,Option.isNone_iff_eq_none] at hw
    obtain ⟨⟨rfl,rfl⟩,rfl⟩:=hw
    exact Good.of1 hg
   ·obtain ⟨hw,hg⟩:=uH h hev hr hx
    rw [Option.isNone_iff_eq_none] at hw
    subst hw
    exact Good.of1 hg
  ·split at hr
   ·rename_i q hq
    simp only [Option.some.injEq] at hr;subst hr
    exact Good.of1 (yA h hev hq ho)
   ·split at hr
    ·rename_i q hq
     simp only [Option.some.injEq] at hr;subst hr
     exact Good.of1 (QcG h hev hq ho)
    ·exact Good.of1 (Qax h hev hr ho)
 | sliceToArrayPointer t x =>
  simp only [aop,hop] at hr;simp only [execOp,hop]
  exact Good.of1 (QcP h hr ho (hev x))
 | fieldAddr s x f =>
  simp only [aop,hop] at hr;simp only [execOp,hop]
  have hx:=hev x
  split at hr
  case h_2=>cases hr
  rename_i fd hfd
  split at hr
  case h_2=>cases hr
  rename_i n hn
  obtain ⟨fields,hu,hf⟩:=wK hfd
  have h1:=Qh hu w
  have h2:=QB hn w
  split at hr
  ·rename_i b v sz i off hz e
   rw [e] at hx
   split at hr
   case h_2=>cases hr
   rename_i hcu
   have hn0:n≠0:=fun e=>by subst e;cases hz
   generalize re x=xv at hx ⊢
   cases hx with
   | ptr _ _ _ _ _ kk _ hb hv hone hh =>
    obtain ⟨r0,hr0,rfl⟩:=hh (KP hcu hb)
    refine Good.val1 (v:=.pointer (some ⟨r0,i * sz+(off+fd.offset),none⟩)) h hr ?_ (.ptr b v sz i _ kk _ hb hv rfl fun _=>⟨r0,hr0,rfl⟩)
    simp [Instr.fieldAt,h1,hf,Instr.sureAddr,fieldPlace,h2,hn0,add_at,Nat.add_assoc]
  ·rename_i y off hz e
   rw [e] at hx
   have hn0:n≠0:=fun e=>by subst e;cases hz
   generalize re x=xv at hx ⊢
   cases hx with
   | dptr _ _ blk o hd =>
    refine Good.val1 (v:=.pointer (some ⟨blk,o+(off+fd.offset),none⟩)) h hr ?_ (.dptr y _ blk o hd)
    simp [Instr.fieldAt,h1,hf,Instr.sureAddr,fieldPlace,h2,hn0,add_at,Nat.add_assoc]
  ·cases hr
 | field s x f =>
  simp only [aop,hop] at hr;simp only [execOp,hop]
  have hx:=hev x
  split at hr
  case h_2=>cases hr
  rename_i fd hfd
  obtain ⟨fields,hu,hf⟩:=wK hfd
  have h1:=Qh hu w
  split at hr
  ·rename_i n g cs hn hg e
   rw [e] at hx
   split at hr
   case h_2=>cases hr
   rename_i y hy
   obtain ⟨C,hC⟩:=we rfl hx
   rw [hC] at hx ⊢
   obtain ⟨v,v1,v2⟩:=Ek hn hg hx hy
   refine Good.val1 (v:=v) h hr ?_ v2
   simp [Instr.field,h1,hf,asAgg,v1]
  ·rename_i n g cs hn hg e
   rw [e] at hx
   split at hr
   case h_2=>cases hr
   rename_i y hy
   obtain ⟨C,hC⟩:=we rfl hx
   rw [hC] at hx ⊢
   obtain ⟨v,v1,v2⟩:=Ek hn hg hx hy
   refine Good.val1 (v:=v) h hr ?_ v2
   simp [Instr.field,h1,hf,asAgg,v1]
  ·cases hr
 | indexAddr t x ix =>
  simp only [aop,hop] at hr;simp only [execOp,hop]
  have hi:=hev ix
  split at hr
  case h_2=>cases hr
  rename_i k i e
  rw [e] at hi
  rw [E0 hi]
  exact Good.of1 (wd h hr ho (hev x))
 | index t x ix =>
  simp only [aop,hop] at hr;simp only [execOp,hop]
  split at hr
  case h_2=>cases hr
  rename_i i hi
  exact Good.of1 (QaE h hr ho (hev x) (UP hi (hev ix)))
 | extract x i =>
  simp only [aop,hop] at hr;simp only [execOp,hop]
  have hx:=hev x
  split at hr
  ·rename_i vs e
   rw [e] at hx
   split at hr
   case h_2=>cases hr
   rename_i y hy
   rw [Q3] at hy
   generalize re x=xv at hx ⊢
   cases hx with
   | tup _ ys hl hh =>
    have hlt:i < ys.length:=by rw [← hl];exact (List.getElem?_eq_some_iff.1 hy).1
    refine Good.val1 (v:=ys[i]) h hr ?_ (hh i y _ hy (by simp [hlt]))
    simp [Instr.extract,hlt]
  ·rename_i vs e
   rw [e] at hx
   split at hr
   case h_2=>cases hr
   rename_i y hy
   rw [Q3] at hy
   generalize re x=xv at hx ⊢
   cases hx with
   | d _ _ hx =>
   cases hx with
   | tup _ ys hl hh =>
    have hlt:i < ys.length:=by rw [← hl];exact (List.getElem?_eq_some_iff.1 hy).1
    refine Good.val1 (v:=ys[i]) h hr ?_ (.d _ _ (hh i y _ hy (by simp [hlt])))
    simp [Instr.extract,hlt]
  ·cases hr
 | call c =>
  obtain ⟨callee,args,ats⟩:=c
  cases callee with
  | builtin b =>
   simp only [aop,hop] at hr;simp only [execOp,hop]
   have:=kO (consts:=args.map fun | .const _=>true | _=>false) h hev hr ho
   simp only [resolve,pure_bind,invoke]
   exact this
  | _=>simp only [aop,hop] at hr;cases hr
 | makeMap t q =>
  simp only [aop,hop] at hr;simp only [execOp,hop]
  split at hr
  case h_2=>cases hr
  rename_i hn
  simp only [Option.some.injEq] at hr;subst hr
  exact Good.of (yp h t hn)
 | mapUpdate t m k x =>
  simp only [aop,hop] at hr;simp only [execOp,hop]
  obtain ⟨w',h1,h2⟩:=Gp h hr ho (hev m) (hev k) (hev x)
  exact ⟨undef,w',.inr ⟨by simp only [Sem.run_bind,h1,Result.andThen_ok,Sem.run_pure],rfl⟩,h2⟩
 | insert t m k x =>
  simp only [aop,hop] at hr;simp only [execOp,hop]
  obtain ⟨w',h1,h2⟩:=Gp h hr ho (hev m) (hev k) (hev x)
  exact ⟨undef,w',.inr ⟨by simp only [Sem.run_bind,h1,Result.andThen_ok,Sem.run_pure],rfl⟩,h2⟩
 | lookup t m k ok =>
  simp only [aop,hop] at hr;simp only [execOp,hop]
  exact Good.of1 (Qai h hr ho (hev m) (hev k))
 | range t x =>
  simp only [aop,hop] at hr;simp only [execOp,hop]
  exact Good.of (Qa7 h hr ho (hev x))
 | next x isS =>
  simp only [aop,hop] at hr;simp only [execOp,hop]
  cases isS with
  | false=>exact Good.of (Qbo h hr ho (hev x))
  | true=>exact Good.of (Qck h hr ho (hev x))
 | entry x =>
  simp only [aop,hop] at hr;simp only [execOp,hop]
  exact Good.of (Qah h hr ho (hev x))
 | _=>simp only [aop,hop] at hr;cases hr
end
def qe:Blk→Bool
 | .loop _ _ _ _ _ _=>false
 | .left _=>false
 | _=>true
structure RC where
 val:AV
 up:List (Nat×Blk)
 full:Option (List (Nat×Blk))
 nx:Nat
 ob:List Prop
 orc:List Orc
 sfx:Bool
def RC.heap (rc:RC) (H:List (Nat×Blk)):List (Nat×Blk):=match rc.full with
 | some h=>h
 | none=>rc.up++H
def KR:AV→Option (FuncId×List AV×List AV)
 | .fn (.func f) a b=>some (f,a,b)
 | .d (.fn (.func f) a b)=>some (f,a.map .d,b.map .d)
 | _=>none
def Ud (o:Oper):Option (Operand×List Operand):=match o.op with
 | .call { callee:=.value f,args,argTypes:=_ }=>some (f,args.toList)
 | _=>none
def Qgx:AV→Bool
 | .d _=>true
 | .fn _ _ _=>true
 | x=>match x.toD with
  | some _=>true
  | none=>false
def Vd (H:List (Nat×Blk)) (nx:Nat):Bool:=H.all fun p=>Nat.blt p.1 nx
def jT (H:List (Nat×Blk)) (nx:Nat) (x:AV) (s' : St):Option RC:=match Vd H nx with
 | true=>some { val:=x,up:=[],full:=some s'.hp,nx:=s'.nx,ob:=s'.ob,orc:=s'.orc,sfx:=s'.sfx }
 | false=>none
def zN:Blk→Bool
 | .row _ _ _=>true
 | .mp _=>true
 | .box _=>false
 | .frozen _ _ _=>false
 | .virt _ _ _=>false
 | .loop _ _ _ _ _ _=>false
 | .it _ _=>false
 | .fbox _=>false
 | .left _=>false
 | .dead=>false
def stamp:Blk→Blk
 | .row _ sz es=>.row 0 sz es
 | k=>k
def XF (H:List (Nat×Blk)) (nx:Nat) (x:AV) (s' : St):Option RC:=match x,s'.sfx && UO H (s'.hp.length - H.length) s'.hp && Vd H nx with
 | .own b ver,true=>match look s'.hp b,Z6 H b with
  | some k,false=>match zN k && Nat.beq ver k.ver with
   | true=>some { val:=.own b ver,up:=[(b,k)],full:=none,nx,ob:=s'.ob,orc:=s'.orc,sfx:=true }
   | false=>none
  | _,_=>none
 | _,_=>none
def Qa4 (b ver nm:Nat):List AV→Option (List AV)
 | []=>some []
 | x::l=>match x,Qa4 b ver nm l with
  | .d y,some r=>some (.d y::r)
  | .own b' v,some r=>match Nat.beq b' b && Nat.beq v ver with
   | true=>some (.own nm 0::r)
   | false=>none
  | _,_=>none
def renF (b ver nm:Nat):AV→Option AV
 | .own b' v=>match Nat.beq b' b && Nat.beq v ver with
  | true=>some (.own nm 0)
  | false=>none
 | .agg cs=>match Qa4 b ver nm cs with
  | some l=>some (.agg l)
  | none=>none
 | _=>none
def QgB:List Bool→List OC→Option (Nat×List D)
 | [true],[.row sz L]=>some (sz,L)
 | _,_=>none
def QeT (cx:Cx) (sym:Bool) (H:List (Nat×Blk)) (f:FuncId) (args:List AV) (nx:Nat) (o:List Orc):Option RC:=match sym,cx.K f with
 | false,some g=>match YA H args with
  | some (ds,fs)=>match g ds with
   | some r=>some { val:=.d r,up:=Qc H fs,full:=none,nx,ob:=[],orc:=o,sfx:=true }
   | none=>none
  | none=>none
 | _,_=>none
def Qev (H:List (Nat×Blk)) (m sz:Nat):AV→Option (OC×(Nat×Nat))
 | .own n v=>match look H n with
  | some (.row v' sz' es)=>match Nat.beq v v' && Nat.beq sz sz' with
   | true=>some (.row sz es,(n,v+1))
   | false=>none
  | _=>none
 | .d (.lst true _ [])=>match look H m with
  | none=>some (.row sz [],(m,0))
  | some _=>none
 | _=>none
def Vu (H:List (Nat×Blk)):Nat→List AV→List OC→Option (List OC×List (Option (Nat×Nat))×List Nat)
 | _,[],[]=>some ([],[],[])
 | m,x::xs,.dat _::ss=>match x.toDH H,Vu H (m+1) xs ss with
  | some (y,fs),some (cs,ns,gs)=>some (.dat y::cs,none::ns,fs++gs)
  | _,_=>none
 | m,x::xs,.row sz _::ss=>match Qev H m sz x,Vu H (m+1) xs ss with
  | some (c,p),some (cs,ns,gs)=>some (c::cs,some p::ns,gs)
  | _,_=>none
 | _,_,_=>none
def YW (n:Nat):List (Option (Nat×Nat))→Bool
 | []=>true
 | none::l=>YW n l
 | some (m,_)::l=>!(Nat.beq m n) && YW n l
def XO (bn:Nat) (fz:List Nat):List (Option (Nat×Nat))→Bool
 | []=>!(fz.contains bn)
 | none::l=>XO bn fz l
 | some (n,_)::l=>YW n l && !(Nat.beq n bn) && !(fz.contains n) && XO bn fz l
def isB0:Option Nat→Nat→Bool
 | some b0,b'=>Nat.beq b0 b'
 | none,_=>false
mutual
def AV.argO (H:List (Nat×Blk)) (b:Option Nat):AV→Option (AV×List Nat)
 | .ptr b' ver sz i off=>match isB0 b b' && Nat.beq ver 0 && Nat.beq sz 0 && Nat.beq i 0 with
  | true=>some (.ptr 0 0 0 0 off,[])
  | false=>match (AV.ptr b' ver sz i off).toDH H with
   | some (y,fs)=>some (.d y,fs)
   | none=>none
 | .dptr x o=>some (.d (.ref x o),[])
 | .fn f a c=>match qF H b a,qF H b c with
  | some (x,fs),some (y,gs)=>some (AV.norm (.fn f x y),fs++gs)
  | _,_=>none
 | .agg cs=>match qF H b cs with
  | some (l,fs)=>some (AV.norm (.agg l),fs)
  | none=>none
 | .tup cs=>match qF H b cs with
  | some (l,fs)=>some (AV.norm (.tup l),fs)
  | none=>none
 | .d x=>some (.d x,[])
 | .own n v=>match (AV.own n v).toDH H with
  | some (y,fs)=>some (.d y,fs)
  | none=>none
 | _=>none
def qF (H:List (Nat×Blk)) (b:Option Nat):List AV→Option (List AV×List Nat)
 | []=>some ([],[])
 | x::l=>match x.argO H b,qF H b l with
  | some (y,fs),some (ys,gs)=>some (y::ys,fs++gs)
  | _,_=>none
end
mutual
def AV.resO (b:Nat):AV→Option AV
 | .d x=>some (.d x)
 | .agg cs=>match yT b cs with
  | some l=>some (.agg l)
  | none=>none
 | .tup cs=>match yT b cs with
  | some l=>some (.tup l)
  | none=>none
 | .ptr b' ver sz i off=>match Nat.beq b' 0 && Nat.beq ver 0 && Nat.beq sz 0 && Nat.beq i 0 with
  | true=>some (.ptr b 0 0 0 off)
  | false=>none
 | _=>none
def yT (b:Nat):List AV→Option (List AV)
 | []=>some []
 | x::l=>match x.resO b,yT b l with
  | some y,some ys=>some (y::ys)
  | _,_=>none
end
def QV:List (Option (Nat×Nat))→List OC→List AV
 | none::ns,.dat x::cs=>.d x::QV ns cs
 | some (n,v)::ns,.row _ _::cs=>.own n v::QV ns cs
 | _,_=>[]
def Z5:List (Option (Nat×Nat))→List OC→List (Nat×Blk)
 | some (n,v)::ns,.row sz es::cs=>(n,.row v sz es)::Z5 ns cs
 | _::ns,_::cs=>Z5 ns cs
 | _,_=>[]
def Vs:Nat→List OC→List (Option (Nat×Nat))
 | _,[]=>[]
 | m,.dat _::l=>none::Vs (m+1) l
 | m,.row _ _::l=>some (m,0)::Vs (m+1) l
def Zs:List Bool→List (Option (Nat×Nat))→List (Option (Nat×Nat))
 | true::ks,some (n,v+1)::ns=>some (n,v)::Zs ks ns
 | _::ks,p::ns=>p::Zs ks ns
 | _,ns=>ns
def U3:List Bool→List AV→List OC→Bool
 | true::ks,.own _ _::xs,.row _ _::cs=>U3 ks xs cs
 | true::ks,.d _::xs,.dat _::cs=>U3 ks xs cs
 | [],[],[]=>true
 | _,_,_=>false
def Qct:AV→Bool
 | .agg l=>match Up l with
  | none=>true
  | some _=>false
 | .d (.agg _)=>true
 | _=>false
def EU (cx:Cx) (f:FuncId) (sz:Nat) (L as L' : List D):Prop :=
 ∀ (w:World) (F:Nat→Prop) (r cap:Nat) (c:Array Value) (e:TypeId) (vs:List Value),(∀ q,F q→q < w.heap.size)→(∀ g x,cx.G g=some x→GAt w F g x)→F r →
  as.length=vs.length→(∀ (i:Nat) (c:D) (y:Value),as[i]?=some c→vs[i]?=some y→DR w F c y) →
  w.heap[r]?=some (.cells c e (0,0))→RowIn w F sz L c→L.length≤cap→cap * sz≤c.size →
  Calls cx.P f (Value.slice (some ⟨r,0,none⟩) L.length cap::vs).toArray w fun ev w'=>ev=.returned (.tuple #[])∧L'.length=L.length ∧
   ∃ c',c'.size=c.size∧RowIn w F sz L' c'∧w'.heap[r]?=some (.cells c' e (0,0))∧Ext w (fun q=>q=r) w'
def arow (cx:Cx) (H:List (Nat×Blk)) (nx:Nat) (f:FuncId) (args:List AV) (b ver sz:Nat) (es:List D) (r:AV) (cs' : List OC) (o' : List Orc):Option RC :=
 match args,cs',r with
 | .own b' ver'::rest,[.row sz' L'],.d (.tup [])=>match Nat.beq b' b && Nat.beq ver' ver && Nat.beq sz' sz,YA H rest with
  | true,some (ds,fs)=>match fs.contains b with
   | true=>none
   | false=>some { val:=.d (.tup []),up:=(b,.row ver sz L')::Qc H fs,full:=none,nx,ob:=[EU cx f sz es ds L',es≠[]],orc:=o',sfx:=true }
  | _,_=>none
 | _,_,_=>none
def wh (cx:Cx) (H:List (Nat×Blk)) (nx:Nat) (f:FuncId) (args:List AV) (bo:Option Nat) (r:AV) (cs' : List OC) (ks:List Bool) (o' : List Orc):Option RC :=
  match qF H bo args,Vd H nx with
  | some (as,fs),true=>match bo with
    | some b=>match look H b with
      | some (.box x)=>match x.cells,K8 x with
        | some cells,true=>match Vu H nx cells cs' with
          | some (cs,ns,gs)=>match XO b (fs++gs) ns,r.resO b with
            | true,some v=>match U3 ks cells cs' && Qct x with
             | true=>some { val:=v,up:=Qc H (fs++gs),full:=none,nx,ob:=[ComputesO cx f as (some cs) r cs ks],orc:=o',sfx:=true }
             | false=>some { val:=v,up:=(b,.box (AV.norm (.agg (QV (Zs ks ns) cs'))))::(Z5 (Zs ks ns) cs'++Qc H (fs++gs)),full:=none,nx:=nx+cs'.length,ob:=[ComputesO cx f as (some cs) r cs' ks],orc:=o',sfx:=true }
            | _,_=>none
          | none=>none
        | _,_=>none
      | some (.row ver sz es)=>arow cx H nx f args b ver sz es r cs' o'
      | _=>none
    | none=>match QgB ks cs' with
     | some (sz,L)=>match YA H args,renF 0 0 nx r with
       | some (ds,gs),some v=>some { val:=v,up:=(nx,.row 0 sz L)::Qc H gs,full:=none,nx:=nx+1,ob:=[Z4 cx f ds sz L r],orc:=o',sfx:=true }
       | _,_=>none
     | none=>match XO nx fs (Vs (nx+1) cs'),r.resO nx with
      | true,some v=>some { val:=v,up:=(nx,.box (AV.norm (.agg (QV (Vs (nx+1) cs') cs'))))::(Z5 (Vs (nx+1) cs') cs'++Qc H fs),full:=none,nx:=nx+1+cs'.length,ob:=[ComputesO cx f as none r cs' ks],orc:=o',sfx:=true }
      | _,_=>none
  | _,_=>none
def Qe6:D→Bool
 | .v _=>true
 | _=>false
def Qf9:D→Bool
 | .v _=>true
 | .agg l=>l.all Qe6
 | _=>false
def Qcb:D→Bool
 | .v _=>true
 | .agg l=>l.all Qe6
 | .tup l=>l.all Qf9
 | _=>false
def uA (ex:Code→St→Option (Ex×St)) (cx:Cx) (keepable:Bool) (H:List (Nat×Blk)) (nx:Nat) (sym:Bool) (orc:List Orc) (f:FuncId) (args:List AV):Option RC :=
 match cx.P.funcs[f]? with
 | none=>none
 | some fn=>match fn.body with
  | none=>match allV args with
   | some vs=>match ZY cx.P (callFunc f vs.toArray) with
    | some (.value v)=>some { val:=.d (ofV v),up:=[],full:=none,nx,ob:=[],orc,sfx:=true }
    | _=>none
   | none=>none
  | some _=>match Ej (sym || cx.O f) orc with
   | some (.ret r,o')=>match YA H args with
    | some (ds,fs)=>some { val:=.d r,up:=Qc H fs,full:=none,nx,ob:=[Computes cx f ds r],orc:=o',sfx:=true }
    | none=>none
   | some (.obj bo r cs' ks,o')=>wh cx H nx f args bo r cs' ks o'
   | some (.br _,o')=>match keepable,Ug ex cx f args { nt:=0,sym,tm:=[],hp:=H,nx,orc:=o',ob:=[],vis:=nx,sfx:=true } with
    | true,some (x,s')=>jT H nx x s'
    | false,some (x,s')=>XF H nx x s'
    | _,_=>none
   -- a plain result: what was looked at stays as it is
   | some (.ix _,.ret r::o')=>match Qcb r,YA H args with
    | true,some (ds,_)=>some { val:=.d r,up:=[],full:=none,nx,ob:=[Computes cx f ds r],orc:=o',sfx:=true }
    | _,_=>none
   | some (.no,o')=>match QeT cx sym H f args nx o' with
    | some rc=>some rc
    | none=>match Vd H nx,Ug ex cx f args { nt:=0,sym,tm:=[],hp:=H,nx,orc:=o',ob:=[],vis:=nx,sfx:=true } with
     | true,some (x,s')=>match sym || Qgx x,uL H x s' with
      | true,some y=>some { val:=y,up:=[],full:=none,nx,ob:=s'.ob,orc:=s'.orc,sfx:=true }
      | true,none=>match keepable with
       | true=>jT H nx x s'
       | false=>none
      | false,r=>match keepable,r with
       | true,_=>jT H nx x s'
       | false,some y=>some { val:=y,up:=[],full:=none,nx,ob:=s'.ob,orc:=s'.orc,sfx:=true }
       | false,none=>match sym with
        | true=>none
        | false=>XF H nx x s'
     | _,_=>none
   | _=>none
def JZ (ops:Array Oper) (i:Nat) (o:Oper) (s:St) (x:AV) (hp:List (Nat×Blk)) (nx:Nat) (orc:List Orc) (ob:List Prop) (sfx:Bool):Option St :=
 match ql ops i with
 | true=>match litB s.sym orc x with
  | some (y,ob2,o2)=>({ s with hp,nx,orc:=o2,ob:=ob2++(ob++s.ob),sfx:=s.sfx && sfx }:St).put o.dst y
  | none=>none
 | false=>({ s with hp,nx,orc,ob:=ob++s.ob,sfx:=s.sfx && sfx }:St).put o.dst x
def kI:List Nat→List AV→List (Nat×AV)→List (Nat×AV)
 | t::ps,x::xs,tm=>kI ps xs ((t,x)::tm)
 | _,_,tm=>tm
def Y6 (b:Nat) (H:List (Nat×Blk)):Bool:=H.all fun p=>Nat.beq p.1 b || qe p.2
def zr (ex:Code→St→Option (Ex×St)) (H:List (Nat×Blk)) (nx:Nat) (sym:Bool) (orc:List Orc) (b ver:Nat) (args:List AV):Option RC :=
 match look H b,Nat.beq ver 0 && Vd H nx with
 | some (.loop true tm ps as bd nt),true =>
  match Nat.beq ps.length args.length && ps.all (fun t=>Nat.blt t nt) with
  | true=>match ex as { nt,sym,tm:=kI ps args tm,hp:=H,nx,orc,ob:=[],vis:=nx,sfx:=true,rnd:=true } with
   | some (.normal,s1)=>match look s1.hp b,Y6 b s1.hp with
    | some (.loop true tm1 ps1 as1 bd1 nt1),true=>match ex bd { s1 with hp:=(b,.loop false tm1 ps1 as1 bd1 nt1)::s1.hp } with
     | some (.normal,s2)=>match look s2.hp b,Y6 b s2.hp with
      | some (.loop false tm2 ps2 as2 bd2 nt2),true=>some { val:=.d (.v (.bool true)),up:=[],full:=some ((b,.loop true tm2 ps2 as2 bd2 nt2)::s2.hp),nx:=s2.nx,ob:=s2.ob,orc:=s2.orc,sfx:=!sym && s2.sfx }
      | _,_=>none
     -- the body is left: the loop is YI,and the jump is pending
     | some (e,s2)=>match look s2.hp b,Y6 b s2.hp with
      | some (.loop false _ _ _ _ _),true=>some { val:=.d (.v (.bool false)),up:=[],full:=some ((b,.left e)::s2.hp),nx:=s2.nx,ob:=s2.ob,orc:=s2.orc,sfx:=!sym && s2.sfx }
      | _,_=>none
     | none=>none
    | _,_=>none
   | _=>none
  | false=>none
 | _,_=>none
abbrev VY:=List (Nat×Blk)→Nat→Bool→List Orc→Nat→Nat→List AV→Option RC
abbrev Un:=Bool→List (Nat×Blk)→Nat→Bool→List Orc→FuncId→List AV→Option RC
def jd:AV→Option (Nat×Nat)
 | .own b ver=>some (b,ver)
 | _=>none
def Xv (cx:Cx) (call:Un) (yc:VY) (ops:Array Oper) (base:Nat) (i:Nat) (s:St):Option St :=
  match nth ops.toList i with
  | none=>none
  | some o=>match KH ops s.tm o with
    | none=>none
    | some false=>s.put o.dst (.d (.v undef))
    | some true=>match Ud o with
      | some (fv,args)=>match jd (evA cx s.tm fv) with
       | some (b,ver)=>match yc s.hp s.nx s.sym s.orc b ver (args.map (evA cx s.tm)) with
        | none=>none
        | some rc=>JZ ops i o s rc.val (rc.heap s.hp) rc.nx rc.orc rc.ob rc.sfx
       | none=>match KR (evA cx s.tm fv) with
        | none=>none
        | some (f,a,b)=>match call true s.hp s.nx s.sym s.orc f (a++args.map (evA cx s.tm)++b) with
          | none=>none
          | some rc=>JZ ops i o s rc.val (rc.heap s.hp) rc.nx rc.orc rc.ob rc.sfx
      | none=>match aop cx s.sym s.orc s.hp (base+i) (evA cx s.tm) o with
        | none=>none
        | some r=>JZ ops i o s r.val (r.up++s.hp) s.nx r.orc r.ob true
def Ym (cx:Cx) (call:Un) (yc:VY) (ops:Array Oper) (base:Nat):List Nat→St→Option St
 | [],s=>some s
 | i::l,s=>match Xv cx call yc ops base i s with
  | some s'=>Ym cx call yc ops base l s'
  | none=>none
structure Rec where
 i:Nat
 dst:Option Tmp
 val:AV
 up:List (Nat×Blk)
 fp:Option (List Nat):=none
 piv:Bool:=false
 nx:Nat:=0
 adr:Bool:=false
def Vg:List Rec→List (Nat×AV)
 | []=>[]
 | r::l=>match r.dst with
  | some t=>(t,r.val)::Vg l
  | none=>Vg l
def ZJ:List Rec→List (Nat×Blk)
 | []=>[]
 | r::l=>r.up++ZJ l
def Uh (mask:Nat):List Rec→List Rec
 | []=>[]
 | r::l=>match mask.testBit r.i with
  | true=>r::Uh mask l
  | false=>Uh mask l
def je (o:Oper):Bool:=match o.op with
 | .move _=>false
 | .assign _=>false
 | .pick _ _ _=>false
 | .alloc _=>false
 | .box _ _=>false
 | .build _ _=>false
 | .binOp _ _ _ _ _=>false
 | .unOp _ _ _=>false
 | .makeFunc _ _ _=>false
 | .field _ _ _=>false
 | .index _ _ _=>false
 | .extract _ _=>false
 | .call { callee:=.builtin .max,args:=_,argTypes:=_ }=>false
 | .call { callee:=.builtin .min,args:=_,argTypes:=_ }=>false
 | _=>true
def uh:AV→Option (List Nat)
 | .ptr b _ _ _ _=>some [b]
 | .own b _=>some [b]
 | .sub b _ _ _ _=>some [b]
 | .dptr _ _=>some []
 | .d _=>some []
 | _=>none
def kg (ev:Operand→AV) (o:Oper):Option (List Nat):=match o.op with
 | .load _ a=>uh (ev a)
 | .convert _ _ x=>uh (ev x)
 | .fieldAddr _ x _=>uh (ev x)
 | .indexAddr _ x _=>uh (ev x)
 | .nilCheck x=>uh (ev x)
 | .call { callee:=.builtin b,args,argTypes:=_ }=>match b,args.toList with
  | .len,[x]=>uh (ev x)
  | _,_=>none
 | _=>none
def GU (_masks:List Nat) (s:St) (recs:List Rec) (o:Oper) (mask:Nat) (fp:Option (List Nat)):List (Nat×Blk):=match je o with
 | true=>match fp with
  | none=>ZJ (Uh mask recs)++s.hp
  | some fs=>(ZJ (Uh mask recs)++s.hp).filter fun p=>fs.contains p.1
 | false=>[]
def Qc7 (cx:Cx) (s:St) (recs:List Rec) (o:Oper):Option Nat:=match o.op with
 | .call { callee:=.builtin .len,args,argTypes }=>match args.toList,argTypes.toList with
  | [.tmp t],ty::_=>match cx.P.underlying ty,look s.tm t,recs.all fun r=>match r.dst with | some d=>!(Nat.beq d t) | none=>true with
   | some (.slice _),some (.own b ver),true=>match Yt s.hp (.own b ver) with
    | some es=>some es.length
    | none=>none
   | _,_,_=>none
  | _,_=>none
 | _=>none
def Q4 (masks:List Nat) (i j:Nat):Bool:=match nth masks j with
 | some m=>m.testBit i
 | none=>false
def um (r:Rec) (t:Nat):Bool:=match r.dst with
 | some d=>Nat.beq d t
 | none=>false
def Qaf (t:Nat):List Rec→Option Rec
 | []=>none
 | r::l=>match um r t with
  | true=>some r
  | false=>Qaf t l
def QeR (cx:Cx) (ops:Array Oper) (masks:List Nat) (s:St) (recs:List Rec) (i:Nat) (o:Oper):Option Nat:=match o.op with
 | .call { callee:=.builtin .len,args,argTypes }=>match args.toList,argTypes.toList with
  | [.tmp t],ty::_=>match cx.P.underlying ty,Qaf t recs with
   | some (.slice _),some r=>match nth ops.toList r.i with
    | some p=>match p.op,p.guard with
     | .move (.tmp t0),none=>match look s.tm t0,Q4 masks r.i i && (recs.all fun q=>!(um q t) || Nat.beq q.i r.i) && (recs.all fun q=>!(Nat.blt q.i r.i) || !(um q t0)) with
      | some (.own b ver),true=>match Yt s.hp (.own b ver) with
       | some es=>some es.length
       | none=>none
      | _,_=>none
     | _,_=>none
    | none=>none
   | _,_=>none
  | _,_=>none
 | _=>none
def G4 (s:St) (recs:List Rec) (mask:Nat):List (Nat×Blk):=match (Uh mask recs).any fun r=>r.up.any fun p=>Z6 s.hp p.1 with
 | true=>[]
 | false=>s.hp
def boxB:Blk→Bool
 | .box _=>true
 | .row _ _ _=>false
 | .frozen _ _ _=>false
 | .virt _ _ _=>false
 | .loop _ _ _ _ _ _=>false
 | .mp _=>false
 | .it _ _=>false
 | .fbox _=>false
 | .left _=>false
 | .dead=>false
def ptrB:AV→Option Nat
 | .ptr b _ _ _ _=>some b
 | .d _=>none
 | .agg _=>none
 | .tup _=>none
 | .dptr _ _=>none
 | .own _ _=>none
 | .sub _ _ _ _ _=>none
 | .fn _ _ _=>none
 | .junk=>none
def Xa (ev:Operand→AV) (o:Oper):Option Nat:=match o.op with
 | .fieldAddr _ x _=>ptrB (ev x)
 | .indexAddr _ x _=>ptrB (ev x)
 | _=>none
def adrB (hp:List (Nat×Blk)):Option Nat→Bool
 | some b=>match look hp b with
  | some k=>boxB k
  | none=>false
 | none=>false
def jY (H:List (Nat×Blk)) (nm:Nat) (i:Nat) (dst:Option Tmp) (p:Nat×Blk) (rc:RC):Option (Rec×List Prop×List Orc):=match renF p.1 p.2.ver nm rc.val,zN p.2 && !(Z6 H p.1) with
 | some v,true=>some ({ i,dst,val:=v,up:=[(nm,stamp p.2)] },rc.ob,rc.orc)
 | _,_=>none
def QeN:Nat→List Rec→Nat
 | n,[]=>n
 | n,r::l=>QeN (match Nat.ble n r.nx with | true=>r.nx | false=>n) l
def effO:List Orc→Option (List Orc)
 | .ix k::r=>match decide (k=-9) with
  | true=>some r
  | false=>none
 | _=>none
def effC (cx:Cx) (sym:Bool) (orc:List Orc) (fv:AV):Option (List Orc):=match effO orc with
 | some o=>some o
 | none=>match sym,KR fv with
  | false,some (f,_,_)=>match cx.E f with
   | true=>some orc
   | false=>none
  | _,_=>none
def Qfg (H:List (Nat×Blk)) (rc:RC):Option (List (Nat×Blk)):=match rc.full,rc.sfx with
 | some h,true=>some (h.take (h.length - H.length))
 | some h,false=>some h
 | none,_=>some rc.up
def GN (cx:Cx) (call:Un) (yc:VY) (ops:Array Oper) (masks:List Nat) (base:Nat) (s:St) (i:Nat) (recs:List Rec) (orc:List Orc):Option (Rec×List Prop×List Orc) :=
  match nth ops.toList i,nth masks i with
  | some o,some mask =>
    let tm:=Vg recs++s.tm
    match KH ops tm o with
    | none=>none
    | some false=>some ({ i,dst:=o.dst,val:=.d (.v undef),up:=[],fp:=some [] },[],orc)
    | some true =>
      match Ud o with
      | some (fv,args)=>match jd (evA cx tm fv) with
       | some (b,ver)=>match yc (ZJ (Uh mask recs)++s.hp) (base+ops.toList.length) s.sym orc b ver (args.map (evA cx tm)) with
        | none=>none
        | some rc=>match rc.full,ql ops i with
          | some h,true=>match litB s.sym rc.orc rc.val with
            | some (y,ob2,o2)=>some ({ i,dst:=o.dst,val:=y,up:=h,piv:=true,nx:=rc.nx },ob2++rc.ob,o2)
            | none=>none
          | some h,false=>some ({ i,dst:=o.dst,val:=rc.val,up:=h,piv:=true,nx:=rc.nx },rc.ob,rc.orc)
          | none,_=>none
       | none=>match effC cx s.sym orc (evA cx tm fv) with
        | some orc1=>match KR (evA cx tm fv),ql ops i with
          | some (f,a,b),false=>match call true (ZJ (Uh mask recs)++s.hp) (QeN (base+ops.toList.length) (Uh mask recs)) s.sym orc1 f (a++args.map (evA cx tm)++b) with
            | some rc=>match Qfg (ZJ (Uh mask recs)++s.hp) rc with
              | some u=>some ({ i,dst:=o.dst,val:=rc.val,up:=u,piv:=true,nx:=rc.nx },rc.ob,rc.orc)
              | none=>none
            | none=>none
          | _,_=>none
        | none=>match KR (evA cx tm fv) with
        | none=>none
        | some (f,a,b)=>match inHs (G4 s recs mask) (a++args.map (evA cx tm)++b),call false (G4 s recs mask) (base+ops.toList.length) s.sym orc f (a++args.map (evA cx tm)++b) with
          | true,some rc=>match rc.full,rc.up,ql ops i with
            | none,[],true=>match litB s.sym rc.orc rc.val with
              | some (y,ob2,o2)=>some ({ i,dst:=o.dst,val:=y,up:=[] },ob2++rc.ob,o2)
              | none=>none
            | none,[],false=>some ({ i,dst:=o.dst,val:=rc.val,up:=[] },rc.ob,rc.orc)
            | none,[p],false=>jY (G4 s recs mask) (base+i) i o.dst p rc
            | _,_,_=>none
          | _,_=>none
      | none=>match Qc7 cx s recs o with
       | some k=>some ({ i,dst:=o.dst,val:=.d (.v (.int .i64 k)),up:=[],fp:=some [] },[],orc)
       | none=>match QeR cx ops masks s recs i o with
        | some k=>some ({ i,dst:=o.dst,val:=.d (.v (.int .i64 k)),up:=[],fp:=some [] },[],orc)
        | none=>match aop cx s.sym orc (GU masks s recs o mask (kg (evA cx tm) o)) (base+i) (evA cx tm) o with
         | none=>none
         | some r=>match ql ops i with
           | true=>match litB s.sym r.orc r.val with
             | some (y,ob2,o2)=>some ({ i,dst:=o.dst,val:=y,up:=r.up,fp:=kg (evA cx tm) o,adr:=adrB (GU masks s recs o mask (kg (evA cx tm) o)) (Xa (evA cx tm) o) },ob2++r.ob,o2)
             | none=>none
           | false=>some ({ i,dst:=o.dst,val:=r.val,up:=r.up,fp:=kg (evA cx tm) o,adr:=adrB (GU masks s recs o mask (kg (evA cx tm) o)) (Xa (evA cx tm) o) },r.ob,r.orc)
  | _,_=>none
def Ux (cx:Cx) (call:Un) (yc:VY) (ops:Array Oper) (masks:List Nat) (base:Nat) (s:St):List Nat→List Rec→List Prop→List Orc→Option (List Rec×List Prop×List Orc)
 | [],recs,ob,orc=>some (recs,ob,orc)
 | i::l,recs,ob,orc=>match GN cx call yc ops masks base s i recs orc with
  | some (r,ob1,o1)=>Ux cx call yc ops masks base s l (r::recs) (ob1++ob) o1
  | none=>none
def UK (base:Nat) (r:Rec):Bool:=r.up.any fun p=>!(Nat.beq p.1 (base+r.i))
def VG (ops:Array Oper) (i:Nat):Bool:=match nth ops.toList i with
 | some o=>je o
 | none=>true
def qh (r q:Rec):Bool:=match q.fp,q.up with
 | some fs,[]=>r.up.any fun p=>fs.contains p.1 && !(q.adr && boxB p.2)
 | _,_=>true
def KV (ops:Array Oper) (masks:List Nat) (base:Nat) (r q:Rec):Bool :=
 Q4 masks r.i q.i || Q4 masks q.i r.i || Nat.beq r.i q.i || (!(UK base r && VG ops q.i && qh r q) && !(UK base q && VG ops r.i && qh q r))
def US (o:Oper) (ops:Array Oper):List Tmp :=
  (o.op.operands.toList.filterMap fun | .tmp t=>some t | _=>none) ++
  (match o.guard with
   | some (g,_)=>match nth ops.toList g with
     | some x=>x.dst.toList
     | none=>[]
   | none=>[])
def UM (ops:Array Oper) (masks:List Nat) (i j:Nat):Bool :=
 Q4 masks i j || Q4 masks j i || Nat.beq i j ||
 match nth ops.toList i,nth ops.toList j with
 | some x,some y=>match x.dst with
  | some d=>!((US y ops).contains d) && (match y.dst with | some e=>!(Nat.beq d e) | none=>true)
  | none=>true
 | _,_=>false
def Qcp (masks:List Nat) (o:Oper) (j:Nat):Nat:=o.after.toList.foldl (fun s e=>match Region.binds .any e && Nat.blt e.on j with
 | true=>s ||| (2 ^ e.on ||| (match nth masks e.on with | some m=>m | none=>0))
 | false=>s) 0
def Z8 (masks:List Nat) (j:Nat):Nat:=match nth masks j with
 | some m=>m
 | none=>0
def Qc3 (ops:Array Oper) (masks:List Nat):Bool:=(List.range ops.toList.length).all fun j=>match nth ops.toList j with
 | some o=>Nat.beq (Z8 masks j) (Qcp masks o j) && (o.after.toList.all fun e=>!(Region.binds .any e) || Nat.blt e.on j) &&
  ((List.range j).all fun i=>!((Z8 masks j).testBit i) || Nat.beq (Z8 masks i &&& Z8 masks j) (Z8 masks i))
 | none=>false
def Qaq (ops:Array Oper) (masks:List Nat) (base:Nat) (s:St) (recs:List Rec):Bool :=
 Nat.beq masks.length ops.toList.length && Qc3 ops masks &&
 ((List.range ops.toList.length).all fun i=>(List.range ops.toList.length).all fun j=>UM ops masks i j) &&
 (recs.all fun r=>!(UK base r) || recs.all fun q=>KV ops masks base r q) &&
 (recs.all fun r=>r.up.all fun p=>match Nat.beq p.1 (base+r.i) with
  | true=>!(Z6 s.hp p.1)
  | false=>(Z6 s.hp p.1 || (List.range r.i).any fun i=>Nat.beq p.1 (base+i) && Q4 masks i r.i) || (r.piv && Nat.ble (base+ops.toList.length) p.1)) &&
 (Vd s.hp base || (List.range ops.toList.length).all fun i=>!(Z6 s.hp (base+i))) &&
 (recs.all fun r=>!(UK base r) || VG ops r.i) &&
 (recs.all fun r=>match r.dst with | some d=>Nat.blt d s.nt | none=>true) &&
 (recs.all fun r=>!r.piv || recs.all fun q=>Nat.beq q.i r.i || Q4 masks q.i r.i || Q4 masks r.i q.i || q.up.isEmpty)
def uq:List (Nat×AV)→Nat→List (Nat×AV)
 | [],_=>[]
 | p::l,seen=>match seen.testBit p.1 with
  | true=>uq l seen
  | false=>p::uq l (seen ||| 2 ^ p.1)
def Uy (tm:List (Nat×AV)):Nat→List (Nat×AV)
 | 0=>[]
 | n+1=>match look tm n with
  | some x=>(n,x)::Uy tm n
  | none=>Uy tm n
mutual
def AV.clean (hp:List (Nat×Blk)) (vis:Nat) (kb:List Nat):AV→AV
 | .d x=>.d x
 | .agg cs=>.agg (Ka hp vis kb cs)
 | .tup cs=>.tup (Ka hp vis kb cs)
 | .dptr x o=>.dptr x o
 | .ptr b ver sz i off=>match kb.contains b && J6 hp b ver with
  | true=>match Nat.blt b vis with
   | true=>.ptr b ver sz i off
   | false=>.ptr b 0 sz i off
  | false=>.junk
 | .own b ver=>match kb.contains b && J6 hp b ver with
  | true=>match Nat.blt b vis with
   | true=>.own b ver
   | false=>.own b 0
  | false=>.junk
 | .sub b ver sz lo n=>match kb.contains b && J6 hp b ver with
  | true=>match Nat.blt b vis with
   | true=>.sub b ver sz lo n
   | false=>.sub b 0 sz lo n
  | false=>.junk
 | .fn f a b=>.fn f (Ka hp vis kb a) (Ka hp vis kb b)
 | .junk=>.junk
def Ka (hp:List (Nat×Blk)) (vis:Nat) (kb:List Nat):List AV→List AV
 | []=>[]
 | x::l=>x.clean hp vis kb::Ka hp vis kb l
end
def qw (hp:List (Nat×Blk)) (vis:Nat) (kb:List Nat):List (Nat×AV)→List (Nat×AV)
 | []=>[]
 | (t,x)::l=>(t,x.clean hp vis kb)::qw hp vis kb l
def Blk.clean (hp:List (Nat×Blk)) (vis:Nat) (kb:List Nat) (b:Nat):Blk→Option Blk
 | .box x=>match (x.clean hp vis kb).cells with
  | some _=>some (.box (x.clean hp vis kb))
  | none=>none
 | .row v sz es=>some (.row (match Nat.blt b vis with | true=>v | false=>0) sz es)
 | .frozen v sz es=>some (.frozen (match Nat.blt b vis with | true=>v | false=>0) sz es)
 | .virt v sz es=>some (.virt (match Nat.blt b vis with | true=>v | false=>0) sz es)
 | .loop rdy tm ps as bd nt=>some (.loop rdy (qw hp vis kb tm) ps as bd nt)
 | .mp es=>some (.mp es)
 | .it s p=>some (.it s p)
 | .fbox x=>some (.fbox x)
 | .left e=>some (.left e)
 | .dead=>some .dead
def uf (hp:List (Nat×Blk)) (vis:Nat) (kb:List Nat) (tm:List (Nat×AV)):List Nat→List (Nat×AV)
 | []=>[]
 | t::l=>match look tm t with
  | some x=>(t,x.clean hp vis kb)::uf hp vis kb tm l
  | none=>uf hp vis kb tm l
def jV (hp:List (Nat×Blk)) (vis:Nat) (kb:List Nat):List Nat→Option (List (Nat×Blk))
 | []=>some []
 | b::l=>match look hp b,jV hp vis kb l with
  | some k,some r=>match k.clean hp vis kb b with
   | some k'=>some ((b,k')::r)
   | none=>none
  | _,_=>none
def Jp (z sz:Nat) (es:List D):Blk:=match z with
 | 0=>.virt 0 sz es
 | z+1=>match es with
  | []=>.row 0 (z+1) []
  | e::l=>.virt 0 sz (e::l)
def JP (tm:List (Nat×AV)) (hp:List (Nat×Blk)) (nx:Nat):List Nat→List (Nat×AV)×List (Nat×Blk)×Nat
 | t::z::l=>match look tm t,look hp nx with
  | some (.d (.lst true sz es)),none=>JP ((t,.own nx 0)::tm) ((nx,Jp z sz es)::hp) (nx+1) l
  | _,_=>JP tm hp nx l
 | _=>(tm,hp,nx)
def yZ (s:St) (pr kt kb:List Nat):Option St :=
 match JP s.tm s.hp s.nx pr with
 | (tm,hp,nx)=>match jV hp s.vis kb kb,hp.all fun q=>!(Nat.blt q.1 s.vis) || kb.contains q.1 with
  | some hp0,true=>some { s with tm:=uf hp s.vis kb tm kt,hp:=hp0,nx,ob:=[],orc:=[] }
  | _,_=>none
def Uf:Ex→Exit
 | .normal=>.normal
 | .exit id=>.exit id
 | .ret=>.ret
structure StepsV (vis:Nat) (hp:List (Nat×Blk)) (ρ:Nat→Value) (w:World) (hp' : List (Nat×Blk)) (ρ' : Nat→Value) (w' : World):Prop where
 ext:Ext w (Mut hp ρ) w'
 mt:∀ r,r < w.heap.size→Mut hp' ρ' r→Mut hp ρ r
 grow:∀ b k,b < vis→look hp b=some k→∃ k',look hp' b=some k'∧k.ver≤k'.ver∧(k.ver=k'.ver→ρ' b=ρ b)
theorem Steps1.toV {vis:Nat} {hp hp' : List (Nat×Blk)} {ρ ρ' : Nat→Value} {w w' : World} (h:Steps1 hp ρ w hp' ρ' w'):StepsV vis hp ρ w hp' ρ' w' :=
 ⟨h.ext,h.mt,fun b k _ hb=>h.grow.dom b k hb⟩
theorem StepsV.refl (vis:Nat) (hp:List (Nat×Blk)) (ρ:Nat→Value) (w:World):StepsV vis hp ρ w hp ρ w:=(Steps1.refl hp ρ w).toV
theorem StepsV.trans {vis:Nat} {h1 h2 h3:List (Nat×Blk)} {r1 r2 r3:Nat→Value} {w1 w2 w3:World} (a:StepsV vis h1 r1 w1 h2 r2 w2) (b:StepsV vis h2 r2 w2 h3 r3 w3):StepsV vis h1 r1 w1 h3 r3 w3 :=
 ⟨a.ext.trans b.ext fun r hr hm=>a.mt r hr hm,fun r hr hm=>a.mt r hr (b.mt r (Nat.lt_of_lt_of_le hr a.ext.size) hm),fun n k hn hk=>by
  obtain ⟨k2,hk2,l2,e2⟩:=a.grow n k hn hk
  obtain ⟨k3,hk3,l3,e3⟩:=b.grow n k2 hn hk2
  exact ⟨k3,hk3,Nat.le_trans l2 l3,fun he=>by rw [e3 (by omega),e2 (by omega)]⟩⟩
abbrev fen (r:Option Nat):Fence:={ Fence.wide with round:=r }
theorem Qe8 (r:Option Nat) (n:Nat):(fen r).room n:=by intro d hd;cases hd
def wpR (r:Option Nat) (P:Program) (c:Code) (Q:Exit→Act→World→Prop) (a:Act) (w:World):Prop:=∀ m,c.wpIn (fen r) m P Q a w
section
variable {r:Option Nat} {P:Program} {Q:Exit→Act→World→Prop} {a:Act} {w:World}
theorem Wy {c:Code} {Q' : Exit→Act→World→Prop} (h:wpR r P c Q a w) (hq:∀ e a w,Q e a w→Q' e a w):wpR r P c Q' a w:=fun m=>wpIn_mono (h m) hq
theorem Qec (h:Q .normal a w):wpR r P .skip Q a w:=fun _=>wpIn_skip h
theorem Qdm {l:Nat} (h:Q .normal a w):wpR r P (.label l) Q a w:=fun _=>wpIn_label h
theorem Qed {id:Nat} (h:Q (.exit id) a w):wpR r P (.exit id) Q a w:=fun _=>wpIn_exit h
theorem Qfu (h:Q .ret a w):wpR r P .ret Q a w:=fun _=>wpIn_ret h
theorem QcQ {x y:Code} (h:wpR r P x (Exit.then (wpR r P y Q) Q) a w):wpR r P (.seq x y) Q a w:=fun m=>wpIn_seq (wpIn_mono (h m) fun e a w hh=>by
 cases e with
 | normal=>exact hh m
 | exit id=>exact hh
 | goto l=>exact hh
 | ret=>exact hh
 | panic ch=>exact hh
 | outgrown=>exact hh)
theorem QaL {c:Operand} {x y:Code} {t:Bool} (hc:a.eval c=.bool t) (h:wpR r P (if t then x else y) Q a w):wpR r P (.cond c x y) Q a w:=fun m=>wpIn_cond hc (h m)
theorem yg {c:Operand} {x y:Code} (hc:a.eval c=.bool true) (h:wpR r P x Q a w):wpR r P (.cond c x y) Q a w:=fun m=>wpIn_cond_true hc (h m)
theorem jt {c:Operand} {x y:Code} (hc:a.eval c=.bool false) (h:wpR r P y Q a w):wpR r P (.cond c x y) Q a w:=fun m=>wpIn_cond_false hc (h m)
theorem zt {id:Nat} {c:Code} (h:wpR r P c (Exit.inBlock id Q) a w):wpR r P (.block id c) Q a w:=fun m=>wpIn_block (h m)
theorem Yc {b:Frame} {k:List Item} {cs:List Frame} {c:Code}:step P (lone (b.atR a (.code (.scope c)::k)) cs w)=.next (lone (b.atR a (.code c::.inScope c::k)) cs w) :=
 step_lone_go (by simp [stepG,stepG.exec,Frame.atR])
theorem yj {b:Frame} {k:List Item} {cs:List Frame} {c:Code}:step P (lone (b.atR a (.inScope c::k)) cs w)=.next (lone (b.atR a k) cs w) :=
 step_lone_go (by simp [stepG,stepG.exec,Frame.atR])
theorem Ea {c:Code} (h:wpR r P c (Exit.noGoto Q) a w):wpR r P (.scope c) Q a w:=by
 intro m b k cs hro hb hr
 have h0:(lone (b.atR a (.code (.scope c)::k)) cs w).fenced P (fen r):=fenced_calm hb hr rfl
 obtain ⟨e,a₁,w₁,hq,harr⟩:=h m b (.inScope c::k) cs hro hb hr
 cases e with
 | normal=>exact ⟨.normal,a₁,w₁,hq,.head h0 Yc (StepsIn.trans harr (.one (fenced_calm hb hr rfl) yj))⟩
 | exit id =>
  have hx:exitTo id (.inScope c::k)=exitTo id k:=by simp [exitTo]
  exact ⟨.exit id,a₁,w₁,hq,fun k' hk=>.head h0 Yc (harr.1 k' (by rw [hx];exact hk)),
   fun hr' hk=>let ⟨k₁,h1,h2⟩:=harr.2 hr' (by rw [hx];exact hk);⟨k₁,h1,.head h0 Yc h2⟩⟩
 | goto l=>exact hq.elim
 | ret=>exact ⟨_,a₁,w₁,hq,.of_steps (.one h0 Yc) harr⟩
 | panic ch=>exact ⟨_,a₁,w₁,hq,.of_steps (.one h0 Yc) harr⟩
 | outgrown=>exact ⟨_,a₁,w₁,hq,.of_steps (.one h0 Yc) harr⟩
end
def DfTo (w:World) (ds0:List Deferred) (w' : World) (ds:List Deferred):Prop :=
 ∃ new:List Nat,ds=new.map (fun D=>{ target:=.collected D,args:=#[] })++ds0∧new.Nodup∧∀ D,D∈new→w.heap.size≤D∧w'.heap[D]?=some (.deferred (some []))
theorem DfTo.refl (w:World) (ds0:List Deferred) (w' : World):DfTo w ds0 w' ds0:=⟨[],rfl,List.nodup_nil,fun _ h=>by cases h⟩
def After (cx:Cx) (F:Nat→Prop) (vis nt:Nat) (hp:List (Nat×Blk)) (ρ:Nat→Value) (w:World) (ds0:List Deferred) (tm' : List (Nat×AV)) (hp' : List (Nat×Blk)) (a' : Act) (w' : World):Prop :=
 ∃ ρ',HSim cx F hp' ρ' w'∧TSim F tm' hp' ρ' a' w'∧a'.tmps.size=nt∧DfTo w ds0 w' a'.defers∧StepsV vis hp ρ w hp' ρ' w'
def wpL (r:Option Nat) (P:Program) (c:Code) (Q:Exit→Act→World→Prop) (a:Act) (w:World):Prop :=
 ∀ (b:Frame) (k:List Item) (cs:List Frame),b.roundOf=r→∃ e a' w',Q e a' w'∧ArrivesIn (Machine.fenced P (fen r)) P (lone (b.atR a (.code c::.inLoop c::k)) cs w) b k cs e a' w'
theorem Qdl {r:Option Nat} {P:Program} {c:Code} {Q:Exit→Act→World→Prop} {a:Act} {w:World} (h:wpL r P c Q a w):wpR r P (.loop c) Q a w:=by
 intro m b k cs hro hb hr
 obtain ⟨e,a',w',hq,harr⟩:=h b k cs hro
 exact ⟨e,a',w',hq,.of_steps (.one (fenced_calm hb hr rfl) stepR_loop) harr⟩
theorem Xt {r:Option Nat} {P:Program} {c:Code} {Q:Exit→Act→World→Prop} {a:Act} {w:World} (h:wpR r P c (Exit.then (wpL r P c Q) Q) a w):wpL r P c Q a w:=by
 intro b k cs hro
 have hb:(fen r).fn b.fn:=trivial
 have hr:(fen r).room (cs.length+1+0):=Qe8 _ _
 obtain ⟨e,a₁,w₁,hq,harr⟩:=h 0 b (.inLoop c::k) cs hro hb hr
 cases e with
 | normal =>
  obtain ⟨e₂,a₂,w₂,hq₂,harr₂⟩:=hq b k cs hro
  exact ⟨e₂,a₂,w₂,hq₂,.of_steps (StepsIn.trans harr (.one (fenced_calm hb hr rfl) stepR_inLoop)) harr₂⟩
 | exit id=>exact ⟨_,a₁,w₁,hq,.pass (x:=.inLoop c) rfl (fun _ _=>.inl (by simp)) harr⟩
 | goto l=>exact ⟨_,a₁,w₁,hq,.pass (x:=.inLoop c) rfl (fun _ _=>.inl (by simp)) harr⟩
 | ret=>exact ⟨_,a₁,w₁,hq,.pass (x:=.inLoop c) rfl (fun _ _=>.inl (by simp)) harr⟩
 | panic ch=>exact ⟨_,a₁,w₁,hq,.pass (x:=.inLoop c) rfl (fun _ _=>.inl (by simp)) harr⟩
 | outgrown=>exact ⟨_,a₁,w₁,hq,.pass (x:=.inLoop c) rfl (fun _ _=>.inl (by simp)) harr⟩
def QgG (cx:Cx) (c:Code) (s:St) (e:Ex) (tm' : List (Nat×AV)) (hp' : List (Nat×Blk)):Prop :=
 ∀ (r:Option Nat) (F:Nat→Prop) (ρ:Nat→Value) (a:Act) (w:World),(s.rnd=false→r=none)→Sim cx F s ρ a w →
  wpL r cx.P c (fun e' a' w'=>e'=Uf e∧After cx F s.vis s.nt s.hp ρ w a.defers tm' hp' a' w') a w
def QM (cx:Cx) (c:Code) (nt vis:Nat) (rnd:Bool) (tm:List (Nat×AV)) (hp:List (Nat×Blk)) (e:Ex) (tm' : List (Nat×AV)) (hp' : List (Nat×Blk)):Prop :=
 QgG cx c { nt,sym:=true,tm,hp,nx:=0,orc:=[],ob:=[],vis,sfx:=true,rnd } e tm' hp'
def Qfo (ops:Array Oper) (tm:List (Nat×AV)):List Nat :=
 match (ops.toList.any fun o=>match o.op with | .slice _ _ _ _ _=>true | _=>false) && (ops.toList.any fun o=>(Ud o).isSome) &&
   !(ops.toList.any fun o=>match o.op with | .store _ _ _=>true | .call { callee:=.builtin .append,args:=_,argTypes:=_ }=>true | _=>false) with
 | true=>ops.toList.filterMap fun o=>match o.op with
  | .move (.tmp t)=>match look tm t with
   | some (.own b _)=>some b
   | _=>none
  | _=>none
 | false=>[]
def JQ (ops:Array Oper) (s:St):St:=match s.sym with
 | true=>match s.orc with
  | .lp pr _ kb _ _ _ _::r=>{ s with hp:=Qbd (Qc s.hp kb++s.hp) pr,orc:=r }
  | _=>s
 | false=>{ s with hp:=Qc s.hp (Qfo ops s.tm)++s.hp }
def Qal {α:Type} (n:Nat) (k:Nat→α):α:=match n with
 | 0=>k 0
 | m+1=>k (m+1)
def Qan {α:Type} (n:Bool) (k:Bool→α):α:=match n with
 | true=>k true
 | false=>k false
def Qam {α β:Type} (l:List β) (k:List β→α):α:=match l with
 | []=>k []
 | x::r=>k (x::r)
def Qe5 {α:Type} (l:List Prop) (k:List Prop→α):α:=match l with
 | []=>k []
 | x::r=>k (x::r)
theorem QdM {α:Type} (n:Nat) (k:Nat→α):Qal n k=k n:=by cases n <;> rfl
theorem QdO {α:Type} (n:Bool) (k:Bool→α):Qan n k=k n:=by cases n <;> rfl
theorem QdN {α β:Type} (n:List β) (k:List β→α):Qam n k=k n:=by cases n <;> rfl
theorem QdL {α:Type} (n:List Prop) (k:List Prop→α):Qe5 n k=k n:=by cases n <;> rfl
def St.force {α:Type} (s:St) (k:St→α):α :=
 Qal s.nt fun nt=>Qan s.sym fun sym=>Qam s.tm fun tm=>Qam s.hp fun hp=>Qal s.nx fun nx=>Qam s.orc fun orc=>Qe5 s.ob fun ob=>Qal s.vis fun vis=>Qan s.sfx fun sfx=>Qan s.rnd fun rnd =>
  k { nt,sym,tm,hp,nx,orc,ob,vis,sfx,rnd }
theorem St.force_eq {α:Type} (s:St) (k:St→α):s.force k=k s:=by
 simp only [St.force,QdM,QdO,QdN,QdL]
def Zb:Nat→Cx→Code→St→Option (Ex×St)
 | 0,_,_,_=>none
 | n+1,cx,c,s=>match c with
  | .skip=>some (.normal,s)
  | .label _=>some (.normal,s)
  | .region _ ops draw=>s.force fun s=>match draw with
   | false=>match Ym cx (uA (Zb n cx) cx) (zr (Zb n cx)) ops s.nx (List.range ops.toList.length) { s with nx:=s.nx+ops.toList.length } with
    | some s'=>some (.normal,s')
    | none=>none
   | true=>match Ux cx (uA (Zb n cx) cx) (zr (Zb n cx)) ops (Region.before ops).toList s.nx (JQ ops s) (List.range ops.toList.length) [] s.ob (JQ ops s).orc with
    | some (recs,ob,orc)=>match Qaq ops (Region.before ops).toList s.nx (JQ ops s) recs with
     | true=>some (.normal,{ s with tm:=Vg recs++s.tm,hp:=ZJ recs++(JQ ops s).hp,nx:=QeN (s.nx+ops.toList.length) recs,orc,ob })
     | false=>none
    | none=>none
  | .seq a b=>match Zb n cx a s with
   | some (.normal,s1)=>Zb n cx b s1
   | r=>r
  | .cond x t e=>match evA cx s.tm x with
   | .d (.v (.bool b))=>match Ej s.sym s.orc with
    | some (.br true,r)=>Zb n cx t { s with orc:=r,ob:=(b=true)::s.ob }
    | some (.br false,r)=>Zb n cx e { s with orc:=r,ob:=(b=false)::s.ob }
    | some (.no,r)=>match b with
     | true=>Zb n cx t { s with orc:=r }
     | false=>Zb n cx e { s with orc:=r }
    | _=>none
   | _=>none
  | .block id body=>match Zb n cx body s with
   | some (.exit i,s1)=>match Nat.beq i id with
    | true=>some (.normal,s1)
    | false=>some (.exit i,s1)
   | r=>r
  | .scope body=>Zb n cx body s
  | .loop body=>match Ej s.sym s.orc with
   | some (.lp pr kt kb e tm hp nx,r)=>match yZ s pr kt kb with
    | some s0=>some (e,{ s with tm,hp,nx,orc:=r,ob:=QM cx body s0.nt s0.vis s0.rnd s0.tm s0.hp e tm hp::s.ob,sfx:=false })
    | none=>none
   | some (.no,r)=>match Zb n cx body { s with orc:=r,tm:=uq s.tm 0 } with
    | some (.normal,s1)=>Zb n cx (.loop body) s1
    | q=>q
   | _=>none
  | .rangeFunc f ps as bd=>match s.rnd,KR (evA cx s.tm f),Vd s.hp s.nx && s.hp.all (fun p=>qe p.2) with
   | false,some (g,a,b),true=>match Ug (Zb n cx) cx g (a++[.own s.nx 0]++b) { nt:=0,sym:=s.sym,tm:=[],hp:=(s.nx,.loop true (Uy s.tm s.nt) ps.toList as bd s.nt)::s.hp,nx:=s.nx+1,orc:=s.orc,ob:=s.ob,vis:=s.nx+1,sfx:=true } with
    | some (_,s2)=>match look s2.hp s.nx,Y6 s.nx s2.hp with
     | some (.loop true _ _ _ _ _),true=>some (.normal,{ s with hp:=(s.nx,.dead)::s2.hp.filter (fun p=>!(Nat.beq p.1 s.nx)),nx:=s2.nx,orc:=s2.orc,ob:=s2.ob,sfx:=!s.sym && (s.sfx && s2.sfx) })
     | some (.left e),true=>some (e,{ s with hp:=(s.nx,.dead)::s2.hp.filter (fun p=>!(Nat.beq p.1 s.nx)),nx:=s2.nx,orc:=s2.orc,ob:=s2.ob,sfx:=!s.sym && (s.sfx && s2.sfx) })
     | _,_=>none
    | none=>none
   | _,_,_=>none
  | .exit id=>some (.exit id,s)
  | .ret=>some (.ret,s)
  | _=>none
theorem VR.restrict {w w' : World} {M M1 M2:Nat→Prop} {H hp' : List (Nat×Blk)} {ρ ρ' : Nat→Value} (hag:∀ b k,look H b=some k→look hp' b=some k∧ρ' b=ρ b) (hM:∀ r,r < w'.heap.size→M2 r→M1 r) {x:AV} {y0:Value} (h0:VR w M H ρ x y0) :
  ∀ y,VR w' M1 hp' ρ' x y→VR w' M2 H ρ x y:=by
 induction h0 with
 | d x y0 _ =>
  intro y h
  cases h with
  | d _ _ h=>exact .d _ _ (h.ext (Nat.le_refl _) (fun _ _ _=>rfl) hM)
 | agg cs ys hl hh ih =>
  intro y h
  cases h with
  | agg _ ys' hl' hh' =>
   refine .agg cs ys' hl' fun i c z hc hz=>?_
   have hlt:i < ys.length:=by rw [← hl];exact (List.getElem?_eq_some_iff.1 hc).1
   exact ih i c ys[i] hc (by simp [hlt]) z (hh' i c z hc hz)
 | tup cs ys hl hh ih =>
  intro y h
  cases h with
  | tup _ ys' hl' hh' =>
   refine .tup cs ys' hl' fun i c z hc hz=>?_
   have hlt:i < ys.length:=by rw [← hl];exact (List.getElem?_eq_some_iff.1 hc).1
   exact ih i c ys[i] hc (by simp [hlt]) z (hh' i c z hc hz)
 | dptr x off blk o hd =>
  intro y h
  cases h with
  | dptr _ _ blk' o' hd'=>exact .dptr _ _ _ _ (hd'.ext (Nat.le_refl _) (fun _ _ _=>rfl) hM)
 | ptr b ver sz i off k y0 hb hv ho hh =>
  intro y h
  cases h with
  | ptr _ _ _ _ _ k' _ hb' hv' ho' hh' =>
   obtain ⟨h1,h2⟩:=hag b k hb
   rw [h1] at hb';cases hb'
   exact .ptr b ver sz i off k y hb hv ho' fun he=>by
    obtain ⟨r,hr,hy⟩:=hh' he
    exact ⟨r,by rw [← h2];exact hr,hy⟩
 | own b ver k y0 hb hv ho hh =>
  intro y h
  cases h with
  | own _ _ k' _ hb' hv' ho' hh' =>
   obtain ⟨h1,h2⟩:=hag b k hb
   rw [h1] at hb';cases hb'
   exact .own b ver k y hb hv ho' fun he=>by rw [← h2];exact hh' he
 | sub b ver sz lo n k y0 hb hv ho hh =>
  intro y h
  cases h with
  | sub _ _ _ _ _ k' _ hb' hv' ho' hh' =>
   obtain ⟨h1,h2⟩:=hag b k hb
   rw [h1] at hb';cases hb'
   exact .sub b ver sz lo n k y hb hv ho' fun he=>by
    obtain ⟨r,c,hr,hy⟩:=hh' he
    exact ⟨r,c,by rw [← h2];exact hr,hy⟩
 | fn f a b xs ys hl hm hh hk ih ik =>
  intro y h
  cases h with
  | fn _ _ _ xs' ys' hl' hm' hh' hk' =>
   refine .fn f a b xs' ys' hl' hm' (fun i c z hc hz=>?_) (fun i c z hc hz=>?_)
   ·have hlt:i < xs.length:=by rw [← hl];exact (List.getElem?_eq_some_iff.1 hc).1
    exact ih i c xs[i] hc (by simp [hlt]) z (hh' i c z hc hz)
   ·have hlt:i < ys.length:=by rw [← hm];exact (List.getElem?_eq_some_iff.1 hc).1
    exact ik i c ys[i] hc (by simp [hlt]) z (hk' i c z hc hz)
 | junk y0=>intro y _;exact .junk y
theorem HSim.restrict {cx:Cx} {F:Nat→Prop} {H hp' : List (Nat×Blk)} {ρ ρ' : Nat→Value} {w w' : World} (h:HSim cx F H ρ w) (h' : HSim cx F hp' ρ' w') (hag:∀ b k,look H b=some k→look hp' b=some k∧ρ' b=ρ b)
  (hx:Ext w (Mut H ρ) w'):HSim cx F H ρ w'∧Steps1 H ρ w H ρ w':=by
 have hmut:∀ r,Mut H ρ r→Mut hp' ρ' r:=by
  rintro r ⟨b,k,hb,hm,hr⟩
  obtain ⟨h1,h2⟩:=hag b k hb
  exact ⟨b,k,h1,hm,by rw [h2];exact hr⟩
 have hMM:∀ r,r < w'.heap.size→MM F H ρ r→MM F hp' ρ' r:=fun r _ hm=>hm.imp id (hmut r)
 refine ⟨⟨fun b k hb=>?_,h.inj,h.forb,fun r hr=>Nat.lt_of_lt_of_le (h.bnd r hr) hx.size,fun g x hg=>?_⟩,⟨hx,fun _ _ h=>h,Grows.refl _ _⟩⟩
 ·obtain ⟨h1,h2⟩:=hag b k hb
  have hB:=h.blk b k hb
  have hB':=h'.blk b k h1
  cases k with
  | box x =>
   obtain ⟨r,e,v,cs,q1,q2,q3,q4⟩:=hB'
   obtain ⟨_,_,v0,_,_,_,_,p4⟩:=hB
   exact ⟨r,e,v,cs,by rw [← h2];exact q1,q2,q3,VR.restrict hag hMM p4 v q4⟩
  | loop rdy tm ps as bd nt =>
   obtain ⟨l,rc,q1,q3,q4,q5,q6,q7,q8,q9,q10⟩:=hB'
   obtain ⟨_,_,_,_,_,_,_,_,_,_,p10⟩:=hB
   exact ⟨l,rc,by rw [← h2];exact q1,q3,q4,q5,q6,q7,q8,q9,fun t x hx=>VR.restrict hag hMM (p10 t x hx) _ (q10 t x hx)⟩
  | mp es =>
   obtain ⟨r,es',c,q1,q2,q3⟩:=hB'
   exact ⟨r,es',c,by rw [← h2];exact q1,q2,q3.ext (Nat.le_refl _) (fun _ _ _=>rfl) hMM⟩
  | it s p =>
   obtain ⟨r,q1,q2⟩:=hB'
   exact ⟨r,by rw [← h2];exact q1,q2.ext rfl (fun _ _ _=>rfl) hMM⟩
  | left e =>
   obtain ⟨l,rc,q1,q3,q4⟩:=hB'
   exact ⟨l,rc,by rw [← h2];exact q1,q3,q4⟩
  | fbox x =>
   obtain ⟨r,q1,q2⟩:=hB'
   exact ⟨r,by rw [← h2];exact q1,q2.ext (Nat.le_refl _) (fun _ _ _=>rfl) hMM⟩
  | dead=>trivial
  | row ver sz es =>
   rcases hB' with ⟨q0,a0,q1⟩ | ⟨r,c,e,cap,q1,q2,q3,q4,q5,q6⟩
   ·exact .inl ⟨q0,a0,by rw [← h2];exact q1⟩
   refine .inr ⟨r,c,e,cap,by rw [← h2];exact q1,q2,q3,q4,q5,fun i d j a hd ha=>?_⟩
   obtain ⟨y,y1,y2,y3⟩:=q6 i d j a hd ha
   exact ⟨y,y1,y2,y3.ext (Nat.le_refl _) (fun _ _ _=>rfl) hMM⟩
  | frozen ver sz es =>
   simp only [BlkR] at hB' ⊢
   rw [← h2];exact hB'.ext (Nat.le_refl _) (fun _ _ _=>rfl) hMM
  | virt ver sz es =>
   simp only [BlkR] at hB' ⊢
   rw [← h2];exact hB'.ext (Nat.le_refl _) (fun _ _ _=>rfl) hMM
 ·exact (h'.glob g x hg).ext (Nat.le_refl _) (fun _ _ _=>rfl) hMM
theorem HSim.restrictE {cx:Cx} {F:Nat→Prop} {H hp' : List (Nat×Blk)} {ρ ρ' : Nat→Value} {w w' : World} {E:Nat→Prop} (h:HSim cx F H ρ w) (h' : HSim cx F hp' ρ' w') (hag:∀ b k,look H b=some k→look hp' b=some k∧ρ' b=ρ b)
  (hx:Ext w (Mut H ρ) w') (hE:∀ r,E r→Mut hp' ρ' r∧w.heap.size≤r):HSim cx (fun r=>F r ∨ E r) H ρ w':=by
 have hmut:∀ r,Mut H ρ r→Mut hp' ρ' r:=by
  rintro r ⟨b,k,hb,hm,hr⟩
  obtain ⟨h1,h2⟩:=hag b k hb
  exact ⟨b,k,h1,hm,by rw [h2];exact hr⟩
 have hMM:∀ r,r < w'.heap.size→MM (fun r=>F r ∨ E r) H ρ r→MM F hp' ρ' r:=by
  rintro r _ ((h1 | h1) | h1)
  ·exact .inl h1
  ·exact .inr (hE r h1).1
  ·exact .inr (hmut r h1)
 refine ⟨fun b k hb=>?_,h.inj,fun r hr hf=>?_,fun r hr=>?_,fun g x hg=>?_⟩
 ·obtain ⟨h1,h2⟩:=hag b k hb
  have hB:=h.blk b k hb
  have hB':=h'.blk b k h1
  cases k with
  | box x =>
   obtain ⟨r,e,v,cs,q1,q2,q3,q4⟩:=hB'
   obtain ⟨_,_,v0,_,_,_,_,p4⟩:=hB
   exact ⟨r,e,v,cs,by rw [← h2];exact q1,q2,q3,VR.restrict hag hMM p4 v q4⟩
  | loop rdy tm ps as bd nt =>
   obtain ⟨l,rc,q1,q3,q4,q5,q6,q7,q8,q9,q10⟩:=hB'
   obtain ⟨_,_,_,_,_,_,_,_,_,_,p10⟩:=hB
   exact ⟨l,rc,by rw [← h2];exact q1,q3,q4,q5,q6,q7,q8,q9,fun t x hx=>VR.restrict hag hMM (p10 t x hx) _ (q10 t x hx)⟩
  | mp es =>
   obtain ⟨r,es',c,q1,q2,q3⟩:=hB'
   exact ⟨r,es',c,by rw [← h2];exact q1,q2,q3.ext (Nat.le_refl _) (fun _ _ _=>rfl) hMM⟩
  | it s p =>
   obtain ⟨r,q1,q2⟩:=hB'
   exact ⟨r,by rw [← h2];exact q1,q2.ext rfl (fun _ _ _=>rfl) hMM⟩
  | left e =>
   obtain ⟨l,rc,q1,q3,q4⟩:=hB'
   exact ⟨l,rc,by rw [← h2];exact q1,q3,q4⟩
  | fbox x =>
   obtain ⟨r,q1,q2⟩:=hB'
   exact ⟨r,by rw [← h2];exact q1,q2.ext (Nat.le_refl _) (fun _ _ _=>rfl) hMM⟩
  | dead=>trivial
  | row ver sz es =>
   rcases hB' with ⟨q0,a0,q1⟩ | ⟨r,c,e,cap,q1,q2,q3,q4,q5,q6⟩
   ·exact .inl ⟨q0,a0,by rw [← h2];exact q1⟩
   refine .inr ⟨r,c,e,cap,by rw [← h2];exact q1,q2,q3,q4,q5,fun i d j a hd ha=>?_⟩
   obtain ⟨y,y1,y2,y3⟩:=q6 i d j a hd ha
   exact ⟨y,y1,y2,y3.ext (Nat.le_refl _) (fun _ _ _=>rfl) hMM⟩
  | frozen ver sz es =>
   simp only [BlkR] at hB' ⊢
   rw [← h2];exact hB'.ext (Nat.le_refl _) (fun _ _ _=>rfl) hMM
  | virt ver sz es =>
   simp only [BlkR] at hB' ⊢
   rw [← h2];exact hB'.ext (Nat.le_refl _) (fun _ _ _=>rfl) hMM
 ·rcases hf with hf | hf
  ·exact h.forb r hr hf
  ·have:=h.mut_lt hr
   have:=(hE r hf).2
   omega
 ·rcases hr with hr | hr
  ·exact Nat.lt_of_lt_of_le (h.bnd r hr) hx.size
  ·exact h'.mut_lt (hE r hr).1
 ·exact (h'.glob g x hg).ext (Nat.le_refl _) (fun _ _ _=>rfl) hMM
def RowV (w:World) (M:Nat→Prop) (v:Value) (sz:Nat) (es:List D):Prop :=
 (es=[]∧∃ a,v=.slice a 0 0) ∨ ∃ r c e cap,v=.slice (some ⟨r,0,none⟩) es.length cap∧(es.length≤cap∧0 < cap)∧cap * sz≤c.size∧w.heap[r]?=some (.cells c e (0,0)) ∧
   (∀ (i:Nat) (d:D),es[i]?=some d→d.cells.length=sz) ∧
   ∀ (i:Nat) (d:D) (j:Nat) (a:D),es[i]?=some d→d.cells[j]?=some a→∃ y,c[i * sz+j]?=some y∧one y=true∧DR w M a y
theorem RowV.sub {w:World} {M M' : Nat→Prop} {v:Value} {sz:Nat} {es:List D} (h:RowV w M v sz es) (hm:∀ r,r < w.heap.size→M' r→M r):RowV w M' v sz es:=by
 rcases h with h | ⟨r,c,e,cap,q1,q2,q3,q4,q5,q6⟩
 ·exact .inl h
 ·refine .inr ⟨r,c,e,cap,q1,q2,q3,q4,q5,fun i d j a hd ha=>?_⟩
  obtain ⟨y,y1,y2,y3⟩:=q6 i d j a hd ha
  exact ⟨y,y1,y2,y3.ext (Nat.le_refl _) (fun _ _ _=>rfl) hm⟩
def FreshV (w:World) (M:Nat→Prop) (v:Value):Blk→Prop
 | .row _ sz es=>RowV w M v sz es
 | .mp es=>∃ r es' c,v=.map (some r)∧w.heap[r]?=some (.map es' c)∧MRB w M es es'.toList c
 | _=>False
theorem FreshV.sub {w:World} {M M' : Nat→Prop} {v:Value} {k:Blk} (h:FreshV w M v k) (hm:∀ r,r < w.heap.size→M' r→M r):FreshV w M' v k:=by
 cases k with
 | row _ sz es=>exact RowV.sub h hm
 | mp es =>
  obtain ⟨r,es',c,h1,h2,h3⟩:=h
  exact ⟨r,es',c,h1,h2,h3.ext (Nat.le_refl _) (fun _ _ _=>rfl) hm⟩
 | _=>exact h.elim
theorem FreshV.blk {w:World} {M:Nat→Prop} {hp:List (Nat×Blk)} {ρ:Nat→Value} {b:Nat} {k:Blk} (h:FreshV w M (ρ b) k):BlkR w M hp ρ b k:=by
 cases k with
 | row _ sz es =>
  rcases h with ⟨q0,a,q1⟩ | ⟨r,c,e,cap,q1,q2⟩
  ·exact .inl ⟨q0,a,q1⟩
  ·exact .inr ⟨r,c,e,cap,q1,q2⟩
 | mp es=>exact h
 | _=>exact h.elim
theorem FreshV.stamp {w:World} {M:Nat→Prop} {v:Value} {k:Blk} (h:FreshV w M v k):FreshV w M v (stamp k):=by
 cases k with
 | row _ sz es=>exact h
 | mp es=>exact h
 | _=>exact h.elim
theorem XE {w:World} {M:Nat→Prop} {hp:List (Nat×Blk)} {ρ:Nat→Value} {b:Nat} {k:Blk} (hk:zN k=true) (h:BlkR w M hp ρ b k):FreshV w M (ρ b) k:=by
 cases k with
 | row _ sz es=>exact h
 | mp es=>exact h
 | _=>cases hk
theorem KO {k:Blk} (hk:zN k=true):k.live=true:=by cases k <;> first | rfl | cases hk
theorem Qa3 {w:World} {M1 M2:Nat→Prop} {hp1 hp2:List (Nat×Blk)} {ρ1 ρ2:Nat→Value} {b ver nm:Nat} {k1 k2:Blk} (h1:look hp1 b=some k1) (hv:k1.ver=ver) (h2:look hp2 nm=some k2) (hρ:ρ2 nm=ρ1 b)
  (hM:∀ r,r < w.heap.size→M2 r→M1 r):∀ (cs xs:List AV) (ys:List Value),Qa4 b ver nm cs=some xs→cs.length=ys.length→(∀ (i:Nat) (c:AV) (y:Value),cs[i]?=some c→ys[i]?=some y→VR w M1 hp1 ρ1 c y) →
  xs.length=ys.length∧∀ (i:Nat) (c:AV) (y:Value),xs[i]?=some c→ys[i]?=some y→VR w M2 hp2 ρ2 c y
 | [],xs,ys,hx,hl,_=>by
  simp only [Qa4,Option.some.injEq] at hx
  subst hx
  exact ⟨hl,fun i c y hc _=>by simp at hc⟩
 | x::l,xs,ys,hx,hl,hh=>by
  cases ys with
  | nil=>simp at hl
  | cons y ys =>
  have ih:=Qa3 h1 hv h2 hρ hM l
  have hx0:=hh 0 x y rfl rfl
  have hrest:∀ (i:Nat) (c:AV) (z:Value),l[i]?=some c→ys[i]?=some z→VR w M1 hp1 ρ1 c z:=fun i c z hc hz=>hh (i+1) c z (by simpa using hc) (by simpa using hz)
  unfold Qa4 at hx
  split at hx
  ·rename_i z r hr
   simp only [Option.some.injEq] at hx;subst hx
   obtain ⟨g1,g2⟩:=ih r ys hr (by simpa using hl) hrest
   refine ⟨by simpa using g1,fun i c y' hc hy=>?_⟩
   cases i with
   | zero =>
    simp only [List.getElem?_cons_zero,Option.some.injEq] at hc hy
    subst hc;subst hy
    cases hx0 with
    | d _ _ hd=>exact .d _ _ (hd.ext (Nat.le_refl _) (fun _ _ _=>rfl) hM)
   | succ i=>exact g2 i c y' (by simpa using hc) (by simpa using hy)
  ·rename_i b' v r hr
   split at hx
   case h_2=>cases hx
   rename_i hc0
   simp only [Bool.and_eq_true] at hc0
   have e1:=Nat.eq_of_beq_eq_true hc0.1
   have e2:=Nat.eq_of_beq_eq_true hc0.2
   subst e1;subst e2
   simp only [Option.some.injEq] at hx;subst hx
   obtain ⟨g1,g2⟩:=ih r ys hr (by simpa using hl) hrest
   refine ⟨by simpa using g1,fun i c y' hc hy=>?_⟩
   cases i with
   | zero =>
    simp only [List.getElem?_cons_zero,Option.some.injEq] at hc hy
    subst hc;subst hy
    cases hx0 with
    | own _ _ kk _ hb' hv' ho' hh' =>
     rw [h1] at hb';cases hb'
     exact .own _ 0 _ _ h2 (Nat.zero_le _) ho' fun _=>by rw [hρ];exact hh' hv.symm
   | succ i=>exact g2 i c y' (by simpa using hc) (by simpa using hy)
  ·cases hx
theorem uR {w:World} {M1 M2:Nat→Prop} {hp1 hp2:List (Nat×Blk)} {ρ1 ρ2:Nat→Value} {b ver nm:Nat} {k1 k2:Blk} (h1:look hp1 b=some k1) (hv:k1.ver=ver) (h2:look hp2 nm=some k2) (hρ:ρ2 nm=ρ1 b)
  (hM:∀ r,r < w.heap.size→M2 r→M1 r) {x v:AV} {y:Value} (hx:renF b ver nm x=some v) (h:VR w M1 hp1 ρ1 x y):VR w M2 hp2 ρ2 v y:=by
 unfold renF at hx
 split at hx
 ·rename_i b' v'
  split at hx
  case h_2=>cases hx
  rename_i hc0
  simp only [Bool.and_eq_true] at hc0
  have e1:=Nat.eq_of_beq_eq_true hc0.1
  have e2:=Nat.eq_of_beq_eq_true hc0.2
  subst e1;subst e2
  simp only [Option.some.injEq] at hx;subst hx
  cases h with
  | own _ _ kk _ hb' hv' ho' hh' =>
   rw [h1] at hb';cases hb'
   exact .own _ 0 _ _ h2 (Nat.zero_le _) ho' fun _=>by rw [hρ];exact hh' hv.symm
 ·rename_i cs
  split at hx
  case h_2=>cases hx
  rename_i l hl
  simp only [Option.some.injEq] at hx;subst hx
  cases h with
  | agg _ ys hlen hh =>
   obtain ⟨g1,g2⟩:=Qa3 h1 hv h2 hρ hM cs l ys hl hlen hh
   exact .agg l ys g1 g2
 ·cases hx
theorem HSim.name {cx:Cx} {F E:Nat→Prop} {hp:List (Nat×Blk)} {ρ:Nat→Value} {w:World} (h:HSim cx (fun r=>F r ∨ E r) hp ρ w) {nm:Nat} {k0:Blk} {v:Value} (hn:look hp nm=none)
  (hE:∀ r,Qx v=some r→E r) (hEF:∀ r,E r→¬ F r) (hrow:FreshV w (MM (fun r=>F r ∨ E r) hp ρ) v k0) :
  HSim cx F ((nm,k0)::hp) (Wp ρ nm v) w:=by
 have hmut:∀ q,Mut ((nm,k0)::hp) (Wp ρ nm v) q→Mut hp ρ q ∨ E q:=by
  rintro q ⟨n,k',hb,hm,hq⟩
  by_cases hnb:n=nm
  ·subst hnb;rw [Qo] at hq;exact .inr (hE q hq)
  ·rw [Qa _ _ (Ne.symm hnb)] at hb;rw [Qt _ _ hnb] at hq;exact .inl ⟨n,k',hb,hm,hq⟩
 have hMM:∀ r,r < w.heap.size→MM F ((nm,k0)::hp) (Wp ρ nm v) r→MM (fun r=>F r ∨ E r) hp ρ r:=by
  rintro r _ (h1 | h1)
  ·exact .inl (.inl h1)
  ·rcases hmut r h1 with h2 | h2
   ·exact .inr h2
   ·exact .inl (.inr h2)
 have hgr:Grows hp ((nm,k0)::hp) ρ (Wp ρ nm v):=⟨fun b k hb=>by
  have hne:b≠nm:=fun e=>by rw [e,hn] at hb;cases hb
  exact ⟨k,by rw [Qa _ _ (Ne.symm hne)];exact hb,Nat.le_refl _,fun _=>Qt _ _ hne⟩⟩
 refine ⟨fun b k hb=>?_,fun b b' k k' r h1 h2 m1 m2 r1 r2=>?_,fun r hr hf=>?_,fun r hr=>h.bnd r (.inl hr),fun g x hg=>(h.glob g x hg).ext (Nat.le_refl _) (fun _ _ _=>rfl) hMM⟩
 ·by_cases hnb:b=nm
  ·subst hnb
   rw [Qd] at hb;cases hb
   have:=hrow.sub hMM
   exact FreshV.blk (by rw [Qo];exact this)
  ·rw [Qa _ _ (Ne.symm hnb)] at hb
   exact (h.blk b k hb).ext (Nat.le_refl _) (fun _ _ _=>rfl) hMM hgr (Qt _ _ hnb) (fun _ _ _=>rfl)
 ·by_cases hn1:b=nm <;> by_cases hn2:b'=nm
  ·rw [hn1,hn2]
  ·subst hn1
   rw [Qo] at r1
   rw [Qa _ _ (Ne.symm hn2)] at h2;rw [Qt _ _ hn2] at r2
   exact absurd (.inr (hE r r1)) (h.forb r ⟨b',k',h2,m2,r2⟩)
  ·subst hn2
   rw [Qo] at r2
   rw [Qa _ _ (Ne.symm hn1)] at h1;rw [Qt _ _ hn1] at r1
   exact absurd (.inr (hE r r2)) (h.forb r ⟨b,k,h1,m1,r1⟩)
  ·rw [Qa _ _ (Ne.symm hn1)] at h1;rw [Qt _ _ hn1] at r1
   rw [Qa _ _ (Ne.symm hn2)] at h2;rw [Qt _ _ hn2] at r2
   exact h.inj b b' k k' r h1 h2 m1 m2 r1 r2
 ·rcases hmut r hr with h1 | h1
  ·exact h.forb r h1 (.inl hf)
  ·exact hEF r h1 hf
theorem Wl:∀ (cs:List OC) (i j:Nat),(K7 i cs)[j]?=match cs[j]? with
  | none=>none
  | some (.dat x)=>some (.d x)
  | some (.row _ _)=>some (.own (i+j) 0)
 | [],i,j=>by simp [K7]
 | .dat x::l,i,0=>by simp [K7]
 | .row s e::l,i,0=>by simp [K7]
 | .dat x::l,i,j+1=>by
  simp only [K7,List.getElem?_cons_succ]
  rw [Wl l (i+1) j,show i+1+j=i+(j+1) by omega]
 | .row s e::l,i,j+1=>by
  simp only [K7,List.getElem?_cons_succ]
  rw [Wl l (i+1) j,show i+1+j=i+(j+1) by omega]
theorem Y7:∀ (cs:List OC) (i:Nat),(K7 i cs).length=cs.length
 | [],_=>rfl
 | .dat x::l,i=>by simp [K7,Y7 l]
 | .row s e::l,i=>by simp [K7,Y7 l]
theorem KL:∀ (cs:List OC) (i n:Nat) (k:Blk),look (UY i cs) n=some k↔∃ j sz es,n=i+j∧cs[j]?=some (.row sz es)∧k=.row 0 sz es
 | [],i,n,k=>by simp [UY,look]
 | .dat x::l,i,n,k=>by
  simp only [UY]
  rw [KL l (i+1) n k]
  constructor
  ·rintro ⟨j,sz,es,h1,h2,h3⟩;exact ⟨j+1,sz,es,by omega,by simpa using h2,h3⟩
  ·rintro ⟨j,sz,es,h1,h2,h3⟩
   cases j with
   | zero=>simp at h2
   | succ j=>exact ⟨j,sz,es,by omega,by simpa using h2,h3⟩
 | .row s e::l,i,n,k=>by
  simp only [UY]
  by_cases hn:i=n
  ·subst hn
   rw [Qd]
   constructor
   ·intro h;cases h;exact ⟨0,s,e,by omega,by simp,rfl⟩
   ·rintro ⟨j,sz,es,h1,h2,h3⟩
    have:j=0:=by omega
    subst this
    simp only [List.getElem?_cons_zero,Option.some.injEq,OC.row.injEq] at h2
    rw [h3,h2.1,h2.2]
  ·rw [Qa _ _ hn,KL l (i+1) n k]
   constructor
   ·rintro ⟨j,sz,es,h1,h2,h3⟩;exact ⟨j+1,sz,es,by omega,by simpa using h2,h3⟩
   ·rintro ⟨j,sz,es,h1,h2,h3⟩
    cases j with
    | zero=>omega
    | succ j=>exact ⟨j,sz,es,by omega,by simpa using h2,h3⟩
theorem Zd (cs:List OC):look (QS cs) 0=some (.box (AV.norm (.agg (K7 1 cs)))):=Qd _ _ _
theorem YJ {cs:List OC} {j sz:Nat} {es:List D} (h:cs[j]?=some (.row sz es)):look (QS cs) (j+1)=some (.row 0 sz es):=by
 rw [QS,Qa _ _ (by omega)]
 exact (KL cs 1 (j+1) _).2 ⟨j,sz,es,by omega,h,rfl⟩
theorem GW {cs:List OC} {n:Nat} {k:Blk} (h:look (QS cs) n=some k):(n=0∧k=.box (AV.norm (.agg (K7 1 cs)))) ∨ ∃ j sz es,n=j+1∧cs[j]?=some (.row sz es)∧k=.row 0 sz es:=by
 by_cases hn:n=0
 ·subst hn;rw [Zd] at h;cases h;exact .inl ⟨rfl,rfl⟩
 ·right
  rw [QS,Qa _ _ (by omega)] at h
  obtain ⟨j,sz,es,h1,h2,h3⟩:=(KL cs 1 n k).1 h
  exact ⟨j,sz,es,by omega,h2,h3⟩
theorem En {l:List AV} (h:Wb l=true):(AV.norm (.agg l)).cells.isSome=true:=by
 unfold AV.norm
 split
 ·rename_i y hy
  simp only [AV.toD] at hy
  split at hy
  case h_2=>cases hy
  rename_i ds hds
  simp only [Option.some.injEq] at hy;subst hy
  have key:∀ (l:List AV) (ds:List D),Wb l=true→Up l=some ds→Wb (ds.map .d)=true:=by
   intro l
   induction l with
   | nil=>intro ds _ h;simp only [Up,Option.some.injEq] at h;subst h;rfl
   | cons x l ih =>
    intro ds ho h
    simp only [Up] at h
    split at h
    case h_2=>cases h
    rename_i y ys hy hys
    simp only [Option.some.injEq] at h;subst h
    simp only [Wb,Bool.and_eq_true] at ho
    simp only [List.map_cons,Wb,Bool.and_eq_true]
    refine ⟨?_,ih ys ho.2 hys⟩
    have hx:=ho.1
    cases x with
    | d z=>simp only [AV.toD,Option.some.injEq] at hy;subst hy;exact hx
    | fn f a b =>
     simp only [AV.toD] at hy
     split at hy
     ·simp only [Option.some.injEq] at hy;subst hy;rfl
     ·cases hy
    | agg _=>simp [AV.isOne] at hx
    | tup _=>simp [AV.isOne] at hx
    | junk=>simp [AV.isOne] at hx
    | _=>simp [AV.toD] at hy
  simp only [AV.cells,key l ds h hds];rfl
 ·simp only [AV.cells,h];rfl
structure Names (ns:List (Option (Nat×Nat))) (cs:List OC):Prop where
 row:∀ (i sz:Nat) (es:List D),cs[i]?=some (.row sz es)→∃ p,ns[i]?=some (some p)
 dat:∀ (i:Nat) (x:D),cs[i]?=some (.dat x)→ns[i]?=some none
 len:ns.length=cs.length
theorem Names.tail {p:Option (Nat×Nat)} {ns:List (Option (Nat×Nat))} {c:OC} {cs:List OC} (h:Names (p::ns) (c::cs)):Names ns cs :=
 ⟨fun i sz es hc=>by simpa using h.row (i+1) sz es (by simpa using hc),fun i x hc=>by simpa using h.dat (i+1) x (by simpa using hc),by simpa using h.len⟩
theorem Names.rowOf {ns:List (Option (Nat×Nat))} {cs:List OC} (h:Names ns cs) {i:Nat} {p:Nat×Nat} (hi:ns[i]?=some (some p)):∃ sz es,cs[i]?=some (.row sz es):=by
 have hlt:i < cs.length:=by rw [← h.len];exact (List.getElem?_eq_some_iff.1 hi).1
 cases hc:cs[i] with
 | dat x=>have:=h.dat i x (by rw [List.getElem?_eq_getElem hlt,hc]);rw [hi] at this;cases this
 | row sz es=>exact ⟨sz,es,by rw [List.getElem?_eq_getElem hlt,hc]⟩
theorem JT:∀ {ns:List (Option (Nat×Nat))} {cs:List OC},Names ns cs→∀ (i:Nat) (x:D),cs[i]?=some (.dat x)→(QV ns cs)[i]?=some (.d x)
 | _,[],_,i,x,h=>by simp at h
 | [],c::cs,hn,i,x,h=>by have:=hn.len;simp at this
 | p::ns,c::cs,hn,0,x,h=>by
  simp only [List.getElem?_cons_zero,Option.some.injEq] at h;subst h
  have:=hn.dat 0 x rfl
  simp only [List.getElem?_cons_zero,Option.some.injEq] at this;subst this
  simp [QV]
 | p::ns,c::cs,hn,i+1,x,h=>by
  have ih:=JT hn.tail i x (by simpa using h)
  cases c with
  | dat y =>
   have:=hn.dat 0 y rfl
   simp only [List.getElem?_cons_zero,Option.some.injEq] at this;subst this
   simpa [QV] using ih
  | row s e =>
   obtain ⟨⟨a,b⟩,hq⟩:=hn.row 0 s e rfl
   simp only [List.getElem?_cons_zero,Option.some.injEq] at hq;subst hq
   simpa [QV] using ih
theorem JR:∀ {ns:List (Option (Nat×Nat))} {cs:List OC},Names ns cs→∀ (i n v:Nat),ns[i]?=some (some (n,v))→(QV ns cs)[i]?=some (.own n v)
 | _,[],hn,i,n,v,h=>by
  have h0:=hn.len
  simp only [List.length_nil,List.length_eq_zero_iff] at h0
  subst h0;simp at h
 | [],c::cs,hn,i,n,v,h=>by simp at h
 | p::ns,c::cs,hn,0,n,v,h=>by
  simp only [List.getElem?_cons_zero,Option.some.injEq] at h;subst h
  obtain ⟨sz,es,hc⟩:=hn.rowOf (i:=0) rfl
  simp only [List.getElem?_cons_zero,Option.some.injEq] at hc;subst hc
  simp [QV]
 | p::ns,c::cs,hn,i+1,n,v,h=>by
  have ih:=JR hn.tail i n v (by simpa using h)
  cases c with
  | dat y =>
   have:=hn.dat 0 y rfl
   simp only [List.getElem?_cons_zero,Option.some.injEq] at this;subst this
   simpa [QV] using ih
  | row s e =>
   obtain ⟨⟨a,b⟩,hq⟩:=hn.row 0 s e rfl
   simp only [List.getElem?_cons_zero,Option.some.injEq] at hq;subst hq
   simpa [QV] using ih
theorem JS:∀ {ns:List (Option (Nat×Nat))} {cs:List OC},Names ns cs→(QV ns cs).length=cs.length
 | [],[],hn=>rfl
 | p::ns,[],hn=>by have:=hn.len;simp at this
 | [],c::cs,hn=>by have:=hn.len;simp at this
 | p::ns,c::cs,hn=>by
  have ih:=JS hn.tail
  cases c with
  | dat y =>
   have:=hn.dat 0 y rfl
   simp only [List.getElem?_cons_zero,Option.some.injEq] at this;subst this
   simp [QV,ih]
  | row s e =>
   obtain ⟨⟨a,b⟩,hq⟩:=hn.row 0 s e rfl
   simp only [List.getElem?_cons_zero,Option.some.injEq] at hq;subst hq
   simp [QV,ih]
theorem Uv {n:Nat}:∀ {ns:List (Option (Nat×Nat))},YW n ns=true→∀ (i v:Nat),ns[i]?≠some (some (n,v))
 | [],_,i,v=>by simp
 | none::l,h,0,v=>by simp
 | none::l,h,i+1,v=>by simpa using Uv (ns:=l) h i v
 | some (m,u)::l,h,0,v=>by
  simp only [YW,Bool.and_eq_true] at h
  intro he
  simp only [List.getElem?_cons_zero,Option.some.injEq,Prod.mk.injEq] at he
  rw [he.1] at h
  simp at h
 | some (m,u)::l,h,i+1,v=>by
  simp only [YW,Bool.and_eq_true] at h
  simpa using Uv (ns:=l) h.2 i v
theorem U4 (ks:List Bool):Zs ks []=[]:=by cases ks with
 | nil=>rfl
 | cons k _=>cases k <;> rfl
theorem YM (k:Bool) (ks:List Bool) (p:Option (Nat×Nat)) (ns:List (Option (Nat×Nat))) :
  (Zs (k::ks) (p::ns)=p::Zs ks ns) ∨ (k=true∧∃ a b,p=some (a,b+1)∧Zs (k::ks) (p::ns)=some (a,b)::Zs ks ns):=by
 cases k with
 | false=>exact .inl (by cases p <;> rfl)
 | true =>
  cases p with
  | none=>exact .inl rfl
  | some p =>
   obtain ⟨a,b⟩:=p
   cases b with
   | zero=>exact .inl rfl
   | succ b=>exact .inr ⟨rfl,a,b,rfl,rfl⟩
theorem U5:∀ (ks:List Bool) (ns:List (Option (Nat×Nat))) (i n v:Nat),(Zs ks ns)[i]?=some (some (n,v))→ns[i]?=some (some (n,v)) ∨ (ks[i]?=some true∧ns[i]?=some (some (n,v+1)))
 | [],ns,i,n,v,h=>by
  cases ns <;> exact .inl h
 | _::_,[],i,n,v,h=>by rw [U4] at h;simp at h
 | k::ks,p::ns,i,n,v,h=>by
  rcases YM k ks p ns with key | ⟨rfl,a,b,rfl,key⟩
  ·rw [key] at h
   cases i with
   | zero=>exact .inl h
   | succ i=>simpa using U5 ks ns i n v (by simpa using h)
  ·rw [key] at h
   cases i with
   | zero =>
    simp only [List.getElem?_cons_zero,Option.some.injEq,Prod.mk.injEq] at h
    obtain ⟨rfl,rfl⟩:=h
    exact .inr ⟨rfl,rfl⟩
   | succ i=>simpa using U5 ks ns i n v (by simpa using h)
theorem jU:∀ (ks:List Bool) (ns:List (Option (Nat×Nat))),(Zs ks ns).length=ns.length
 | [],ns=>by cases ns <;> rfl
 | _::_,[]=>by rw [U4]
 | k::ks,p::ns=>by
  rcases YM k ks p ns with key | ⟨_,a,b,rfl,key⟩ <;> rw [key] <;> simp [jU ks ns]
theorem wF:∀ (ks:List Bool) (ns:List (Option (Nat×Nat))) (i:Nat),ns[i]?=some none→(Zs ks ns)[i]?=some none
 | [],ns,i,h=>by cases ns <;> exact h
 | _::_,[],i,h=>by simp at h
 | k::ks,p::ns,i,h=>by
  rcases YM k ks p ns with key | ⟨_,a,b,rfl,key⟩ <;> rw [key] <;> cases i with
  | zero=>first | exact h | simp at h
  | succ i=>simpa using wF ks ns i (by simpa using h)
theorem KN:∀ (ks:List Bool) (ns:List (Option (Nat×Nat))) (i n v:Nat),ns[i]?=some (some (n,v))→∃ u,(Zs ks ns)[i]?=some (some (n,u))
 | [],ns,i,n,v,h=>⟨v,by cases ns <;> exact h⟩
 | _::_,[],i,n,v,h=>by simp at h
 | k::ks,p::ns,i,n,v,h=>by
  rcases YM k ks p ns with key | ⟨_,a,b,rfl,key⟩ <;> rw [key] <;> cases i with
  | zero =>
   simp only [List.getElem?_cons_zero,Option.some.injEq,Prod.mk.injEq] at h ⊢
   first | exact ⟨v,h⟩ | exact ⟨b,h.1,rfl⟩ | skip
  | succ i=>simpa using KN ks ns i n v (by simpa using h)
theorem Uu (n:Nat):∀ (ks:List Bool) (ns:List (Option (Nat×Nat))),YW n (Zs ks ns)=YW n ns
 | [],ns=>by cases ns <;> rfl
 | _::_,[]=>by rw [U4]
 | k::ks,p::ns=>by
  rcases YM k ks p ns with key | ⟨_,a,b,rfl,key⟩ <;> rw [key]
  ·cases p <;> simp only [YW,Uu n ks ns]
  ·simp only [YW,Uu n ks ns]
theorem UN (bn:Nat) (fz:List Nat):∀ (ks:List Bool) (ns:List (Option (Nat×Nat))),XO bn fz (Zs ks ns)=XO bn fz ns
 | [],ns=>by cases ns <;> rfl
 | _::_,[]=>by rw [U4]
 | k::ks,p::ns=>by
  rcases YM k ks p ns with key | ⟨_,a,b,rfl,key⟩ <;> rw [key]
  ·cases p <;> simp only [XO,UN bn fz ks ns,Uu]
  ·simp only [XO,UN bn fz ks ns,Uu]
theorem Jq {bn:Nat} {fz:List Nat}:∀ {ns:List (Option (Nat×Nat))},XO bn fz ns=true→¬ bn∈fz
 | [],h=>by simpa [XO] using h
 | none::l,h=>Jq (ns:=l) h
 | some _::l,h=>by
  simp only [XO,Bool.and_eq_true] at h
  exact Jq (ns:=l) h.2
theorem WI {bn:Nat} {fz:List Nat}:∀ {ns:List (Option (Nat×Nat))},XO bn fz ns=true→∀ (i n v:Nat),ns[i]?=some (some (n,v)) →
  n≠bn∧¬ n∈fz∧∀ (j u:Nat),ns[j]?=some (some (n,u))→j=i
 | [],_,i,n,v,hi=>by simp at hi
 | none::l,h,0,n,v,hi=>by simp at hi
 | none::l,h,i+1,n,v,hi=>by
  obtain ⟨h1,h2,h3⟩:=WI (ns:=l) h i n v (by simpa using hi)
  refine ⟨h1,h2,fun j u hj=>?_⟩
  cases j with
  | zero=>simp at hj
  | succ j=>rw [h3 j u (by simpa using hj)]
 | some (m,u)::l,h,0,n,v,hi=>by
  simp only [List.getElem?_cons_zero,Option.some.injEq,Prod.mk.injEq] at hi
  obtain ⟨rfl,rfl⟩:=hi
  simp only [XO,Bool.and_eq_true] at h
  obtain ⟨⟨⟨h1,h2⟩,h3⟩,h4⟩:=h
  refine ⟨fun e=>by subst e;simp at h2,fun hm=>by simp at h3;exact h3 hm,fun j u hj=>?_⟩
  cases j with
  | zero=>rfl
  | succ j=>exact absurd (by simpa using hj) (Uv h1 j u)
 | some (m,u)::l,h,i+1,n,v,hi=>by
  simp only [XO,Bool.and_eq_true] at h
  obtain ⟨⟨⟨h1,h2⟩,h3⟩,h4⟩:=h
  obtain ⟨k1,k2,k3⟩:=WI (ns:=l) h4 i n v (by simpa using hi)
  refine ⟨k1,k2,fun j u hj=>?_⟩
  cases j with
  | zero =>
   simp only [List.getElem?_cons_zero,Option.some.injEq,Prod.mk.injEq] at hj
   rw [← hj.1] at hi
   exact absurd (by simpa using hi) (Uv h1 i v)
  | succ j=>rw [k3 j u (by simpa using hj)]
def wT (n:Nat):List (Option (Nat×Nat))→Nat→Option Nat
 | [],_=>none
 | none::l,k=>wT n l (k+1)
 | some p::l,k=>if p.1=n then some k else wT n l (k+1)
theorem Js {n:Nat}:∀ {ns:List (Option (Nat×Nat))} {k j:Nat},wT n ns k=some j→∃ (i v:Nat),j=k+i∧ns[i]?=some (some (n,v))
 | [],k,j,h=>by simp [wT] at h
 | none::l,k,j,h=>by
  obtain ⟨i,v,h1,h2⟩:=Js (ns:=l) (k:=k+1) h
  exact ⟨i+1,v,by omega,by simpa using h2⟩
 | some p::l,k,j,h=>by
  simp only [wT] at h
  split at h
  ·rename_i hp
   simp only [Option.some.injEq] at h
   obtain ⟨a,b⟩:=p
   simp only at hp;subst hp
   exact ⟨0,b,by omega,rfl⟩
  ·obtain ⟨i,v,h1,h2⟩:=Js (ns:=l) (k:=k+1) h
   exact ⟨i+1,v,by omega,by simpa using h2⟩
theorem zM {n:Nat}:∀ {ns:List (Option (Nat×Nat))} {k:Nat},wT n ns k=none→∀ (i v:Nat),ns[i]?≠some (some (n,v))
 | [],k,h,i,v=>by simp
 | none::l,k,h,0,v=>by simp
 | none::l,k,h,i+1,v=>by simpa using zM (ns:=l) (k:=k+1) h i v
 | some p::l,k,h,i,v=>by
  simp only [wT] at h
  split at h
  ·cases h
  ·rename_i hp
   cases i with
   | zero =>
    intro he
    simp only [List.getElem?_cons_zero,Option.some.injEq] at he
    exact hp (by rw [he])
   | succ i=>simpa using zM (ns:=l) (k:=k+1) h i v
theorem VI {n:Nat} {k:Blk}:∀ {ns:List (Option (Nat×Nat))} {cs:List OC},look (Z5 ns cs) n=some k→∃ (i v sz:Nat) (es:List D),ns[i]?=some (some (n,v))∧cs[i]?=some (.row sz es)∧k=.row v sz es
 | [],cs,h=>by simp [Z5,look] at h
 | p::ns,[],h=>by cases p <;> simp [Z5,look] at h
 | none::ns,c::cs,h=>by
  obtain ⟨i,v,sz,es,h1,h2,h3⟩:=VI (ns:=ns) (cs:=cs) (by cases c <;> simpa [Z5] using h)
  exact ⟨i+1,v,sz,es,by simpa using h1,by simpa using h2,h3⟩
 | some (m,u)::ns,.dat x::cs,h=>by
  obtain ⟨i,v,sz,es,h1,h2,h3⟩:=VI (ns:=ns) (cs:=cs) (by simpa [Z5] using h)
  exact ⟨i+1,v,sz,es,by simpa using h1,by simpa using h2,h3⟩
 | some (m,u)::ns,.row s e::cs,h=>by
  simp only [Z5] at h
  by_cases hm:m=n
  ·subst hm
   rw [Qd] at h;cases h
   exact ⟨0,u,s,e,rfl,rfl,rfl⟩
  ·rw [Qa _ _ hm] at h
   obtain ⟨i,v,sz,es,h1,h2,h3⟩:=VI (ns:=ns) (cs:=cs) h
   exact ⟨i+1,v,sz,es,by simpa using h1,by simpa using h2,h3⟩
theorem Ut {n:Nat}:∀ {ns:List (Option (Nat×Nat))} {cs:List OC},look (Z5 ns cs) n=none→∀ (i v sz:Nat) (es:List D),ns[i]?=some (some (n,v))→cs[i]?≠some (.row sz es)
 | [],cs,h,i,v,sz,es,hi=>by simp at hi
 | p::ns,[],h,i,v,sz,es,hi=>by simp
 | none::ns,c::cs,h,0,v,sz,es,hi=>by simp at hi
 | none::ns,c::cs,h,i+1,v,sz,es,hi=>by
  simpa using Ut (ns:=ns) (cs:=cs) (by cases c <;> simpa [Z5] using h) i v sz es (by simpa using hi)
 | some (m,u)::ns,.dat x::cs,h,0,v,sz,es,hi=>by simp
 | some (m,u)::ns,.dat x::cs,h,i+1,v,sz,es,hi=>by
  simpa using Ut (ns:=ns) (cs:=cs) (by simpa [Z5] using h) i v sz es (by simpa using hi)
 | some (m,u)::ns,.row s e::cs,h,i,v,sz,es,hi=>by
  simp only [Z5] at h
  by_cases hm:m=n
  ·subst hm;rw [Qd] at h;cases h
  ·rw [Qa _ _ hm] at h
   cases i with
   | zero =>
    simp only [List.getElem?_cons_zero,Option.some.injEq,Prod.mk.injEq] at hi
    exact absurd hi.1 hm
   | succ i=>simpa using Ut (ns:=ns) (cs:=cs) h i v sz es (by simpa using hi)
def Ui (ns:List (Option (Nat×Nat))) (bn:Nat) (ρ ρ' : Nat→Value) (n:Nat):Value:=match wT n ns 1 with
 | some j=>ρ' j
 | none=>if n=bn then ρ' 0 else ρ n
def VT (ns:List (Option (Nat×Nat))) (bn:Nat) (cs:List OC) (H:List (Nat×Blk)):List (Nat×Blk):=(bn,.box (AV.norm (.agg (QV ns cs))))::(Z5 ns cs++H)
theorem glue {cx:Cx} {F:Nat→Prop} {H:List (Nat×Blk)} {ρ:Nat→Value} {w:World} (g1:HSim cx F H ρ w) {hin:List (Nat×Blk)} {ρc:Nat→Value} (hmi:∀ r,Mut hin ρc r→Mut H ρ r)
  {cs:List OC} {ns:List (Option (Nat×Nat))} {bn:Nat} {fz:List Nat} (hal:Names ns cs) (hok:XO bn fz ns=true)
  (hold:∀ n k r,look H n=some k→k.live=true→Qx (ρ n)=some r→Mut hin ρc r→n=bn ∨ ∃ (i v:Nat),ns[i]?=some (some (n,v)))
  {w' : World} {ρ' : Nat→Value} (hver:∀ (i n v:Nat) (k:Blk),ns[i]?=some (some (n,v))→look H n=some k→k.ver≤v∧(k.ver=v→ρ' (i+1)=ρ n)) (hbn:∀ k,look H bn=some k→k.ver=0∧ρ' 0=ρ bn)
  (q1:HSim cx (fun r=>F r ∨ (Mut H ρ r∧¬ Mut hin ρc r)) (QS cs) ρ' w') (q2:Ext w (Mut hin ρc) w') (q3:∀ q,q < w.heap.size→Mut (QS cs) ρ' q→Mut hin ρc q) :
  HSim cx F (VT ns bn cs H) (Ui ns bn ρ ρ') w'∧Steps1 H ρ w (VT ns bn cs H) (Ui ns bn ρ ρ') w' ∧
   (∀ r,MM F (VT ns bn cs H) (Ui ns bn ρ ρ') r→MM (fun r=>F r ∨ (Mut H ρ r∧¬ Mut hin ρc r)) (QS cs) ρ' r) ∧
   look (VT ns bn cs H) bn=some (.box (AV.norm (.agg (QV ns cs))))∧Ui ns bn ρ ρ' bn=ρ' 0:=by
 have hob:∀ {i n v:Nat},ns[i]?=some (some (n,v))→n≠bn:=fun h=>(WI hok _ _ _ h).1
 have hbi:wT bn ns 1=none:=by
  cases hi:wT bn ns 1 with
  | none=>rfl
  | some j =>
   obtain ⟨i,v,_,h2⟩:=Js hi
   exact absurd rfl (hob h2)
 have hrb:Ui ns bn ρ ρ' bn=ρ' 0:=by simp only [Ui,hbi,if_true]
 have hrn:∀ {i n v:Nat},ns[i]?=some (some (n,v))→Ui ns bn ρ ρ' n=ρ' (i+1):=by
  intro i n v h
  unfold Ui
  cases hi:wT n ns 1 with
  | none=>exact absurd h (zM hi i v)
  | some j =>
   obtain ⟨i',v',h1,h2⟩:=Js hi
   have:=(WI hok _ _ _ h).2.2 i' v' h2
   subst this
   simp only [h1,Nat.add_comm]
 have hro:∀ {n},n≠bn→(∀ (i v:Nat),ns[i]?≠some (some (n,v)))→Ui ns bn ρ ρ' n=ρ n:=by
  intro n h1 h2
  unfold Ui
  cases hi:wT n ns 1 with
  | none=>simp only [if_neg h1]
  | some j =>
   obtain ⟨i',v',_,h⟩:=Js hi
   exact absurd h (h2 i' v')
 have hlb:look (VT ns bn cs H) bn=some (.box (AV.norm (.agg (QV ns cs)))):=Qd _ _ _
 have hln:∀ {i n v sz:Nat} {es:List D},ns[i]?=some (some (n,v))→cs[i]?=some (.row sz es)→look (VT ns bn cs H) n=some (.row v sz es):=by
  intro i n v sz es h1 h2
  rw [VT,Qa _ _ (Ne.symm (hob h1)),Zw]
  cases hl:look (Z5 ns cs) n with
  | none=>exact absurd h2 (Ut hl i v sz es h1)
  | some k =>
   obtain ⟨i',v',sz',es',k1,k2,rfl⟩:=VI hl
   have:=(WI hok _ _ _ h1).2.2 i' v' k1
   subst this
   rw [h1] at k1;cases k1
   rw [h2] at k2;cases k2
   rfl
 have hlo:∀ {n},n≠bn→(∀ (i v:Nat),ns[i]?≠some (some (n,v)))→look (VT ns bn cs H) n=look H n:=by
  intro n h1 h2
  rw [VT,Qa _ _ (Ne.symm h1),Zw]
  cases hl:look (Z5 ns cs) n with
  | none=>rfl
  | some k =>
   obtain ⟨i',v',sz',es',k1,k2,rfl⟩:=VI hl
   exact absurd k1 (h2 i' v')
 -- the three Ys of names
 have hkind:∀ {n k},look (VT ns bn cs H) n=some k→(n=bn∧k=.box (AV.norm (.agg (QV ns cs)))) ∨ (∃ (i v sz:Nat) (es:List D),ns[i]?=some (some (n,v))∧cs[i]?=some (.row sz es)∧k=.row v sz es) ∨
   (n≠bn∧(∀ (i v:Nat),ns[i]?≠some (some (n,v)))∧look H n=some k):=by
  intro n k h
  by_cases h1:n=bn
  ·subst h1;rw [hlb] at h;cases h;exact .inl ⟨rfl,rfl⟩
  ·by_cases h2:∃ (i v:Nat),ns[i]?=some (some (n,v))
   ·obtain ⟨i,v,hi⟩:=h2
    obtain ⟨sz,es,hc⟩:=hal.rowOf hi
    rw [hln hi hc] at h;cases h
    exact .inr (.inl ⟨i,v,sz,es,hi,hc,rfl⟩)
   ·have h3:∀ (i v:Nat),ns[i]?≠some (some (n,v)):=fun i v hh=>h2 ⟨i,v,hh⟩
    rw [hlo h1 h3] at h
    exact .inr (.inr ⟨h1,h3,h⟩)
 -- roots
 have hroot:∀ {n k r},look (VT ns bn cs H) n=some k→k.live=true→Qx (Ui ns bn ρ ρ' n)=some r →
   (∃ m,(∃ k',look (QS cs) m=some k'∧k'.live=true)∧Qx (ρ' m)=some r∧Mut (QS cs) ρ' r∧((n=bn∧m=0) ∨ ∃ (i v:Nat),ns[i]?=some (some (n,v))∧m=i+1)) ∨
   (n≠bn∧(∀ (i v:Nat),ns[i]?≠some (some (n,v)))∧look H n=some k∧Qx (ρ n)=some r∧Mut H ρ r∧¬ Mut hin ρc r):=by
  intro n k r h hl hr
  rcases hkind h with ⟨rfl,rfl⟩ | ⟨i,v,sz,es,h1,h2,rfl⟩ | ⟨h1,h2,h3⟩
  ·rw [hrb] at hr
   exact .inl ⟨0,⟨_,Zd cs,rfl⟩,hr,⟨0,_,Zd cs,rfl,hr⟩,.inl ⟨rfl,rfl⟩⟩
  ·rw [hrn h1] at hr
   exact .inl ⟨i+1,⟨_,YJ h2,rfl⟩,hr,⟨i+1,_,YJ h2,rfl,hr⟩,.inr ⟨i,v,h1,rfl⟩⟩
  ·rw [hro h1 h2] at hr
   refine .inr ⟨h1,h2,h3,hr,⟨n,k,h3,hl,hr⟩,fun hm=>?_⟩
   rcases hold n k r h3 hl hr hm with h4 | ⟨i,v,h4⟩
   ·exact h1 h4
   ·exact h2 i v h4
 have hMM:∀ r,MM F (VT ns bn cs H) (Ui ns bn ρ ρ') r→MM (fun r=>F r ∨ (Mut H ρ r∧¬ Mut hin ρc r)) (QS cs) ρ' r:=by
  rintro r (hf | ⟨n,k,h1,h2,h3⟩)
  ·exact .inl (.inl hf)
  ·rcases hroot h1 h2 h3 with ⟨m,_,_,hm,_⟩ | ⟨_,_,_,_,h4,h5⟩
   ·exact .inr hm
   ·exact .inl (.inr ⟨h4,h5⟩)
 have hst:Steps1 H ρ w (VT ns bn cs H) (Ui ns bn ρ ρ') w':=by
  refine ⟨q2.mono hmi,fun r hr hm=>?_,⟨fun n k hn=>?_⟩⟩
  ·obtain ⟨n,k,h1,h2,h3⟩:=hm
   rcases hroot h1 h2 h3 with ⟨m,_,_,hm,_⟩ | ⟨_,_,_,_,h4,_⟩
   ·exact hmi r (q3 r hr hm)
   ·exact h4
  ·by_cases h1:n=bn
   ·subst h1
    obtain ⟨hv,hp⟩:=hbn k hn
    exact ⟨_,hlb,by rw [hv];exact Nat.zero_le _,fun _=>by rw [hrb];exact hp⟩
   ·by_cases h2:∃ (i v:Nat),ns[i]?=some (some (n,v))
    ·obtain ⟨i,v,hi⟩:=h2
     obtain ⟨sz,es,hc⟩:=hal.rowOf hi
     have:=hver i n v k hi hn
     exact ⟨_,hln hi hc,this.1,fun he=>by rw [hrn hi];exact this.2 he⟩
    ·have h3:∀ (i v:Nat),ns[i]?≠some (some (n,v)):=fun i v hh=>h2 ⟨i,v,hh⟩
     exact ⟨k,by rw [hlo h1 h3];exact hn,Nat.le_refl _,fun _=>hro h1 h3⟩
 refine ⟨g1.step hst (fun n k hk=>?_) (fun n n' k k' r h1 h2 m1 m2 r1 r2=>?_) (fun r hr hf=>?_),hst,hMM,hlb,hrb⟩
 ·rcases hkind hk with ⟨rfl,rfl⟩ | ⟨i,v,sz,es,h1,h2,rfl⟩ | ⟨h1,h2,h3⟩
  ·right
   obtain ⟨r,e,v,cs0,p1,p2,p3,p4⟩:=q1.blk 0 _ (Zd cs)
   obtain ⟨c1,c2,c3⟩:=WZ p3 p4
   -- the cells,by the names that they have here
   have hv:∃ ys:List Value,v=.agg ys.toArray∧ys.length=cs.length∧∀ (i:Nat) (c:AV) (y:Value),(K7 1 cs)[i]?=some c→ys[i]?=some y→VR w' (MM (fun r=>F r ∨ (Mut H ρ r∧¬ Mut hin ρc r)) (QS cs) ρ') (QS cs) ρ' c y:=by
    unfold AV.norm at p4
    split at p4
    ·rename_i y hy
     simp only [AV.toD] at hy
     split at hy
     case h_2=>cases hy
     rename_i ds hds
     simp only [Option.some.injEq] at hy;subst hy
     cases p4 with
     | d _ _ hd =>
      cases hd with
      | agg _ ys hl hh =>
       have key:∀ (l:List AV) (ds:List D),Up l=some ds→(∀ (i:Nat) (c:AV),l[i]?=some c→(∃ x,c=.d x) ∨ ∃ b u,c=.own b u)→l=ds.map .d:=by
        intro l
        induction l with
        | nil=>intro ds h _;simp only [Up,Option.some.injEq] at h;subst h;rfl
        | cons x l ih =>
         intro ds h hk
         simp only [Up] at h
         split at h
         case h_2=>cases h
         rename_i y ys hy hys
         simp only [Option.some.injEq] at h;subst h
         rcases hk 0 x rfl with ⟨z,rfl⟩ | ⟨b,u,rfl⟩
         ·simp only [AV.toD,Option.some.injEq] at hy;subst hy
          rw [List.map_cons,← ih ys hys fun i c hc=>hk (i+1) c (by simpa using hc)]
         ·simp [AV.toD] at hy
       have hds2:=key _ _ hds fun i c hc=>by
        rw [Wl] at hc
        split at hc
        ·cases hc
        ·cases hc;exact .inl ⟨_,rfl⟩
        ·cases hc;exact .inr ⟨_,_,rfl⟩
       refine ⟨ys,rfl,by rw [← hl,← Y7 cs 1,hds2,List.length_map],fun i c y hc hy=>?_⟩
       rw [hds2,List.getElem?_map,Option.map_eq_some_iff] at hc
       obtain ⟨d,hd,rfl⟩:=hc
       exact .d _ _ (hh i d y hd hy)
    ·cases p4 with
     | agg _ ys hl hh=>exact ⟨ys,rfl,by rw [← hl,Y7],hh⟩
   obtain ⟨ys,rfl,hlen,hys⟩:=hv
   have hvr:VR w' (MM F (VT ns n cs H) (Ui ns n ρ ρ')) (VT ns n cs H) (Ui ns n ρ ρ') (.agg (QV ns cs)) (.agg ys.toArray):=by
    refine .agg _ ys (by rw [JS hal,hlen]) fun i c y hc hy=>?_
    have hlt:i < cs.length:=by rw [← hlen];exact (List.getElem?_eq_some_iff.1 hy).1
    cases hci:cs[i] with
    | dat x =>
     have hci' : cs[i]?=some (.dat x):=by rw [List.getElem?_eq_getElem hlt,hci]
     rw [JT hal i x hci'] at hc;cases hc
     have:=hys i (.d x) y (by rw [Wl,hci']) hy
     cases this with
     | d _ _ hd=>exact .d _ _ (hd.ext (Nat.le_refl _) (fun _ _ _=>rfl) fun r _ hm=>hMM r hm)
    | row sz es =>
     have hci' : cs[i]?=some (.row sz es):=by rw [List.getElem?_eq_getElem hlt,hci]
     obtain ⟨⟨m,u⟩,hp⟩:=hal.row i sz es hci'
     rw [JR hal i m u hp] at hc;cases hc
     have:=hys i (.own (1+i) 0) y (by rw [Wl,hci']) hy
     cases this with
     | own _ _ k0 _ hb0 hv0 ho0 hh0 =>
      rw [Nat.add_comm,YJ hci'] at hb0;cases hb0
      exact .own m u _ _ (hln hp hci') (Nat.le_refl _) ho0 fun _=>by rw [hrn hp,← Nat.add_comm 1 i];exact hh0 rfl
   have hone:Wb (QV ns cs)=true:=by
    have:∀ (l:List AV),(∀ (i:Nat) (c:AV),l[i]?=some c→c.isOne=true)→Wb l=true:=by
     intro l
     induction l with
     | nil=>intro _;rfl
     | cons x l ih=>intro h;simp only [Wb,Bool.and_eq_true];exact ⟨h 0 x rfl,ih fun i c hc=>h (i+1) c (by simpa using hc)⟩
    refine this _ fun i c hc=>?_
    have hlt:i < cs.length:=by rw [← JS hal];exact (List.getElem?_eq_some_iff.1 hc).1
    cases hci:cs[i] with
    | dat x =>
     have hci' : cs[i]?=some (.dat x):=by rw [List.getElem?_eq_getElem hlt,hci]
     rw [JT hal i x hci'] at hc;cases hc
     -- it is one cell of the object
     have hcx:(K7 1 cs)[i]?=some (.d x):=by rw [Wl,hci']
     have h0:Wb cs0=true:=c2
     unfold AV.norm at p3
     split at p3
     ·rename_i y hy
      simp only [AV.toD] at hy
      split at hy
      case h_2=>cases hy
      rename_i ds hds
      simp only [Option.some.injEq] at hy;subst hy
      have hcs:=YX p3
      have hdx:ds[i]?=some x:=by
       have key:∀ (l:List AV) (ds:List D) (i:Nat),Up l=some ds→l[i]?=some (.d x)→ds[i]?=some x:=by
        intro l
        induction l with
        | nil=>intro ds i _ h;simp at h
        | cons z l ih =>
         intro ds i h hi
         simp only [Up] at h
         split at h
         case h_2=>cases h
         rename_i y ys hy hys
         simp only [Option.some.injEq] at h;subst h
         cases i with
         | zero=>simp only [List.getElem?_cons_zero,Option.some.injEq] at hi ⊢;subst hi;simp only [AV.toD,Option.some.injEq] at hy;exact hy.symm
         | succ i=>simpa using ih ys i hys (by simpa using hi)
       exact key _ _ i hds hcx
      refine WS h0 (j:=i) ?_
      rw [hcs]
      simp only [SX.D.cells,List.getElem?_map,hdx,Option.map_some]
     ·simp only [AV.cells] at p3
      split at p3
      ·cases p3;exact WS h0 hcx
      ·cases p3
    | row sz es =>
     have hci' : cs[i]?=some (.row sz es):=by rw [List.getElem?_eq_getElem hlt,hci]
     obtain ⟨⟨m,u⟩,hp⟩:=hal.row i sz es hci'
     rw [JR hal i m u hp] at hc;cases hc
     rfl
   obtain ⟨cs1,hcs1⟩:=Option.isSome_iff_exists.1 (En hone)
   exact ⟨r,e,.agg ys.toArray,cs1,by rw [hrb];exact p1,p2,hcs1,VK hvr⟩
  ·right
   have h0:RowV w' _ (ρ' (i+1)) sz es:=q1.blk (i+1) _ (YJ h2)
   have h3:RowV w' (MM F (VT ns bn cs H) (Ui ns bn ρ ρ')) (ρ' (i+1)) sz es:=h0.sub fun r _ hm=>hMM r hm
   rw [← hrn h1] at h3
   exact h3
  ·refine .inl ⟨h3,hro h1 h2,fun hl r hr=>?_⟩
   refine q2.same r ((g1.blk n k h3).root_lt hl hr) fun hm=>?_
   rcases hold n k r h3 hl hr hm with h4 | ⟨i,v,h4⟩
   ·exact h1 h4
   ·exact h2 i v h4
 ·rcases hroot h1 m1 r1 with ⟨a,⟨ka,a1,a2⟩,a3,a4,a5⟩ | ⟨a1,a2,a3,a4,a5,a6⟩ <;> rcases hroot h2 m2 r2 with ⟨b,⟨kb,b1,b2⟩,b3,b4,b5⟩ | ⟨b1,b2,b3,b4,b5,b6⟩
  ·have hab:=q1.inj a b ka kb r a1 b1 a2 b2 a3 b3
   subst hab
   rcases a5 with ⟨rfl,rfl⟩ | ⟨i,v,hi,rfl⟩ <;> rcases b5 with ⟨rfl,hb0⟩ | ⟨j,u,hj,hb0⟩
   ·rfl
   ·omega
   ·omega
   ·have:i=j:=by omega
    subst this
    rw [hi] at hj;cases hj;rfl
  ·exact absurd (q3 r (g1.mut_lt b5) a4) b6
  ·exact absurd (q3 r (g1.mut_lt a5) b4) a6
  ·exact g1.inj n n' k k' r a3 b3 m1 m2 a4 b4
 ·rcases hr with ⟨n,k,h1,h2,h3⟩
  rcases hroot h1 h2 h3 with ⟨m,_,_,hm,_⟩ | ⟨_,_,_,_,h4,_⟩
  ·exact q1.forb r hm (.inl hf)
  ·exact g1.forb r h4 hf
section
variable {cx:Cx} {F:Nat→Prop} {hp:List (Nat×Blk)} {ρ:Nat→Value} {w:World} {a:Act} {sym:Bool} {orc:List Orc}
theorem QdV {M:Nat→Prop} {x:AV} {v:Value} (h:VR w M hp ρ x v):VR w M hp ρ (Qfj x) v:=by
 cases x with
 | d y =>
  cases y with
  | ref y o =>
   cases h with
   | d _ _ hd =>
    obtain ⟨blk,o',rfl,h2⟩:=hd.ref_dat
    exact .dptr y o blk o' h2
  | _=>exact h
 | _=>exact h
theorem zR (h:HSim cx F hp ρ w) {tm:List (Nat×AV)} (ht:TSim F tm hp ρ a w) (x:Operand):VR w (MM F hp ρ) hp ρ (evA cx tm x) (a.eval x):=by
 cases x with
 | tmp t =>
  simp only [evA]
  split
  ·rename_i y hy;exact QdV (ht t y hy)
  ·exact .junk _
 | const v=>exact K6 _ _ _ _ v
 | global g =>
  simp only [evA]
  split
  ·rename_i y hy
   exact .dptr y 0 g 0 (h.glob g y hy).1
  ·exact .junk _
 | func f=>exact .d _ _ (.fn _ [] [] [] [] rfl rfl (by simp) (by simp))
theorem UZ {α:Type} (xs:Array α) (i:Nat):nth xs.toList i=xs[i]?:=by rw [Q3];simp
theorem YQ {tm:List (Nat×AV)} (ht:TSim F tm hp ρ a w) {ops:Array Oper} {o:Oper} {b:Bool} (h:KH ops tm o=some b):Region.wanted o (yielded ops a.tmps)=b:=by
 unfold KH at h
 unfold Region.wanted
 split at h
 ·rename_i hg;rw [hg];simpa using h
 ·rename_i j want hg
  rw [hg]
  simp only
  rw [UZ] at h
  split at h
  ·rename_i hj
   simp only [Option.some.injEq] at h;subst h
   simp [yielded,hj]
  ·rename_i g hj
   split at h
   ·rename_i hd
    simp only [Option.some.injEq] at h;subst h
    simp [yielded,hj,hd]
   ·rename_i d hd
    have key:∀ v,a.tmps.getD d undef=v→yielded ops a.tmps j=(match v with | .bool b=>some b | _=>none):=by
     intro v hv
     simp only [yielded,hj,Option.bind_some,hd]
     rw [Array.getD_eq_getD_getElem?] at hv
     cases hx:a.tmps[d]? with
     | none=>rw [hx] at hv;simp at hv;subst hv;rfl
     | some u=>rw [hx] at hv;simp at hv;subst hv;cases u <;> rfl
    split at h
    ·rename_i c hl
     simp only [Option.some.injEq] at h;subst h
     have:=E0 (ht d _ hl)
     rw [key _ this]
     simp only
     cases c <;> cases want <;> rfl
    ·rename_i c hl
     simp only [Option.some.injEq] at h;subst h
     have:=E0 (ht d _ hl)
     rw [key _ this]
     rfl
    ·rename_i c hl
     simp only [Option.some.injEq] at h;subst h
     have hd:=ht d _ hl
     generalize hv:a.tmps.getD d undef=v at hd
     cases hd with
     | d _ _ hd =>
      cases hd with
      | tup=>rw [key _ hv];rfl
    ·cases h
theorem TSim.put {F:Nat→Prop} {tm:List (Nat×AV)} (ht:TSim F tm hp ρ a w) {t:Nat} {x:AV} {v:Value} (hx:VR w (MM F hp ρ) hp ρ x v) (hlt:t < a.tmps.size):TSim F ((t,x)::tm) hp ρ (a.put (some t) v) w:=by
 intro u y hy
 by_cases h:t=u
 ·subst h
  rw [Qd] at hy;cases hy
  simp only [Act.put]
  rw [Array.getD_eq_getD_getElem?,Array.getElem?_setIfInBounds,if_pos rfl,if_pos hlt]
  exact hx
 ·rw [Qa _ _ h] at hy
  simp only [Act.put]
  rw [Array.getD_eq_getD_getElem?,Array.getElem?_setIfInBounds,if_neg h,← Array.getD_eq_getD_getElem?]
  exact ht u y hy
theorem Qa8 (a:Act) (d:Option Tmp) (v:Value):(a.put d v).tmps.size=a.tmps.size:=by cases d <;> simp [Act.put]
theorem Ye (a:Act) (d:Option Tmp) (v:Value):(a.put d v).defers=a.defers:=by cases d <;> rfl
theorem zB {s s' : St} {d:Option Tmp} {x:AV} {v:Value} (h:s.put d x=some s') (hs:Sim cx F s ρ a w) (hx:VR w (MM F s.hp ρ) s.hp ρ x v):Sim cx F s' ρ (a.put d v) w:=by
 unfold St.put at h
 split at h
 ·simp only [Option.some.injEq] at h;subst h;exact hs
 ·rename_i t
  split at h <;> simp only [Option.some.injEq,reduceCtorEq] at h
  rename_i hlt
  subst h
  have hlt' : t < s.nt:=by simpa using hlt
  exact ⟨hs.hs,hs.ts.put hx (by rw [hs.nt];exact hlt'),by rw [Qa8];exact hs.nt⟩
def _root_.Go.SX.St.nr (s:St):Nat×Bool:=(s.nt,s.rnd)
theorem qc {a b:St} (h:a.nr=b.nr):a.nt=b.nt:=(Prod.mk.inj h).1
theorem uZ {a b:St} (h:a.nr=b.nr):a.rnd=b.rnd:=(Prod.mk.inj h).2
theorem V0 {s s' : St} {d:Option Tmp} {x:AV} (h:s.put d x=some s'):s'.hp=s.hp∧s'.ob=s.ob∧s'.vis=s.vis∧s'.nr=s.nr∧s'.sfx=s.sfx:=by
 unfold St.put at h
 split at h
 ·simp only [Option.some.injEq] at h;subst h;exact ⟨rfl,rfl,rfl,rfl,rfl⟩
 ·split at h <;> simp only [Option.some.injEq,reduceCtorEq] at h
  subst h;exact ⟨rfl,rfl,rfl,rfl,rfl⟩
theorem JX {x y:AV} {ob:List Prop} {o' : List Orc} (h:litB sym orc x=some (y,ob,o')) (ho:∀ p,p∈ob→p) {M:Nat→Prop} {v:Value} (hx:VR w M hp ρ x v):VR w M hp ρ y v:=by
 unfold litB at h
 split at h
 ·rename_i b
  split at h
  ·simp only [Option.some.injEq,Prod.mk.injEq] at h;obtain ⟨rfl,rfl,rfl⟩:=h
   have:=ho _ List.mem_cons_self
   subst this;exact hx
  ·split at h <;> (simp only [Option.some.injEq,Prod.mk.injEq] at h;obtain ⟨rfl,rfl,rfl⟩:=h;exact hx)
  ·cases h
 ·simp only [Option.some.injEq,Prod.mk.injEq] at h;obtain ⟨rfl,rfl,rfl⟩:=h;exact hx
def yf (cx:Cx) (call:Un):Prop :=
 ∀ (keepable:Bool) (H:List (Nat×Blk)) (nx:Nat) (sym:Bool) (orc:List Orc) (f:FuncId) (args:List AV) (rc:RC),call keepable H nx sym orc f args=some rc→(∀ p,p∈rc.ob→p) →
  ∀ (F:Nat→Prop) (ρ:Nat→Value) (w:World) (vs:List Value),HSim cx F H ρ w→args.length=vs.length →
  (∀ (i:Nat) (c:AV) (y:Value),args[i]?=some c→vs[i]?=some y→VR w (MM F H ρ) H ρ c y) →
  (∃ v,(callFunc f vs.toArray).run cx.P w=.ok (.value v) w∧rc.full=none∧rc.up=[]∧VR w (MM F H ρ) H ρ rc.val v) ∨
  ((callFunc f vs.toArray).run cx.P w=.ok (.enter f vs.toArray) w∧Calls cx.P f vs.toArray w fun e w'=>∃ v,e=.returned v∧∃ ρ',HSim cx F (rc.heap H) ρ' w'∧Steps1 H ρ w (rc.heap H) ρ' w'∧VR w' (MM F (rc.heap H) ρ') (rc.heap H) ρ' rc.val v)
def XN (call:Un):Prop :=
 ∀ (keepable:Bool) (H:List (Nat×Blk)) (nx:Nat) (sym:Bool) (orc:List Orc) (f:FuncId) (args:List AV) (rc:RC),call keepable H nx sym orc f args=some rc→rc.sfx=true→∀ h,rc.full=some h→∃ new,h=new++H
theorem KS {o:Oper} {fv:Operand} {args:List Operand} (h:Ud o=some (fv,args)):∃ ats,o.op=.call { callee:=.value fv,args:=args.toArray,argTypes:=ats }:=by
 unfold Ud at h
 split at h
 ·rename_i f as ats hop
  simp only [Option.some.injEq,Prod.mk.injEq] at h;obtain ⟨rfl,rfl⟩:=h
  exact ⟨ats,by rw [hop]⟩
 ·cases h
theorem YY {M:Nat→Prop} {x:AV} {v:Value} {f:FuncId} {p q:List AV} (h:KR x=some (f,p,q)) (hx:VR w M hp ρ x v) :
  ∃ xs ys:List Value,v=.func (.func f) xs.toArray ys.toArray∧p.length=xs.length∧q.length=ys.length ∧
   (∀ (i:Nat) (c:AV) (y:Value),p[i]?=some c→xs[i]?=some y→VR w M hp ρ c y)∧(∀ (i:Nat) (c:AV) (y:Value),q[i]?=some c→ys[i]?=some y→VR w M hp ρ c y):=by
 have up:∀ (l:List D) (ys:List Value),(∀ (i:Nat) (c:D) (y:Value),l[i]?=some c→ys[i]?=some y→DR w M c y)→∀ (i:Nat) (c:AV) (y:Value),(l.map AV.d)[i]?=some c→ys[i]?=some y→VR w M hp ρ c y:=by
  intro l ys hh i c y hc hy
  simp only [List.getElem?_map] at hc
  cases hl:l[i]? with
  | none=>rw [hl] at hc;cases hc
  | some d=>rw [hl] at hc;simp only [Option.map_some,Option.some.injEq] at hc;subst hc;exact .d _ _ (hh i d y hl hy)
 unfold KR at h
 split at h
 ·simp only [Option.some.injEq,Prod.mk.injEq] at h;obtain ⟨rfl,rfl,rfl⟩:=h
  cases hx with
  | fn _ _ _ xs ys hl hm hh hk=>exact ⟨xs,ys,rfl,hl,hm,hh,hk⟩
 ·simp only [Option.some.injEq,Prod.mk.injEq] at h;obtain ⟨rfl,rfl,rfl⟩:=h
  cases hx with
  | d _ _ hx =>
  cases hx with
  | fn _ _ _ xs ys hl hm hh hk=>exact ⟨xs,ys,rfl,by simpa using hl,by simpa using hm,up _ _ hh,up _ _ hk⟩
 ·cases h
theorem Wx {o:Oper} {p:Operand×List Operand} (h:Ud o=some p):∀ c,o.op≠.defer c:=by
 obtain ⟨fv,args⟩:=p
 obtain ⟨ats,hop⟩:=KS h
 intro c hc;rw [hop] at hc;cases hc
theorem wP {cx:Cx} {sym:Bool} {orc:List Orc} {hp:List (Nat×Blk)} {name:Nat} {ev:Operand→AV} {o:Oper} {r:R} (h:aop cx sym orc hp name ev o=some r):∀ c,o.op≠.defer c:=by
 intro c hc
 unfold aop at h
 rw [hc] at h
 cases h
theorem kC {P:Program} {f:FuncId} {args:Array Value} {w:World} {R:Ending→World→Prop} {m:Nat} (r:Option Nat) (h:Calls P f args w R):CallsIn (fen r) m P f args w R:=by
 cases r with
 | none=>exact callsIn_wide.2 h
 | some l=>exact CallsIn.inRound l (callsIn_wide.2 h)
theorem qy {o:Oper} {fv:Operand} {args:List Operand} (hcp:Ud o=some (fv,args)) {f:FuncId} {xs ys:List Value} (hv:a.eval fv=.func (.func f) xs.toArray ys.toArray) (P:Program) (w:World) :
  (execOp a.eval o).run P w=(callFunc f (xs++args.map a.eval++ys).toArray).run P w:=by
 obtain ⟨ats,hop⟩:=KS hcp
 simp only [execOp,hop,resolve,hv,Deferred.ofValue,pure_bind,invoke]
 congr 2
 simp
theorem E3 {M:Nat→Prop} {p m q:List AV} {xs ms ys:List Value} (h1:p.length=xs.length) (h2:m.length=ms.length) (h3:q.length=ys.length)
  (k1:∀ (i:Nat) (c:AV) (y:Value),p[i]?=some c→xs[i]?=some y→VR w M hp ρ c y) (k2:∀ (i:Nat) (c:AV) (y:Value),m[i]?=some c→ms[i]?=some y→VR w M hp ρ c y)
  (k3:∀ (i:Nat) (c:AV) (y:Value),q[i]?=some c→ys[i]?=some y→VR w M hp ρ c y) :
  (p++m++q).length=(xs++ms++ys).length∧∀ (i:Nat) (c:AV) (y:Value),(p++m++q)[i]?=some c→(xs++ms++ys)[i]?=some y→VR w M hp ρ c y:=by
 have app:∀ (p m:List AV) (xs ms:List Value),p.length=xs.length→(∀ (i:Nat) (c:AV) (y:Value),p[i]?=some c→xs[i]?=some y→VR w M hp ρ c y) →
   (∀ (i:Nat) (c:AV) (y:Value),m[i]?=some c→ms[i]?=some y→VR w M hp ρ c y)→∀ (i:Nat) (c:AV) (y:Value),(p++m)[i]?=some c→(xs++ms)[i]?=some y→VR w M hp ρ c y:=by
  intro p m xs ms hl hp' hm i c y hc hy
  by_cases h:i < p.length
  ·rw [List.getElem?_append_left h] at hc;rw [List.getElem?_append_left (by omega)] at hy;exact hp' i c y hc hy
  ·rw [List.getElem?_append_right (by omega)] at hc;rw [List.getElem?_append_right (by omega)] at hy;rw [hl] at hc;exact hm _ c y hc hy
 exact ⟨by simp;omega,app _ _ _ _ (by simp;omega) (app _ _ _ _ h1 k1 k2) k3⟩
theorem VL {ops:Array Oper} {i:Nat} {o:Oper} {s s' : St} {x:AV} {hp' : List (Nat×Blk)} {nx:Nat} {orc:List Orc} {ob:List Prop} {sf:Bool} (h:JZ ops i o s x hp' nx orc ob sf=some s') (ho:∀ p,p∈s'.ob→p) :
  (∀ p,p∈ob→p)∧(∀ p,p∈s.ob→p)∧s'.hp=hp'∧s'.vis=s.vis∧s'.nr=s.nr∧(s'.sfx=true→s.sfx=true∧sf=true) ∧
  ∀ (v:Value),HSim cx F hp' ρ w→TSim F s.tm hp' ρ a w→a.tmps.size=s.nt→VR w (MM F hp' ρ) hp' ρ x v→Sim cx F s' ρ (a.put o.dst v) w:=by
 unfold JZ at h
 split at h
 ·split at h
  case h_2=>cases h
  rename_i y ob2 o2 hl
  obtain ⟨e1,e2,e3,e4,e5⟩:=V0 h
  simp only at e1 e2 e3 e4 e5
  rw [e2] at ho
  refine ⟨fun p hp=>ho p (by simp [hp]),fun p hp=>ho p (by simp [hp]),e1,e3,e4,fun hh=>by rw [e5] at hh;simpa using hh,fun v h1 h2 h3 h5=>?_⟩
  exact zB h ⟨h1,h2,h3⟩ (JX hl (fun p hp=>ho p (by simp [hp])) h5)
 ·obtain ⟨e1,e2,e3,e4,e5⟩:=V0 h
  simp only at e1 e2 e3 e4 e5
  rw [e2] at ho
  refine ⟨fun p hp=>ho p (by simp [hp]),fun p hp=>ho p (by simp [hp]),e1,e3,e4,fun hh=>by rw [e5] at hh;simpa using hh,fun v h1 h2 h3 h5=>?_⟩
  exact zB h ⟨h1,h2,h3⟩ h5
def qG (cx:Cx) (yc:VY):Prop :=
 ∀ (H:List (Nat×Blk)) (nx:Nat) (sym:Bool) (orc:List Orc) (b ver:Nat) (args:List AV) (rc:RC),yc H nx sym orc b ver args=some rc→(∀ p,p∈rc.ob→p) →
  ∀ (rr:Option Nat) (m:Nat) (F:Nat→Prop) (ρ:Nat→Value) (w:World) (vs:List Value),HSim cx F H ρ w→args.length=vs.length →
  (∀ (i:Nat) (c:AV) (y:Value),args[i]?=some c→vs[i]?=some y→VR w (MM F H ρ) H ρ c y) →
  (∃ k,look H b=some k∧ver=k.ver)∧∃ (l:Nat) (rc0:Loop),ρ b=.func (.yield l) #[] #[]∧w.heap[l]?=some (.loop rc0)∧rc0.params.size=vs.length ∧
   RoundIn (fen rr) m cx.P l rc0.fn ((rc0.params.zip vs.toArray).foldl (fun tmps (t,a)=>tmps.setIfInBounds t a) rc0.tmps) rc0.assign rc0.body w fun e w' =>
    ∃ v,e=.returned v∧∃ ρ',HSim cx F (rc.heap H) ρ' w'∧Steps1 H ρ w (rc.heap H) ρ' w'∧VR w' (MM F (rc.heap H) ρ') (rc.heap H) ρ' rc.val v
theorem jq {x:AV} {b ver:Nat} (h:jd x=some (b,ver)):x=.own b ver:=by
 unfold jd at h
 split at h
 ·simp only [Option.some.injEq,Prod.mk.injEq] at h;obtain ⟨rfl,rfl⟩:=h;rfl
 ·cases h
theorem yH {o:Oper} {fv:Operand} {args:List Operand} (hcp:Ud o=some (fv,args)) {l:Nat} (hv:a.eval fv=.func (.yield l) #[] #[]) (P:Program) (w:World) :
  (execOp a.eval o).run P w=(Instr.yield l (args.map a.eval).toArray).run P w:=by
 obtain ⟨ats,hop⟩:=KS hcp
 simp only [execOp,hop,resolve,hv,Deferred.ofValue,pure_bind,invoke]
 congr 2
 simp
theorem uM {rr:Option Nat} {m:Nat} {call:Un} (hcall:yf cx call) {yc:VY} (hyc:qG cx yc) {ops:Array Oper} {base:Nat} {Q:Exit→Act→World→Prop} (l:List Nat):∀ (s s' : St) (ρ:Nat→Value) (a:Act) (w:World),Ym cx call yc ops base l s=some s'→(∀ p,p∈s'.ob→p) →
  Sim cx F s ρ a w→(∀ ρ' a' w',Sim cx F s' ρ' a' w'→Steps1 s.hp ρ w s'.hp ρ' w'→a'.defers=a.defers→Q .normal a' w')→wpOpsIn (fen rr) m cx.P ops Q l a w:=by
 induction l with
 | nil =>
  intro s s' ρ a w h ho hs hq
  simp only [Ym,Option.some.injEq] at h;subst h
  exact hq ρ a w hs (Steps1.refl _ _ _) rfl
 | cons i l ih =>
  intro s s' ρ a w h ho hs hq
  simp only [Ym] at h
  split at h
  case h_2=>cases h
  rename_i s1 h1
  have hob:∀ {s s' : St},Ym cx call yc ops base l s=some s'→(∀ p,p∈s'.ob→p)→∀ p,p∈s.ob→p:=by
   intro s s'
   clear ih h h1
   induction l generalizing s with
   | nil=>intro h ho;simp only [Ym,Option.some.injEq] at h;subst h;exact ho
   | cons j l ihl =>
    intro h ho
    simp only [Ym] at h
    split at h
    case h_2=>cases h
    rename_i s2 h2
    have ho2:=ihl h ho
    unfold Xv at h2
    split at h2
    ·cases h2
    split at h2
    ·cases h2
    ·obtain ⟨_,e2,_⟩:=V0 h2;rw [e2] at ho2;exact ho2
    ·split at h2
     ·split at h2
      ·split at h2
       ·cases h2
       exact (VL (cx:=cx) (F:=F) (ρ:=ρ) (w:=w) (a:=a) h2 ho2).2.1
      split at h2
      ·cases h2
      split at h2
      ·cases h2
      exact (VL (cx:=cx) (F:=F) (ρ:=ρ) (w:=w) (a:=a) h2 ho2).2.1
     ·split at h2
      ·cases h2
      exact (VL (cx:=cx) (F:=F) (ρ:=ρ) (w:=w) (a:=a) h2 ho2).2.1
  have ho1:=hob h ho
  unfold Xv at h1
  rw [UZ] at h1
  simp only [wpOpsIn]
  split at h1
  ·cases h1
  rename_i o hop
  rw [hop]
  simp only
  split at h1
  ·cases h1
  ·-- passed YI
   rename_i hwn
   rw [YQ hs.ts hwn]
   simp only [Bool.false_eq_true,if_false]
   obtain ⟨e1,_⟩:=V0 h1
   refine ⟨fun _ _=>trivial,ih s1 s' ρ _ w h ho (zB h1 hs (.d _ _ (.v _))) fun ρ' a' w' hs' hst hdf=>hq ρ' a' w' hs' ?_ (hdf.trans (Ye _ _ _))⟩
   rw [e1] at hst;exact hst
  ·rename_i hwn
   rw [YQ hs.ts hwn]
   simp only [if_true]
   split at h1
   ·-- a call
    rename_i fv args hcp
    split at h1
    ·-- yield
     rename_i b ver hyo
     split at h1
     ·cases h1
     rename_i rc hrc
     have hev:=zR hs.hs hs.ts
     obtain ⟨l2,k2⟩:=KM hev args
     have hfs:=fun ρ' (a' : Act) w'=>VL (cx:=cx) (F:=F) (ρ:=ρ') (w:=w') (a:=a') h1 ho1
     obtain ⟨⟨k,hk,hver⟩,ly,rc0,hρ,hl,hsz,hround⟩:=hyc _ _ _ _ _ _ _ rc hrc (hfs ρ a w).1 rr (m - 1) F ρ w _ hs.hs l2 k2
     have hfv:=hev fv
     rw [jq hyo] at hfv
     have hv:a.eval fv=.func (.yield ly) #[] #[]:=by
      generalize a.eval fv=y at hfv
      cases hfv with
      | own _ _ k' _ hb hv ho h =>
       rw [hk] at hb;cases hb
       rw [h hver,hρ]
     rw [Oper.wpIn,Oper.semAt_eq _ _ _ (Wx hcp),yH hcp hv,run_yield hl (by simpa using hsz.symm)]
     refine ⟨fun _ _=>trivial,?_⟩
     rw [Oper.uponIn_round]
     refine ⟨fun h=>(by cases h),hround.mono ?_⟩
     rintro e w' ⟨v,rfl,ρ',g1,g2,g3⟩
     obtain ⟨_,_,f3,_,_,_,f6⟩:=hfs ρ' a w'
     refine ih s1 s' ρ' _ w' h ho (f6 v g1 (fun t x hx=>g2.vr (hs.ts t x hx)) hs.nt g3) fun ρ'' a' w'' hs' hst hdf=>hq ρ'' a' w'' hs' ?_ (hdf.trans (Ye _ _ _))
     rw [f3] at hst;exact g2.trans hst
    split at h1
    ·cases h1
    rename_i f p q hca
    split at h1
    ·cases h1
    rename_i rc hrc
    have hev:=zR hs.hs hs.ts
    obtain ⟨xs,ys,hv,l1,l3,k1,k3⟩:=YY hca (hev fv)
    obtain ⟨l2,k2⟩:=KM hev args
    obtain ⟨l4,k4⟩:=E3 l1 l2 l3 k1 k2 k3
    have hfs:=fun ρ' (a' : Act) w'=>VL (cx:=cx) (F:=F) (ρ:=ρ') (w:=w') (a:=a') h1 ho1
    have hres:=hcall _ _ _ _ _ _ _ rc hrc (hfs ρ a w).1 F ρ w _ hs.hs l4 k4
    rw [Oper.wpIn,Oper.semAt_eq _ _ _ (Wx hcp),qy hcp hv]
    refine ⟨fun _ _=>trivial,?_⟩
    rcases hres with ⟨v,r1,r2,r3,r4⟩ | ⟨r1,r2⟩
    ·rw [r1]
     simp only [Oper.uponIn]
     have hh:rc.heap s.hp=s.hp:=by rw [RC.heap,r2,r3];rfl
     obtain ⟨_,_,f3,_,_,_,f6⟩:=hfs ρ a w
     rw [hh] at f6 f3
     refine ih s1 s' ρ _ w h ho (f6 v hs.hs hs.ts hs.nt r4) fun ρ' a' w' hs' hst hdf=>hq ρ' a' w' hs' ?_ (hdf.trans (Ye _ _ _))
     rw [f3] at hst;exact hst
    ·rw [r1]
     simp only [Oper.uponIn]
     refine ⟨fun h=>(by cases h),kC rr (r2.mono ?_)⟩
     rintro e w' ⟨v,rfl,ρ',g1,g2,g3⟩
     obtain ⟨_,_,f3,_,_,_,f6⟩:=hfs ρ' a w'
     refine ih s1 s' ρ' _ w' h ho (f6 v g1 (fun t x hx=>g2.vr (hs.ts t x hx)) hs.nt g3) fun ρ'' a' w'' hs' hst hdf=>hq ρ'' a' w'' hs' ?_ (hdf.trans (Ye _ _ _))
     rw [f3] at hst;exact g2.trans hst
   ·-- another operation
    split at h1
    ·cases h1
    rename_i r hr
    have hfs:=fun ρ' (a' : Act) w'=>VL (cx:=cx) (F:=F) (ρ:=ρ') (w:=w') (a:=a') h1 ho1
    obtain ⟨v,w',hrun,ρ',g1,g2,g3⟩:=uy hs.hs (fun _=>rfl) (zR hs.hs hs.ts) hr (hfs ρ a w).1
    obtain ⟨_,_,f3,_,_,_,f6⟩:=hfs ρ' a w'
    have hsim:=f6 v g1 (fun t x hx=>g2.vr (hs.ts t x hx)) hs.nt g3
    have hnext:wpOpsIn (fen rr) m cx.P ops Q l (a.put o.dst v) w':=by
     refine ih s1 s' ρ' _ w' h ho hsim fun ρ'' a' w'' hs' hst hdf=>hq ρ'' a' w'' hs' ?_ (hdf.trans (Ye _ _ _))
     rw [f3] at hst;exact g2.trans hst
    unfold Oper.wpIn
    rw [Oper.semAt_eq _ _ _ (wP hr)]
    refine ⟨fun _ _=>trivial,?_⟩
    rcases hrun with hrun | ⟨hrun,rfl⟩
    ·rw [hrun];exact hnext
    ·rw [hrun];exact hnext
end
section
variable {cx:Cx} {H G:List (Nat×Blk)} {sym:Bool} {orc:List Orc} {ev ev' : Operand→AV}
def Vp (H G:List (Nat×Blk)):Prop:=∀ b k,look H b=some k→look G b=some k
mutual
theorem YH (hs:Vp H G):∀ (x:AV) (y:D) (fs:List Nat),x.toDH H=some (y,fs)→x.toDH G=some (y,fs)∧∀ b,b∈fs→∃ k,look H b=some k
 | .d x,y,fs,h=>by
  simp only [AV.toDH,Option.some.injEq,Prod.mk.injEq] at h ⊢;obtain ⟨rfl,rfl⟩:=h;simp
 | .agg cs,y,fs,h=>by
  simp only [AV.toDH] at h ⊢
  split at h <;> simp only [Option.some.injEq,reduceCtorEq,Prod.mk.injEq] at h
  rename_i l fs' hl;obtain ⟨rfl,rfl⟩:=h
  obtain ⟨h1,h2⟩:=UR hs cs l fs' hl
  rw [h1];exact ⟨rfl,h2⟩
 | .tup cs,y,fs,h=>by
  simp only [AV.toDH] at h ⊢
  split at h <;> simp only [Option.some.injEq,reduceCtorEq,Prod.mk.injEq] at h
  rename_i l fs' hl;obtain ⟨rfl,rfl⟩:=h
  obtain ⟨h1,h2⟩:=UR hs cs l fs' hl
  rw [h1];exact ⟨rfl,h2⟩
 | .fn f a b,y,fs,h=>by
  simp only [AV.toDH] at h ⊢
  split at h <;> simp only [Option.some.injEq,reduceCtorEq,Prod.mk.injEq] at h
  rename_i x1 f1 y1 f2 hx1 hy1;obtain ⟨rfl,rfl⟩:=h
  obtain ⟨h1,h2⟩:=UR hs a x1 f1 hx1
  obtain ⟨h3,h4⟩:=UR hs b y1 f2 hy1
  rw [h1,h3]
  refine ⟨rfl,fun c hc=>?_⟩
  rcases List.mem_append.1 hc with hc | hc
  ·exact h2 c hc
  ·exact h4 c hc
 | .own b ver,y,fs,h=>by
  simp only [AV.toDH] at h ⊢
  cases hb:look H b with
  | none=>rw [hb] at h;cases h
  | some k =>
   rw [hs b k hb]
   rw [hb] at h
   refine ⟨h,?_⟩
   cases k with
   | box _=>simp at h
   | loop _ _ _ _ _ _=>simp at h
   | mp es =>
    simp only at h
    split at h <;> simp only [Option.some.injEq,reduceCtorEq,Prod.mk.injEq] at h
    obtain ⟨rfl,rfl⟩:=h
    intro c hc
    simp only [List.mem_singleton] at hc
    subst hc;exact ⟨_,hb⟩
   | it _ _=>simp at h
   | fbox _=>simp at h
   | left _=>simp at h
   | dead=>simp at h
   | row v s e =>
    simp only at h
    split at h <;> simp only [Option.some.injEq,reduceCtorEq,Prod.mk.injEq] at h
    obtain ⟨rfl,rfl⟩:=h
    intro c hc
    simp only [List.mem_singleton] at hc
    subst hc;exact ⟨_,hb⟩
   | frozen v s e =>
    simp only at h
    split at h <;> simp only [Option.some.injEq,reduceCtorEq,Prod.mk.injEq] at h
    obtain ⟨rfl,rfl⟩:=h;simp
   | virt v s e =>
    simp only at h
    split at h <;> simp only [Option.some.injEq,reduceCtorEq,Prod.mk.injEq] at h
    obtain ⟨rfl,rfl⟩:=h;simp
 | .dptr _ _,y,fs,h=>by
  simp only [AV.toDH,Option.some.injEq,Prod.mk.injEq] at h ⊢;obtain ⟨rfl,rfl⟩:=h;simp
 | .ptr b ver sz i off,y,fs,h=>by
  simp only [AV.toDH] at h ⊢
  split at h
  case h_2=>cases h
  rename_i hc
  split at h
  case h_2=>cases h
  rename_i k hk
  rw [hs b k hk]
  dsimp only
  refine ⟨h,?_⟩
  split at h
  ·simp only [Option.some.injEq,Prod.mk.injEq] at h
   obtain ⟨rfl,rfl⟩:=h
   intro c hc;simp only [List.mem_singleton] at hc;subst hc;exact ⟨k,hk⟩
  ·simp only [Option.some.injEq,Prod.mk.injEq] at h
   obtain ⟨rfl,rfl⟩:=h
   intro c hc;cases hc
  ·cases h
 | .sub _ _ _ _ _,y,fs,h=>by simp [AV.toDH] at h
 | .junk,y,fs,h=>by simp [AV.toDH] at h
theorem UR (hs:Vp H G):∀ (cs:List AV) (l:List D) (fs:List Nat),YA H cs=some (l,fs)→YA G cs=some (l,fs)∧∀ b,b∈fs→∃ k,look H b=some k
 | [],l,fs,h=>by
  simp only [YA,Option.some.injEq,Prod.mk.injEq] at h ⊢;obtain ⟨rfl,rfl⟩:=h;simp
 | x::cs,l,fs,h=>by
  simp only [YA] at h ⊢
  split at h <;> simp only [Option.some.injEq,reduceCtorEq,Prod.mk.injEq] at h
  rename_i y1 f1 l1 f2 h1 h2;obtain ⟨rfl,rfl⟩:=h
  obtain ⟨g1,g2⟩:=YH hs x y1 f1 h1
  obtain ⟨g3,g4⟩:=UR hs cs l1 f2 h2
  rw [g1,g3]
  refine ⟨rfl,fun c hc=>?_⟩
  rcases List.mem_append.1 hc with hc | hc
  ·exact g2 c hc
  ·exact g4 c hc
end
theorem Z9 (hs:Vp H G) (fs:List Nat) (h:∀ b,b∈fs→∃ k,look H b=some k):Qc G fs=Qc H fs:=by
 induction fs with
 | nil=>rfl
 | cons b l ih =>
  obtain ⟨k,hb⟩:=h b List.mem_cons_self
  simp only [Qc,hb,hs b _ hb,ih fun c hc=>h c (List.mem_cons_of_mem _ hc)]
theorem Ju (hs:Vp H G) {b ver:Nat} (h:J6 H b ver=true):J6 G b ver=true:=by
 unfold J6 at h ⊢
 cases hb:look H b with
 | none=>rw [hb] at h;cases h
 | some k=>rw [hb] at h;rw [hs b k hb];exact h
theorem QdW (hs:Vp H G) {b ver:Nat} (h:J6 H b ver=true):look G b=look H b:=by
 unfold J6 at h
 split at h
 ·rename_i k hk;rw [hk];exact hs b k hk
 ·cases h
theorem QbE (hs:Vp H G) {x:AV} {es:List D} (h:Yt H x=some es):Yt G x=some es:=by
 unfold Yt at h ⊢
 split at h
 ·exact h
 ·rename_i b ver
  cases hb:look H b with
  | none=>rw [hb] at h;cases h
  | some k=>rw [hb] at h;simp only [hs b k hb];exact h
 ·split at h
  case h_2=>cases h
  rename_i hc
  rw [Ju hs hc];exact h
 ·cases h
theorem Xb (hs:Vp H G) {x:AV} {q:Nat×List D×List Nat} (h:Ya H x=some q):Ya G x=some q∧∀ b,b∈q.2.2→∃ k,look H b=some k:=by
 unfold Ya at h ⊢
 split at h
 ·rename_i f sz es fs hd
  obtain ⟨h1,h2⟩:=YH hs _ _ _ hd
  rw [h1]
  simp only [Option.some.injEq] at h;subst h
  exact ⟨rfl,h2⟩
 ·cases h
theorem jQ (hs:Vp H G) {b:Nat} {x:SX.D} (h:X5 H b=some x):X5 G b=some x:=by
 unfold X5 at h ⊢
 cases hb:look H b with
 | none=>rw [hb] at h;cases h
 | some k=>rw [hb] at h;rw [hs b k hb];exact h
theorem Qef (hs:Vp H G) {x:AV} {y:SX.D} {off:Nat} (h:unf H x=.dptr y off):unf G x=.dptr y off:=by
 cases x with
 | ptr b ver sz i o =>
  have h:uD H b ver sz i o=.dptr y off:=h
  show uD G b ver sz i o=.dptr y off
  unfold uD at h ⊢
  cases hl:X5 H b with
  | none=>rw [hl] at h;cases h
  | some x=>rw [hl] at h;rw [jQ hs hl];exact h
 | d _=>exact h
 | agg _=>exact h
 | tup _=>exact h
 | dptr _ _=>exact h
 | own _ _=>exact h
 | sub _ _ _ _ _=>exact h
 | fn _ _ _=>exact h
 | junk=>exact h
theorem Qfw (hs:Vp H G) {x:AV} {b ver sz i off:Nat} {q:AV×List Prop×List Orc} (h:unf H x=.ptr b ver sz i off) (hl:Y2 sym orc H b ver sz i=some q):unf G x=.ptr b ver sz i off:=by
 cases x with
 | ptr b' ver' sz' i' o =>
  have h:uD H b' ver' sz' i' o=.ptr b ver sz i off:=h
  show uD G b' ver' sz' i' o=.ptr b ver sz i off
  unfold uD at h ⊢
  cases hf:X5 H b' with
  | some x=>rw [hf] at h;rw [jQ hs hf];exact h
  | none =>
   rw [hf] at h
   simp only [AV.ptr.injEq] at h
   obtain ⟨rfl,rfl,rfl,rfl,rfl⟩:=h
   have:X5 G b'=none:=by
    unfold Y2 at hl
    unfold X5 at hf ⊢
    cases hb:look H b' with
    | none=>rw [hb] at hl;cases hl
    | some k=>rw [hb] at hf;rw [hs b' k hb];exact hf
   rw [this]
 | d _=>exact h
 | agg _=>exact h
 | tup _=>exact h
 | dptr _ _=>exact h
 | own _ _=>exact h
 | sub _ _ _ _ _=>exact h
 | fn _ _ _=>exact h
 | junk=>exact h
theorem Qaw (hs:Vp H G) {b ver sz i:Nat} {q:AV×List Prop×List Orc} (h:Y2 sym orc H b ver sz i=some q):Y2 sym orc G b ver sz i=some q:=by
 unfold Y2 at h ⊢
 cases hb:look H b with
 | none=>rw [hb] at h;cases h
 | some k=>rw [hb] at h;rw [hs b k hb];exact h
theorem Jy (hs:Vp H G) {t:TypeId} {x:AV} {i:Int} {r:R} (h:Wu cx sym orc H t x i=some r):Wu cx sym orc G t x i=some r:=by
 unfold Wu at h ⊢
 split at h
 ·split at h
  case h_2=>cases h
  split at h
  ·split at h
   case h_2=>cases h
   rename_i hc
   simp only [Ju hs hc];exact h
  ·exact h
  ·cases h
 ·split at h
  ·cases h
  split at h
  ·rename_i b ver
   cases hb:look H b with
   | none=>rw [hb] at h;cases h
   | some k=>rw [hb] at h;simp only [hs b k hb];exact h
  ·exact h
  ·split at h
   case h_2=>cases h
   rename_i hc hd
   simp only [Bool.and_eq_true] at hc
   simp only [Ju hs hc.1,hc.2,hd,Bool.and_true,QdW hs hc.1];exact h
  ·cases h
 ·cases h
theorem wV (hs:Vp H G) {t:TypeId} {x:AV} {i:Int} {r:R} (h:V9 cx sym orc H t x i=some r):V9 cx sym orc G t x i=some r:=by
 unfold V9 at h ⊢
 split at h
 ·split at h
  case h_2=>cases h
  rename_i q hq
  rw [Jy hs hq]
  exact h
 ·exact Jy hs h
theorem QbT (hs:Vp H G) {t:TypeId} {x:AV} {lo hi mx:Option AV} {r:R} (h:Jf cx sym orc H t x lo hi mx=some r):Jf cx sym orc G t x lo hi mx=some r:=by
 unfold Jf at h ⊢
 split at h
 ·exact h
 ·split at h
  case h_3=>cases h
  ·rename_i elem full sz es fs hu hd
   obtain ⟨h1,h2⟩:=YH hs _ _ _ hd
   simp only [hu,h1]
   rw [Z9 hs fs h2]
   exact h
  ·rename_i elem m full sz es fs hu hd
   obtain ⟨h1,h2⟩:=YH hs _ _ _ hd
   simp only [hu,h1]
   rw [Z9 hs fs h2]
   exact h
theorem Qaz (hs:Vp H G) {t:TypeId} {x:AV} {lo hi mx:Option AV} {r:R} (h:VN cx sym orc H t x lo hi mx=some r):VN cx sym orc G t x lo hi mx=some r:=by
 unfold VN at h ⊢
 split at h
 case h_2=>cases h
 cases hb:look H _ with
 | none=>rw [hb] at h;simp at h
 | some k=>rw [hb] at h;simp only [hs _ k hb];exact h
theorem Qay (hs:Vp H G) {t:TypeId} {x:AV} {lo hi mx:Option AV} {r:R} (hn:VN cx sym orc H t x lo hi mx=none) (h:Jf cx sym orc H t x lo hi mx=some r):VN cx sym orc G t x lo hi mx=none:=by
 unfold VN at hn ⊢
 split
 case h_2=>rfl
 rename_i o b ver ho
 rw [ho] at hn
 simp only at hn
 cases hb:look H b with
 | none =>
  unfold Jf at h
  split at h
  ·rename_i hx;cases hx
  ·split at h
   case h_3=>cases h
   ·rename_i hd;simp [AV.toDH,hb] at hd
   ·rename_i hd;simp [AV.toDH,hb] at hd
 | some k=>rw [hb] at hn;simp only [hs b k hb];exact hn
theorem Qd4 (hs:Vp H G) {t:TypeId} {x:AV} {lo hi mx:Option AV} {r:R} (h:wU cx sym orc H t x lo hi mx=some r):wU cx sym orc G t x lo hi mx=some r:=by
 unfold wU at h ⊢
 split at h
 case h_2=>cases h
 cases hb:look H _ with
 | none=>rw [hb] at h;simp at h
 | some k=>rw [hb] at h;simp only [hs _ k hb];exact h
theorem Qd3 (hs:Vp H G) {t:TypeId} {x:AV} {lo hi mx:Option AV} {r:R} (hn:wU cx sym orc H t x lo hi mx=none) (h:Jf cx sym orc H t x lo hi mx=some r):wU cx sym orc G t x lo hi mx=none:=by
 unfold wU at hn ⊢
 split
 case h_2=>rfl
 rename_i o b ver _ l ho
 rw [ho] at hn
 simp only at hn
 cases hb:look H b with
 | none =>
  unfold Jf at h
  split at h
  ·rename_i hx;cases hx
  ·split at h
   case h_3=>cases h
   ·rename_i hd;simp [AV.toDH,hb] at hd
   ·rename_i hd;simp [AV.toDH,hb] at hd
 | some k=>rw [hb] at hn;simp only [hs b k hb];exact hn
theorem yB (hs:Vp H G) {t:TypeId} {x:AV} {lo hi mx:Option AV} {r:R} (hn:VN cx sym orc H t x lo hi mx=none) (h:wU cx sym orc H t x lo hi mx=some r):VN cx sym orc G t x lo hi mx=none:=by
 unfold wU at h
 split at h
 case h_2=>cases h
 unfold VN
 split
 case h_2=>rfl
 rename_i hlo _
 cases hlo
theorem QaI (hs:Vp H G) {name:Nat} (hn:look G name=none) {t:TypeId} {s x:AV} {r:R} (h:XM cx sym orc H name t s x=some r):XM cx sym orc G name t s x=some r:=by
 unfold XM at h ⊢
 split at h
 case h_2=>cases h
 rename_i elem asz ds fs hu hadd
 obtain ⟨h1,h2⟩:=Xb hs hadd
 simp only [hu,h1]
 rw [Z9 hs fs h2]
 split at h
 ·cases h
 split at h
 ·cases h
 split at h
 ·rename_i b ver
  cases hb:look H b with
  | none=>rw [hb] at h;cases h
  | some k=>rw [hb] at h;simp only [hs b k hb];exact h
 ·split at h
  ·cases h
  split at h
  ·split at h
   case h_2=>cases h
   rename_i hnil hno how
   simp only [hnil,hn,how];exact h
  split at h
  case h_2=>cases h
  rename_i ob o' how
  split at h
  ·rename_i hnil
   split at h
   case h_3=>cases h
   ·rename_i htold
    simp only [htold];exact h
   ·rename_i htold _
    simp only [htold,hn];exact h
  ·exact h
  ·cases h
 ·cases h
theorem Qd9 (hs:Vp H G) {t:TypeId} {s x:AV} {r:R} (h:adup cx sym orc H t s x=some r):adup cx sym orc G t s x=some r:=by
 unfold adup at h ⊢
 split at h
 case h_2=>cases h
 rename_i b ver hu
 cases hb:look H b with
 | none=>rw [hb] at h;simp at h
 | some k=>rw [hb] at h;rw [hs b k hb];exact h
theorem QcM (hs:Vp H G) {t:TypeId} {d s:AV} {r:R} (h:uz cx orc H t d s=some r):uz cx orc G t d s=some r:=by
 unfold uz at h ⊢
 split at h
 case h_2=>cases h
 rename_i elem b ver asz ds fs hu hadd
 obtain ⟨h1,h2⟩:=Xb hs hadd
 simp only [hu,h1]
 rw [Z9 hs fs h2]
 cases hb:look H b with
 | none=>rw [hb] at h;simp at h
 | some k=>rw [hb] at h;simp only [hs b k hb];exact h
theorem yC (hs:Vp H G) {name:Nat} (hn:look G name=none) {b:Builtin} {ats:Array TypeId} {ty:TypeId} {args:List AV} {r:R} (h:Jz cx sym orc H name b ats ty args=some r) :
  (∀ x v,Yt H x=none→x.toV=some v→Yt G x=none)→Jz cx sym orc G name b ats ty args=some r:=by
 intro hV
 unfold Jz at h ⊢
 split at h
 ·split at h
  case h_2=>cases h
  split at h
  ·split at h
   ·exact Qd9 hs h
   ·exact QaI hs hn h
  ·unfold Qdg at h ⊢
   split at h
   case h_2=>cases h
   split at h
   case h_2=>cases h
   rename_i hn0
   simp only [hn]
   simp_all
 ·split at h
  case h_2=>cases h
  exact QcM hs h
 ·split at h
  case h_2=>cases h
  split at h
  ·rename_i es hes
   simp only [QbE hs hes];exact h
  ·rename_i hes
   split at h
   case h_2=>cases h
   rename_i v hv
   simp only [hV _ _ hes hv,hv];exact h
 ·exact h
 ·exact h
 ·exact h
 ·split at h
  case h_2=>cases h
  unfold QaF at h ⊢
  split at h
  case h_2=>cases h
  rename_i b _ _ _ _ _
  cases hb:look H b with
  | none=>rw [hb] at h;simp at h
  | some k=>rw [hb] at h;simp only [hs b k hb];exact h
 ·cases h
theorem QbD {x:AV} {v:Value} (h:x.toV=some v):Yt H x=none↔Yt G x=none:=by
 unfold Yt
 split
 ·simp
 ·rename_i b ver
  simp [AV.toV,AV.toD] at h
 ·simp [AV.toV,AV.toD] at h
 ·simp
theorem YT (hs:Vp H G) {s:Nat}:∀ (parts:List (Nat×AV)) (n:Nat) (es:List D) (fs:List Nat),Vx H s n parts=some (es,fs)→Vx G s n parts=some (es,fs)∧∀ b,b∈fs→∃ k,look H b=some k
 | [],n,es,fs,h=>by
  simp only [Vx,Option.some.injEq,Prod.mk.injEq] at h ⊢;obtain ⟨rfl,rfl⟩:=h;simp
 | (i,x)::l,n,es,fs,h=>by
  simp only [Vx] at h ⊢
  split at h
  case h_2=>cases h
  rename_i cs y f1 ys f2 hcs hy hys
  obtain ⟨g1,g2⟩:=YH hs _ _ _ hy
  obtain ⟨g3,g4⟩:=YT hs l (n+1) ys f2 hys
  simp only [hcs,g1,g3]
  refine ⟨h,?_⟩
  split at h
  case h_2=>cases h
  split at h
  case h_2=>cases h
  simp only [Option.some.injEq,Prod.mk.injEq] at h;obtain ⟨rfl,rfl⟩:=h
  refine fun c hc=>?_
  rcases List.mem_append.1 hc with hc | hc
  ·exact g2 c hc
  ·exact g4 c hc
theorem QbS (hs:Vp H G) {t:TypeId} {p y:AV} {r:R} (h:wa cx sym orc H t p y=some r):wa cx sym orc G t p y=some r:=by
 unfold wa at h ⊢
 split at h
 case h_2=>cases h
 split at h
 ·rename_i hl hb
  simp only [hl,hs _ _ hb];exact h
 ·rename_i ver sz' es hl hb
  simp only [hl,hs _ _ hb]
  split at h
  case h_2=>cases h
  rename_i yd fs hc hyd
  obtain ⟨h1,h2⟩:=YH hs _ _ _ hyd
  simp only [hc,h1]
  rw [Z9 hs fs h2]
  exact h
 ·cases h
theorem wB (hs:Vp H G) {m:AV} {p:Nat×List D} (h:GV H m=some p):GV G m=some p:=by
 unfold GV at h ⊢
 split at h
 case h_2=>cases h
 rename_i b v
 cases hb:look H b with
 | none=>rw [hb] at h;cases h
 | some k=>rw [hb] at h;simp only [hs b k hb];exact h
theorem QbC (hs:Vp H G) {m:AV} {p:List D} (h:zS H m=some p):zS G m=some p:=by
 unfold zS at h ⊢
 split at h
 ·rename_i b v
  cases hb:look H b with
  | none=>rw [hb] at h;cases h
  | some k=>rw [hb] at h;simp only [hs b k hb];exact h
 ·exact h
 ·cases h
theorem kJ (hs:Vp H G) {b:Nat} {p:List D×List (Nat×Blk)} (h:qE H b=some p):qE G b=some p:=by
 unfold qE at h ⊢
 cases hb:look H b with
 | none=>rw [hb] at h;cases h
 | some k=>rw [hb] at h;simp only [hs b k hb];exact h
theorem El (hs:Vp H G) {m:AV} {p:Nat×It×Nat} (h:wC H m=some p):wC G m=some p:=by
 unfold wC at h ⊢
 split at h
 case h_2=>cases h
 rename_i b v
 cases hb:look H b with
 | none=>rw [hb] at h;cases h
 | some k=>rw [hb] at h;simp only [hs b k hb];exact h
theorem Gr (hs:Vp H G) {t:TypeId} {m k x:AV} {r:R} (h:V8 cx sym orc H t m k x=some r):V8 cx sym orc G t m k x=some r:=by
 unfold V8 at h ⊢
 split at h
 case h_2=>cases h
 rename_i hu hom hkv hxd
 simp only [hu,wB hs hom,hkv,hxd];exact h
theorem QaD (hs:Vp H G) {t:TypeId} {m k:AV} {ok:Bool} {r:R} (h:XJ cx sym orc H t m k ok=some r):XJ cx sym orc G t m k ok=some r:=by
 unfold XJ at h ⊢
 split at h
 case h_2=>cases h
 rename_i hu hom hkv
 simp only [hu,QbC hs hom,hkv];exact h
theorem wG (hs:Vp H G) {x:AV} (h:zL H x=true):zL G x=true:=by
 cases x with
 | ptr b ver sz i off =>
  simp only [zL] at h ⊢
  cases hb:look H b with
  | none=>rw [hb] at h;cases h
  | some k=>rw [hb] at h;rw [hs b k hb];exact h
 | dptr _ _=>rfl
 | _=>cases h
theorem Qac (hs:Vp H G) {op:BinOp} {t:TypeId} {x:AV} {y:Operand} {q:D×List Prop} (h:V2 H cx op t x y=some q):V2 G cx op t x y=some q:=by
 unfold V2 at h ⊢
 split at h
 ·rename_i hu hp;rw [hu,wG hs hp];exact h
 ·rename_i hu hp;rw [hu,wG hs hp];exact h
 ·cases h
theorem Qcj {op:BinOp} {t:TypeId} {x:AV} {y:Operand} {q:D×List Prop} (h:GX cx op t x y=some q):V2 G cx op t x y=none:=by
 unfold GX at h
 split at h
 ·rename_i hu;unfold V2;rw [hu]
 ·rename_i hu;unfold V2;rw [hu]
 ·cases h
theorem Qaa (hs:Vp H G) {op:BinOp} {t:TypeId} {x:AV} {y:Operand} {r:R} (h:(match V2 H cx op t x y with
      | some (r,ob)=>some ({ val:=.d r,up:=[],ob,orc }:R)
      | none=>match GX cx op t x y with
        | some (r,ob)=>some { val:=.d r,up:=[],ob,orc }
        | none=>none)=some r):(match V2 G cx op t x y with
      | some (r,ob)=>some ({ val:=.d r,up:=[],ob,orc }:R)
      | none=>match GX cx op t x y with
        | some (r,ob)=>some { val:=.d r,up:=[],ob,orc }
        | none=>none)=some r:=by
  cases hq:V2 H cx op t x y with
  | some q=>rw [hq] at h;rw [Qac hs hq];exact h
  | none =>
    rw [hq] at h
    cases hz:GX cx op t x y with
    | none=>rw [hz] at h;cases h
    | some z=>rw [hz] at h;rw [Qcj hz];exact h
theorem Qfp (hs:Vp H G) {name:Nat} (hn:look G name=none) {o:Oper} {r:R} (h:aop cx sym orc H name ev o=some r):aop cx sym orc G name ev o=some r:=by
 cases hop:o.op with
 | alloc elem =>
  simp only [aop,hop] at h ⊢
  split at h
  case h_2=>cases h
  rename_i z hz _
  simp only [hz,hn];exact h
 | box elem x =>
  simp only [aop,hop] at h ⊢
  split at h
  case h_2=>cases h
  rename_i cs hcs _
  simp only [hcs,hn];exact h
 | buildSlice t len parts =>
  simp only [aop,hop] at h ⊢
  cases hlt:cx.Lt t len with
  | true =>
   simp only [hlt] at h ⊢
   unfold uQ at h ⊢
   split at h
   case h_2=>cases h
   rename_i elem hu _
   simp only [hu,hn]
   split at h
   case h_2=>cases h
   split at h
   case h_2=>cases h
   rename_i es hl
   obtain ⟨h1,h2⟩:=YT hs _ _ _ _ hl
   simp only [h1];exact h
  | false =>
  simp only [hlt] at h ⊢
  cases hpe:Y5 0 (parts.toList.map fun p=>(p.1,ev p.2)) with
  | none =>
   simp only [hpe] at h ⊢
   split at h
   case h_2=>cases h
   split at h
   case h_2=>cases h
   split at h
   case h_2=>cases h
   rename_i es fs hl
   obtain ⟨h1,h2⟩:=YT hs _ _ _ _ hl
   simp only [h1]
   rw [Z9 hs fs h2]
   exact h
  | some l=>cases l with
   | nil =>
   simp only [hpe] at h ⊢
   split at h
   case h_2=>cases h
   split at h
   case h_2=>cases h
   split at h
   case h_2=>cases h
   rename_i es fs hl
   obtain ⟨h1,h2⟩:=YT hs _ _ _ _ hl
   simp only [h1]
   rw [Z9 hs fs h2]
   exact h
   | cons x xs =>
    simp only [hpe] at h ⊢
    unfold uV at h ⊢
    split at h
    case h_2=>cases h
    rename_i elem hu _
    simp only [hu,hn];exact h
 | load t a =>
  simp only [aop,hop] at h ⊢
  split at h
  ·rename_i s g b ver sz i off hs' hg e
   split at h
   case h_2=>cases h
   rename_i x ob o' hbl
   simp only [hs',hg,Qfw hs e hbl,Qaw hs hbl];exact h
  ·rename_i s g x off hs' hg e
   simp only [hs',hg,Qef hs e];exact h
  ·cases h
 | store t a x=>simp only [aop,hop] at h ⊢;exact QbS hs h
 | nilCheck x =>
  simp only [aop,hop] at h ⊢
  split at h
  ·rename_i b v s i f e
   split at h
   case h_2=>cases h
   rename_i hc
   simp only [e,Ju hs hc];exact h
  ·exact h
  ·exact h
  ·exact h
  ·cases h
 | makeSlice t l c =>
  simp only [aop,hop] at h ⊢
  split at h
  case h_2=>cases h
  rename_i elem kn n km m hu el ec hn'
  simp only [hu,el,ec,hn];exact h
 | slice t x lo hi mx =>
  simp only [aop,hop] at h ⊢
  split at h
  ·rename_i b ver sz i off hex
   have he:∀ p,qE H b=some p→UT cx G orc t b ver sz i off (lo.isNone && hi.isNone && mx.isNone)=UT cx H orc t b ver sz i off (lo.isNone && hi.isNone && mx.isNone):=by
    intro p hp
    unfold UT
    rw [hp,kJ hs hp]
   unfold jA at h ⊢
   split at h
   ·rename_i q hq
    have hp:∃ p,qE H b=some p:=by
     unfold UT at hq
     split at hq
     case h_2=>cases hq
     rename_i hao hu
     exact ⟨_,hao⟩
    obtain ⟨p,hp⟩:=hp
    rw [he p hp,hq];exact h
   ·rename_i hq
    unfold uI at h ⊢
    split at h
    case h_2=>cases h
    rename_i hmx hao hu
    rw [he _ hao,hq]
    simp only [hmx,kJ hs hao,hu];exact h
  ·cases hq:VN cx sym orc H t (ev x) (lo.map ev) (hi.map ev) (mx.map ev) with
   | some q =>
    rw [hq] at h
    rw [Qaz hs hq];exact h
   | none =>
    rw [hq] at h
    simp only at h
    cases hq2:wU cx sym orc H t (ev x) (lo.map ev) (hi.map ev) (mx.map ev) with
    | some q2 =>
     rw [hq2] at h
     rw [yB hs hq hq2,Qd4 hs hq2];exact h
    | none =>
     rw [hq2] at h
     simp only at h
     rw [Qay hs hq h,Qd3 hs hq2 h]
     exact QbT hs h
 | sliceToArrayPointer t x =>
  simp only [aop,hop] at h ⊢
  unfold aarr at h ⊢
  split at h
  case h_2=>cases h
  rename_i n elem full sz es fs hu hd
  obtain ⟨h1,h2⟩:=YH hs _ _ _ hd
  simp only [hu,h1]
  rw [Z9 hs fs h2]
  exact h
 | fieldAddr s x f =>
  simp only [aop,hop] at h ⊢
  split at h
  case h_2=>cases h
  split at h
  case h_2=>cases h
  split at h
  ·rename_i b v sz i off hz e
   split at h
   case h_2=>cases h
   rename_i hc
   simp only [hz,e,Ju hs hc];exact h
  ·exact h
  ·cases h
 | indexAddr t x ix =>
  simp only [aop,hop] at h ⊢
  split at h
  case h_2=>cases h
  exact wV hs h
 | call c =>
  obtain ⟨callee,args,ats⟩:=c
  cases callee with
  | builtin b =>
   simp only [aop,hop] at h ⊢
   exact yC hs hn h (fun x v h1 h2=>(QbD h2).1 h1)
  | _=>simp only [aop,hop] at h;cases h
 | makeMap t q =>
  simp only [aop,hop] at h ⊢
  split at h
  case h_2=>cases h
  simp only [hn];exact h
 | mapUpdate t m k x=>simp only [aop,hop] at h ⊢;exact Gr hs h
 | insert t m k x=>simp only [aop,hop] at h ⊢;exact Gr hs h
 | lookup t m k ok=>simp only [aop,hop] at h ⊢;exact QaD hs h
 | range t x =>
  simp only [aop,hop] at h ⊢
  unfold QaA at h ⊢
  split at h
  ·rename_i hu hxv hl
   simp only [hu,hxv,hn];exact h
  ·rename_i hu hxv hl
   split at h
   case h_2=>cases h
   rename_i hom
   simp only [hu,hxv,hn,wB hs hom];exact h
  ·cases h
 | next x isS =>
  simp only [aop,hop] at h ⊢
  cases isS with
  | false =>
   simp only at h ⊢
   unfold QaC at h ⊢
   split at h
   case h_2=>cases h
   rename_i ho
   rw [El hs ho];exact h
  | true =>
   simp only at h ⊢
   unfold Qde at h ⊢
   split at h
   case h_2=>cases h
   rename_i ho
   rw [El hs ho];exact h
 | entry x =>
  simp only [aop,hop] at h ⊢
  unfold jo at h ⊢
  split at h
  case h_2=>cases h
  rename_i ho
  rw [El hs ho];exact h
 | binOp op t x y yt =>
  simp only [aop,hop] at h ⊢
  cases h6:Qf0 orc with
  | some r6=>simp only [h6] at h ⊢;exact h
  | none =>
  cases h7:Qc2 op (ev x) (ev y) orc with
  | some q7=>simp only [h6,h7] at h ⊢;exact h
  | none =>
  simp only [h6,h7] at h ⊢
  cases ha:(ev x).toV <;> cases hb:(ev y).toV <;> simp only [ha,hb] at h ⊢ <;> first | exact h | skip
  all_goals exact Qaa hs h
 | convert s t x =>
  simp only [aop,hop] at h ⊢
  cases h6:QfZ orc with
  | some r6=>simp only [h6] at h ⊢;exact h
  | none =>
  cases h7:Qc1 cx s t (ev x) orc with
  | some q7=>simp only [h6,h7] at h ⊢;exact h
  | none =>
  simp only [h6,h7] at h ⊢
  cases ha:(ev x).toV with
  | some a=>rw [ha] at h;exact h
  | none =>
   rw [ha] at h
   simp only at h ⊢
   unfold QaH at h ⊢
   split at h
   case h_2=>cases h
   rename_i e ds fs hs' ht hadd
   simp only [hs',ht,(Xb hs hadd).1];exact h
 | _=>simp only [aop,hop] at h ⊢;exact h
end
theorem QcY {x:AV} {b:Nat} (h:ptrB x=some b):∃ v s i o,x=.ptr b v s i o:=by
 cases x <;> first | (cases h;exact ⟨_,_,_,_,rfl⟩) | cases h
theorem Qfq {cx:Cx} {H G:List (Nat×Blk)} {sym:Bool} {orc:List Orc} {ev:Operand→AV} {name b:Nat} {o:Oper} {r:R} (ha:Xa ev o=some b) (hc:∀ v,J6 H b v=true→J6 G b v=true) (h:aop cx sym orc H name ev o=some r):aop cx sym orc G name ev o=some r:=by
 unfold Xa at ha
 split at ha
 ·rename_i s x f hop
  obtain ⟨v,s',i,off,hx⟩:=QcY ha
  simp only [aop,hop,hx] at h ⊢
  split at h
  case h_2=>cases h
  rename_i fd hfd
  split at h
  case h_2=>cases h
  rename_i n hn
  split at h
  ·rename_i e1 e2
   cases e2
   split at h
   case h_2=>cases h
   rename_i hcu
   simp only [hfd,hn,e1,hc _ hcu];exact h
  ·rename_i e1 e2
   cases e2
  ·cases h
 ·rename_i t x ix hop
  obtain ⟨v,s',i,off,hx⟩:=QcY ha
  simp only [aop,hop,hx] at h ⊢
  split at h
  case h_2=>cases h
  rename_i k j hix
  have h0:∀ {o2:List Orc} {j:Int} {q:R},Wu cx sym o2 H t (.ptr b v s' i off) j=some q→Wu cx sym o2 G t (.ptr b v s' i off) j=some q:=by
   intro o2 j q hq
   unfold Wu at hq ⊢
   split at hq
   ·rename_i len elem hu
    split at hq
    case h_2=>cases hq
    rename_i e1 e2
    simp only at hq ⊢
    split at hq
    case h_2=>cases hq
    rename_i hcu
    simp only [e1,e2,hc _ hcu];exact hq
   ·split at hq
    ·cases hq
    ·simp only at hq;cases hq
   ·cases hq
  unfold V9 at h ⊢
  split at h
  ·rename_i k2 r2
   split at h
   case h_2=>cases h
   rename_i q hq
   rw [h0 hq]
   exact h
  ·rename_i hno
   exact h0 h
 ·cases ha
section
variable {cx:Cx} {H G:List (Nat×Blk)} {sym:Bool} {orc:List Orc} {ev ev' : Operand→AV}
theorem Qd7 {o:Oper} (h:∀ x,x∈o.op.operands.toList→ev x=ev' x) {name:Nat}:aop cx sym orc H name ev o=aop cx sym orc H name ev' o:=by
 have hm:∀ (l:List Operand),(∀ x,x∈l→x∈o.op.operands.toList)→l.map ev=l.map ev':=fun l hl=>List.map_congr_left fun x hx=>h x (hl x hx)
 cases hop:o.op with
 | move x=>simp only [aop,hop];rw [h x (by simp [hop,Op.operands])]
 | assign x=>simp only [aop,hop];rw [h x (by simp [hop,Op.operands])]
 | pick c a b=>simp only [aop,hop];rw [h c (by simp [hop,Op.operands]),h a (by simp [hop,Op.operands]),h b (by simp [hop,Op.operands])]
 | box t x=>simp only [aop,hop];rw [h x (by simp [hop,Op.operands])]
 | build t parts =>
  simp only [aop,hop]
  have:(parts.toList.map fun p=>(p.1,ev p.2))=(parts.toList.map fun p=>(p.1,ev' p.2)):=List.map_congr_left fun p hp=>by
   rw [h p.2 (by simp only [hop,Op.operands,List.mem_map];exact ⟨p,hp,rfl⟩)]
  rw [this]
 | buildSlice t n parts =>
  simp only [aop,hop]
  have:(parts.toList.map fun p=>(p.1,ev p.2))=(parts.toList.map fun p=>(p.1,ev' p.2)):=List.map_congr_left fun p hp=>by
   rw [h p.2 (by simp only [hop,Op.operands,List.mem_map];exact ⟨p,hp,rfl⟩)]
  rw [this]
 | load t a=>simp only [aop,hop];rw [h a (by simp [hop,Op.operands])]
 | store t a x=>simp only [aop,hop];rw [h a (by simp [hop,Op.operands]),h x (by simp [hop,Op.operands])]
 | nilCheck x=>simp only [aop,hop];rw [h x (by simp [hop,Op.operands])]
 | binOp op t x y yt=>simp only [aop,hop];rw [h x (by simp [hop,Op.operands]),h y (by simp [hop,Op.operands])]
 | unOp op t x=>simp only [aop,hop];rw [h x (by simp [hop,Op.operands])]
 | convert s t x=>simp only [aop,hop];rw [h x (by simp [hop,Op.operands])]
 | makeFunc f first cap =>
  simp only [aop,hop]
  rw [hm first.toList (fun x hx=>by simp [hop,Op.operands];left;simpa using hx),hm cap.toList (fun x hx=>by simp [hop,Op.operands];right;simpa using hx)]
 | makeSlice t l c=>simp only [aop,hop];rw [h l (by simp [hop,Op.operands]),h c (by simp [hop,Op.operands])]
 | slice t x lo hi mx =>
  simp only [aop,hop]
  have ho:∀ q:Option Operand,(∀ x,q=some x→x∈o.op.operands.toList)→q.map ev=q.map ev':=fun q hq=>by
   cases q with
   | none=>rfl
   | some x=>simp only [Option.map_some];rw [h x (hq x rfl)]
  rw [h x (by simp [hop,Op.operands]),ho lo (fun y hy=>by subst hy;simp [hop,Op.operands]),ho hi (fun y hy=>by subst hy;simp [hop,Op.operands]),ho mx (fun y hy=>by subst hy;simp [hop,Op.operands])]
 | sliceToArrayPointer t x=>simp only [aop,hop];rw [h x (by simp [hop,Op.operands])]
 | fieldAddr s x f=>simp only [aop,hop];rw [h x (by simp [hop,Op.operands])]
 | field s x f=>simp only [aop,hop];rw [h x (by simp [hop,Op.operands])]
 | indexAddr t x ix=>simp only [aop,hop];rw [h x (by simp [hop,Op.operands]),h ix (by simp [hop,Op.operands])]
 | index t x ix=>simp only [aop,hop];rw [h x (by simp [hop,Op.operands]),h ix (by simp [hop,Op.operands])]
 | extract x i=>simp only [aop,hop];rw [h x (by simp [hop,Op.operands])]
 | mapUpdate t m k x=>simp only [aop,hop];rw [h m (by simp [hop,Op.operands]),h k (by simp [hop,Op.operands]),h x (by simp [hop,Op.operands])]
 | insert t m k x=>simp only [aop,hop];rw [h m (by simp [hop,Op.operands]),h k (by simp [hop,Op.operands]),h x (by simp [hop,Op.operands])]
 | lookup t m k ok=>simp only [aop,hop];rw [h m (by simp [hop,Op.operands]),h k (by simp [hop,Op.operands])]
 | range t x=>simp only [aop,hop];rw [h x (by simp [hop,Op.operands])]
 | next x isS=>simp only [aop,hop];rw [h x (by simp [hop,Op.operands])]
 | entry x=>simp only [aop,hop];rw [h x (by simp [hop,Op.operands])]
 | call c =>
  obtain ⟨callee,args,ats⟩:=c
  cases callee with
  | builtin b =>
   simp only [aop,hop]
   rw [hm args.toList (fun x hx=>by simp [hop,Op.operands,Call.operands];simpa using hx)]
  | _=>simp only [aop,hop]
 | _=>simp only [aop,hop]
theorem Ep {p q:Rec→Bool} {tm:List (Nat×AV)} {t:Nat}:∀ (recs:List Rec),(∀ r,r∈recs→r.dst=some t→p r=q r)→look (Vg (recs.filter p)++tm) t=look (Vg (recs.filter q)++tm) t
 | [],_=>rfl
 | r::l,h=>by
  have ih:=Ep (p:=p) (q:=q) (tm:=tm) (t:=t) l (fun r' hr'=>h r' (List.mem_cons_of_mem _ hr'))
  have hc:∀ (f:Rec→Bool),(r::l).filter f=if f r then r::l.filter f else l.filter f:=fun f=>by simp [List.filter_cons]
  by_cases hd:r.dst=some t
  ·have:=h r List.mem_cons_self hd
   rw [hc,hc,this]
   split
   ·simp only [Vg,hd,List.cons_append,Qd]
   ·exact ih
  ·have key:∀ f:Rec→Bool,look (Vg ((r::l).filter f)++tm) t=look (Vg (l.filter f)++tm) t:=by
    intro f
    rw [hc]
    split
    ·simp only [Vg]
     split
     ·rename_i u hu
      rw [List.cons_append,Qa]
      intro e;subst e;exact hd hu
     ·rfl
    ·rfl
   rw [key,key,ih]
theorem YL {p q:Rec→Bool} {hp:List (Nat×Blk)} {b:Nat}:∀ (recs:List Rec),(∀ r,r∈recs→look r.up b≠none→p r=q r)→look (ZJ (recs.filter p)++hp) b=look (ZJ (recs.filter q)++hp) b
 | [],_=>rfl
 | r::l,h=>by
  have ih:=YL (p:=p) (q:=q) (hp:=hp) (b:=b) l (fun r' hr'=>h r' (List.mem_cons_of_mem _ hr'))
  have hc:∀ (f:Rec→Bool),(r::l).filter f=if f r then r::l.filter f else l.filter f:=fun f=>by simp [List.filter_cons]
  cases hu:look r.up b with
  | some k =>
   have:=h r List.mem_cons_self (by rw [hu];simp)
   rw [hc,hc,this]
   split
   ·simp only [ZJ,List.append_assoc];rw [Zw r.up,Zw r.up,hu]
   ·exact ih
  | none =>
   have key:∀ f:Rec→Bool,look (ZJ ((r::l).filter f)++hp) b=look (ZJ (l.filter f)++hp) b:=by
    intro f
    rw [hc]
    split
    ·simp only [ZJ,List.append_assoc];rw [Zw,hu]
    ·rfl
   rw [key,key,ih]
theorem Vh {p:Rec→Bool} {hp:List (Nat×Blk)} {b:Nat} {k:Blk}:∀ (recs:List Rec),look (ZJ (recs.filter p)++hp) b=some k→(∃ r,r∈recs∧p r=true∧look r.up b≠none) ∨ look hp b=some k
 | [],h=>.inr h
 | r::l,h=>by
  rw [List.filter_cons] at h
  split at h
  ·rename_i hp'
   simp only [ZJ,List.append_assoc] at h
   rw [Zw] at h
   cases hu:look r.up b with
   | some k'=>exact .inl ⟨r,List.mem_cons_self,hp',by rw [hu];simp⟩
   | none =>
    rw [hu] at h
    rcases Vh l h with ⟨r',h1,h2,h3⟩ | h
    ·exact .inl ⟨r',List.mem_cons_of_mem _ h1,h2,h3⟩
    ·exact .inr h
  ·rcases Vh l h with ⟨r',h1,h2,h3⟩ | h
   ·exact .inl ⟨r',List.mem_cons_of_mem _ h1,h2,h3⟩
   ·exact .inr h
theorem Yp (mask:Nat):∀ (recs:List Rec),Uh mask recs=recs.filter fun r=>mask.testBit r.i
 | []=>rfl
 | r::l=>by
  simp only [Uh,List.filter_cons]
  rw [Yp mask l]
  cases mask.testBit r.i <;> rfl
end
end Go.SX
