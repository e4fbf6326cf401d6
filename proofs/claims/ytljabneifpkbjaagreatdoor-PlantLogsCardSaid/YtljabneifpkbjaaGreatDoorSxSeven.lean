/- More operations: literals, fields, indexes, slices. -/
import Derived.Test.YtljabneifpkbjaaGreatDoorSxSix
namespace Go.SX
section
variable {cx:Cx} {F:Nat→Prop} {hp:List (Nat×Blk)} {ρ:Nat→Value} {w:World} {re:Operand→Value} {ev:Operand→AV} {sym:Bool} {orc:List Orc} {r:R}
theorem HSim.alloc (h:HSim cx F hp ρ w) (o:Obj):HSim cx F hp ρ (w.alloc o)∧Steps1 hp ρ w hp ρ (w.alloc o):=by
 have hst:Steps1 hp ρ w hp ρ (w.alloc o):=⟨Ext.alloc _ _ _,fun _ _ h=>h,Grows.refl _ _⟩
 refine ⟨h.step hst (fun b k hk=>.inl ⟨hk,rfl,fun hm r hr=>?_⟩) h.inj h.forb,hst⟩
 have:=(h.blk b k hk).root_lt hm hr
 show (w.heap.push _)[r]?=_
 rw [Array.getElem?_push,jFj (by omega)]
theorem HSim.drew (h:HSim cx F hp ρ w):HSim cx F hp ρ w.drew∧Steps1 hp ρ w hp ρ w.drew:=by
 have hst:Steps1 hp ρ w hp ρ w.drew:=⟨Ext.drew _ _,fun _ _ h=>h,Grows.refl _ _⟩
 exact ⟨h.step hst (fun b k hk=>.inl ⟨hk,rfl,fun _ _ _=>rfl⟩) h.inj h.forb,hst⟩
theorem ug (c:Array Value) (o:Nat) (vs:List Value):∀ n,(vs.zipIdx n).foldl (fun (cs:Array Value) (p:Value×Nat)=>cs.setIfInBounds (o+p.2) p.1) c=Uz c (o+n) vs:=by
 induction vs generalizing c with
 | nil=>intro n;rfl
 | cons v vs ih =>
  intro n
  simp only [List.zipIdx_cons,List.foldl_cons,Uz]
  rw [ih]
  rfl
theorem qR (c:Array Value) (o:Nat) (v:Value) :
  (v.cells.zipIdx.foldl (fun (cs:Array Value) (p:Value×Nat)=>cs.setIfInBounds (o+p.2) p.1) c)=Uz c o v.cells.toList:=by
 rw [← Array.foldl_toList,Array.toList_zipIdx,ug];rfl
theorem wY {M:Nat→Prop} {place:Nat→Option (Nat×Nat)}:∀ (parts:List (Nat×AV)) (vs:List (Nat×Value)) (cs cs' : List AV) (C:Array Value),kI place cs parts=some cs' →
  vs.map (·.1)=parts.map (·.1)→(∀ (i:Nat) p q,parts[i]?=some p→vs[i]?=some q→VR w M hp ρ p.2 q.2) →
  cs.length=C.size→(∀ (j:Nat) (a:AV) (y:Value),cs[j]?=some a→C[j]?=some y→VR w M hp ρ a y) →
  ∃ C',Instr.fill place C vs=some C'∧cs'.length=C'.size∧∀ (j:Nat) (a:AV) (y:Value),cs'[j]?=some a→C'[j]?=some y→VR w M hp ρ a y:=by
 intro parts
 induction parts with
 | nil =>
  intro vs cs cs' C hf hm _ hl hc
  simp only [kI,jIj] at hf;subst hf
  cases vs with
  | nil=>exact ⟨C,rfl,hl,hc⟩
  | cons _ _=>simp at hm
 | cons p parts ih =>
  intro vs cs cs' C hf hm hv hl hc
  obtain ⟨i,x⟩:=p
  cases vs with
  | nil=>simp at hm
  | cons q vs =>
   obtain ⟨i',v⟩:=q
   simp only [jCj,List.cons.injEq] at hm
   obtain ⟨hi,hm⟩:=hm
   subst hi
   simp only [kI] at hf
   split at hf
   case h_2=>cases hf
   rename_i off size ys hpl hys
   split at hf
   case h_2=>cases hf
   rename_i hb
   simp only [jAj] at hb
   have h1:=ZZ hb.1
   have h2:=Nat.le_of_ble_eq_true hb.2
   have hxv:=hv 0 _ _ rfl rfl
   simp only at hxv
   obtain ⟨y1,y2,y3⟩:=VM hys hxv
   have hlen:v.cells.toList.length=ys.length:=by rw [Array.length_toList];exact y1
   obtain ⟨C',g1,g2,g3⟩:=ih vs _ cs' (Uz C off v.cells.toList) hf hm (fun k p q hp' hq=>hv (k+1) p q (by simpa using hp') (by simpa using hq))
    (by simp only [List.length_append,List.length_take,List.length_drop,Yk];omega)
    (fun j a y hj hy=>by
     rw [Vz _ _ _ (by omega)] at hy
     by_cases hr:off≤j∧j < off+v.cells.toList.length
     ·rw [jTj hr,Array.getElem?_toList] at hy
      rw [List.getElem?_append_left (by simp;omega),List.getElem?_append_right (by simp;omega)] at hj
      have:j - (cs.take off).length=j - off:=by simp;omega
      rw [this] at hj
      obtain ⟨p,p1,p2⟩:=y3 _ _ hj
      rw [hy] at p1;cases p1;exact p2
     ·rw [jFj hr] at hy
      by_cases hj2:j < off
      ·rw [List.append_assoc,List.getElem?_append_left (by simp;omega),List.getElem?_take,jTj hj2] at hj
       exact hc _ _ _ hj hy
      ·rw [List.getElem?_append_right (by simp;omega),List.getElem?_drop] at hj
       have:off+ys.length+(j - (cs.take off++ys).length)=j:=by simp;omega
       rw [this] at hj
       exact hc _ _ _ hj hy)
   refine ⟨C',?_,g2,g3⟩
   simp only [Instr.fill,hpl]
   rw [jFj (by simp only [ne_eq,Bool.or_eq_true,decide_eq_true_eq,not_or];omega)]
   rw [qR]
   exact g1
theorem uL {cx:Cx} {w:World}:∀ (l:List Field) (pl:List (Nat×Nat)),U1 cx l=some pl →
  (l.mapM fun (f:Field)=>do pure (f.offset,← sizeOf f.type):Sem (List (Nat×Nat))).run cx.P w=.ok pl w:=by
 intro l
 induction l with
 | nil=>intro pl h;simp only [U1,jIj] at h;subst h;simp
 | cons f l ih =>
  intro pl h
  simp only [U1] at h
  split at h
  case h_2=>cases h
  rename_i s r hs hr
  simp only [jIj] at h;subst h
  simp only [List.mapM_cons,Sem.run_bind,Zc hs,Result.andThen_ok,Sem.run_pure,ih r hr]
theorem EZ (z:Value):(KP z).cells=[KP z]:=by
 cases z with
 | slice a n c =>
  cases a with
  | none=>simp only [KP];split <;> rfl
  | some a=>rfl
 | func f a b=>simp only [KP];split <;> rfl
 | _=>rfl
theorem Qbf {z:Value} (h:∀ c,z≠.agg c):ofV z=KP z∧z.cells=#[z]:=by
 cases z <;> first | exact ⟨rfl,rfl⟩ | exact absurd rfl (h _)
theorem KO (z:Value):∀ (j:Nat) (a:AV) (y:Value),((ofV z).cells.map AV.d)[j]?=some a→z.cells[j]?=some y→VR w (MM F hp ρ) hp ρ a y:=by
 intro j a y hj hy
 by_cases h:∃ c,z=.agg c
 ·obtain ⟨c,rfl⟩:=h
  simp only [ofV,D.cells,List.map_map,List.getElem?_map] at hj
  simp only [Value.cells] at hy
  rw [Array.getElem?_toList,hy] at hj
  simp only [Option.map_some,Function.comp_apply,jIj] at hj;subst hj
  exact .d _ _ (XM _ _ _)
 ·obtain ⟨h1,h2⟩:=Qbf (z:=z) fun c hc=>h ⟨c,hc⟩
  rw [h1,EZ] at hj
  rw [h2] at hy
  cases j with
  | zero=>simp at hj hy;subst hj;subst hy;exact .d _ _ (XM _ _ _)
  | succ j=>simp at hj
theorem Jy (z:Value):((ofV z).cells.map AV.d).length=z.cells.size:=by
 by_cases h:∃ c,z=.agg c
 ·obtain ⟨c,rfl⟩:=h;simp [ofV,D.cells,Value.cells]
 ·obtain ⟨h1,h2⟩:=Qbf (z:=z) fun c hc=>h ⟨c,hc⟩
  rw [h1,EZ,h2];simp
theorem Qa0 {M:Nat→Prop} {cs:List AV} {C:Array Value} (hl:cs.length=C.size) (hc:∀ (j:Nat) (a:AV) (y:Value),cs[j]?=some a→C[j]?=some y→VR w M hp ρ a y) :
  VR w M hp ρ (AV.norm (.agg cs)) (.agg C):=by
 have:=VR.agg (w:=w) (M:=M) (hp:=hp) (ρ:=ρ) cs C.toList (by simpa using hl) (fun i c y hi hy=>hc i c y hi (by simpa using hy))
 rw [Array.toArray_toList] at this
 exact Yn this
theorem wD {M:Nat→Prop} (hev:∀ x,VR w M hp ρ (ev x) (re x)) (parts:List (Nat×Operand)) :
  (parts.map fun p=>(p.1,re p.2)).map (·.1)=(parts.map fun p=>(p.1,ev p.2)).map (·.1) ∧
  ∀ (i:Nat) p q,(parts.map fun p=>(p.1,ev p.2))[i]?=some p→(parts.map fun p=>(p.1,re p.2))[i]?=some q→VR w M hp ρ p.2 q.2:=by
 refine ⟨by simp [List.map_map,Function.comp_def],fun i p q hp' hq=>?_⟩
 simp only [List.getElem?_map] at hp' hq
 cases hx:parts[i]? with
 | none=>rw [hx] at hp';cases hp'
 | some x =>
  rw [hx] at hp' hq
  simp only [Option.map_some,jIj] at hp' hq
  subst hp';subst hq
  exact hev x.2
theorem Qaf (hev:∀ x,VR w (MM F hp ρ) hp ρ (ev x) (re x)) {t:TypeId} {parts:Array (Nat×Operand)} {y:AV}
  (hr:Qa4 cx t (parts.toList.map fun p=>(p.1,ev p.2))=some y) :
  ∃ v,(Instr.build t (parts.map fun (i,x)=>(i,re x))).run cx.P w=.ok v w∧VR w (MM F hp ρ) hp ρ y v:=by
 unfold Qa4 at hr
 split at hr
 ·cases hr
 rename_i z hz
 obtain ⟨p1,p2⟩:=wD hev parts.toList
 have hpt:(parts.map fun (p:Nat×Operand)=>(p.1,re p.2)).toList=parts.toList.map fun p=>(p.1,re p.2):=by simp
 split at hr
 ·rename_i fields hu
  split at hr
  case h_2=>cases hr
  rename_i pl hpl
  split at hr
  case h_2=>cases hr
  rename_i cs hcs
  simp only [jIj] at hr;subst hr
  obtain ⟨C',g1,g2,g3⟩:=wY (C:=z.cells) _ _ _ _ hcs p1 p2 (Jy z) (KO z)
  refine ⟨.agg C',?_,Qa0 g2 g3⟩
  have hpl' : (fields.mapM fun (f:Field)=>do pure (f.offset,← sizeOf f.type):Sem (Array (Nat×Nat))).run cx.P w=.ok pl.toArray w:=by
   rw [Array.mapM_eq_mapM_toList]
   simp only [Sem.run_map,uL fields.toList pl hpl,Result.andThen_ok]
  simp only [Instr.build,Sem.run_bind,Y4 hz,Result.andThen_ok,Qn hu,hpl']
  have hpf:(fun i=>pl.toArray[i]?)=nth pl:=by funext i;rw [ZR];simp
  rw [hpt,hpf,g1]
  rfl
 ·rename_i n elem hu
  split at hr
  case h_2=>cases hr
  rename_i s hs
  split at hr
  case h_2=>cases hr
  rename_i cs hcs
  simp only [jIj] at hr;subst hr
  obtain ⟨C',g1,g2,g3⟩:=wY (C:=z.cells) _ _ _ _ hcs p1 p2 (Jy z) (KO z)
  refine ⟨.agg C',?_,Qa0 g2 g3⟩
  simp only [Instr.build,Sem.run_bind,Y4 hz,Result.andThen_ok,Qn hu,Zc hs]
  rw [hpt,g1]
  rfl
 ·cases hr
theorem wL (h:HSim cx F hp ρ w) (fz:List Nat) {s:Nat}:∀ (parts:List (Nat×AV)) (vs:List (Nat×Value)) (n:Nat) (es:jVj) (fs:List Nat) (C:Array Value),YB hp s n parts=some (es,fs) →
  (∀ b,b∈fs→b∈fz)→vs.map (·.1)=parts.map (·.1)→(∀ (i:Nat) p q,parts[i]?=some p→vs[i]?=some q→VR w (MM F hp ρ) hp ρ p.2 q.2) →
  (n+parts.length) * s≤C.size →
  ∃ C',Instr.fill (fun i=>some (i * s,s)) C vs=some C'∧C'.size=C.size∧(∀ k,k < n * s→C'[k]?=C[k]?)∧es.length=parts.length ∧
   ∀ (i:Nat) (e:D),es[i]?=some e→e.cells.length=s∧∀ (j:Nat) (a:D),e.cells[j]?=some a→∃ y,C'[(n+i) * s+j]?=some y∧one y=true∧DR w (MM F (Qe hp fz++hp) ρ) a y:=by
 intro parts
 induction parts with
 | nil =>
  intro vs n es fs C hf _ hm _ _
  simp only [YB,jIj,jPj] at hf;obtain ⟨rfl,rfl⟩:=hf
  cases vs with
  | nil=>exact ⟨C,rfl,rfl,fun _ _=>rfl,rfl,fun i e he=>by simp at he⟩
  | cons _ _=>simp at hm
 | cons p parts ih =>
  intro vs n es fs C hf hfz hm hv hC
  obtain ⟨i,x⟩:=p
  cases vs with
  | nil=>simp at hm
  | cons q vs =>
   obtain ⟨i',v⟩:=q
   simp only [jCj,List.cons.injEq] at hm
   obtain ⟨hi,hm⟩:=hm
   subst hi
   simp only [YB] at hf
   split at hf
   case h_2=>cases hf
   rename_i cs y f1 ys f2 hcs hy hys
   split at hf
   case h_2=>cases hf
   rename_i zs hb hzs
   split at hf
   case h_2=>cases hf
   rename_i hzl
   simp only [jIj,jPj] at hf;obtain ⟨rfl,rfl⟩:=hf
   simp only [jAj] at hb
   have h1:=ZZ hb.1
   have h2:=ZZ hb.2
   have h3:=ZZ hzl
   have hxv:=hv 0 _ _ rfl rfl
   simp only at hxv
   obtain ⟨y1,y2,y3⟩:=VM hcs hxv
   have hlen:v.cells.toList.length=s:=by rw [Array.length_toList];omega
   simp only [List.length_cons] at hC
   have hns:n * s+s≤C.size:=by
    have:(n+1) * s≤(n+(parts.length+1)) * s:=Nat.mul_le_mul_right _ (by omega)
    rw [Nat.add_mul,Nat.one_mul] at this;omega
   obtain ⟨C',g1,g2,g3,g4,g5⟩:=ih vs (n+1) ys f2 (Uz C (n * s) v.cells.toList) hys (fun b hb=>hfz b (List.mem_append.2 (.inr hb))) hm
    (fun k p q hp' hq=>hv (k+1) p q (by simpa using hp') (by simpa using hq)) (by rw [Yk,show n+1+parts.length=n+(parts.length+1) from by omega];exact hC)
   have hdr:=Wu h fz x v y f1 hy (fun b hb=>hfz b (List.mem_append.2 (.inl hb))) hxv
   refine ⟨C',?_,by rw [g2,Yk],fun k hk=>?_,by simp [g4],fun i e he=>?_⟩
   ·simp only [Instr.fill,h1]
    rw [jFj (by simp only [ne_eq,Bool.or_eq_true,decide_eq_true_eq,not_or];omega),qR]
    exact g1
   ·have hk1:k < (n+1) * s:=by rw [Nat.add_mul,Nat.one_mul];omega
    rw [g3 k hk1,Vz _ _ _ (by omega),jFj (by omega)]
   ·cases i with
    | zero =>
     simp only [List.getElem?_cons_zero,jIj] at he;subst he
     have hcd:=UN hzs
     refine ⟨by subst hcd;simpa using h3,fun j a ha=>?_⟩
     have hjl:j < s:=by
      have:=(jGj ha).1
      subst hcd;simp at h3;omega
     have hcv:=VM (w:=w) (M:=MM F (Qe hp fz++hp) ρ) (hp:=hp) (ρ:=ρ) hzs (.d _ _ hdr)
     have hja:zs[j]?=some (.d a):=by subst hcd;simp [ha]
     obtain ⟨q,q1,q2⟩:=hcv.2.2 j (.d a) hja
     have hone:=UY (VF hcv.2.1 hja) q2
     cases q2
     rename_i q2
     refine ⟨q,?_,hone,q2⟩
     rw [Nat.add_zero,g3 _ (by rw [Nat.add_mul,Nat.one_mul];omega),Vz _ _ _ (by omega),jTj (by omega),Array.getElem?_toList,← q1]
     congr 1;omega
    | succ i =>
     obtain ⟨q1,q2⟩:=g5 i e (by simpa using he)
     refine ⟨q1,fun j a ha=>?_⟩
     rw [show n+(i+1)=n+1+i from by omega]
     exact q2 j a ha
theorem qW (h:HSim cx F hp ρ w) (hev:∀ x,VR w (MM F hp ρ) hp ρ (ev x) (re x)) {t elem:TypeId} {len s:Nat} {z:Value} {parts:Array (Nat×Operand)} {es:jVj} {fs:List Nat}
  (hu:cx.P.underlying t=some (.slice elem)) (hs:cx.sz elem=some s) (hz:cx.zero elem=some z) (hl:YB hp s 0 (parts.toList.map fun p=>(p.1,ev p.2))=some (es,fs))
  (hle:len * s≤16777216) (hlen:parts.toList.length=len) :
  ∃ v w',(Instr.buildSlice t len (parts.map fun (i,x)=>(i,re x))).run cx.P w=.ok v w'∧OpOK cx F hp ρ w (Qe hp fs) (.d (.lst true s es)) v w':=by
 obtain ⟨p1,p2⟩:=wD hev parts.toList
 have hpt:(parts.map fun (p:Nat×Operand)=>(p.1,re p.2)).toList=parts.toList.map fun p=>(p.1,re p.2):=by simp
 let zc:Array Value:=if len * s=0 then #[] else z.cells
 obtain ⟨C',g1,g2,g3,g4,g5⟩:=wL h fs _ _ 0 es fs ((Array.range (len * s)).map (zc[· % zc.size]!)) hl (fun _ h=>h) p1 p2 (by simp [hlen])
 refine ⟨.slice (some ⟨w.heap.size,0,none⟩) len len,w.alloc (.cells C' elem),?_,?_⟩
 ·simp only [Instr.buildSlice,Sem.run_bind,Qn hu,Result.andThen_ok,Zc hs]
  rw [jFj (by omega)]
  by_cases h0:len * s=0
  ·have hz0:zc=#[]:=by simp [zc,h0]
   rw [hz0] at g1
   rw [jTj h0]
   simp only [Sem.run_bind,Sem.run_pure,Result.andThen_ok]
   rw [hpt,g1]
   simp only [newRow,Sem.run_bind,run_newObj,Result.andThen_ok,Sem.run_pure,World.alloc_eq]
  ·have hz0:zc=z.cells:=by simp [zc,h0]
   rw [hz0] at g1
   rw [jFj h0]
   simp only [Sem.run_bind,Sem.run_pure,Y4 hz,Result.andThen_ok]
   rw [hpt,g1]
   simp only [newRow,Sem.run_bind,run_newObj,Result.andThen_ok,Sem.run_pure,World.alloc_eq]
 ·obtain ⟨k1,k2⟩:=h.freeze fs
  obtain ⟨k3,k4⟩:=k1.alloc (.cells C' elem)
  refine ⟨ρ,k3,k2.trans k4,.d _ _ ?_⟩
  have hel:es.length=len:=by rw [g4];simpa using hlen
  have hM:¬ MM F (Qe hp fs++hp) ρ w.heap.size:=by
   rintro (hF | hM)
   ·have:=h.bnd _ hF;omega
   ·have:=k1.mut_lt hM;omega
  have key:=DR.lst (w:=w.alloc (.cells C' elem)) (M:=MM F (Qe hp fs++hp) ρ) true s es (some ⟨w.heap.size,0,none⟩) es.length w.heap.size 0 (fun n=>C'.getD n undef)
   (fun _=>rfl) (jLj _) (fun _=>⟨rfl,hM,by simp⟩) (fun i e he=>(g5 i e he).1)
   (fun i e j a he ha=>by
    obtain ⟨y,y1,yo,_⟩:=(g5 i e he).2 j a ha
    rw [Nat.zero_add] at y1 ⊢
    have hy:C'.getD (i * s+j) undef=y:=by simp [Array.getD_eq_getD_getElem?,y1]
    rw [YD (WJ _ _),hy]
    exact ⟨y1,yo⟩)
   (fun i e j a he ha=>by
    obtain ⟨y,y1,_,y2⟩:=(g5 i e he).2 j a ha
    rw [Nat.zero_add] at y1
    have:C'.getD (i * s+j) undef=y:=by simp [Array.getD_eq_getD_getElem?,y1]
    rw [this]
    exact k4.dr y2)
  rw [hel] at key
  exact key
theorem KN {M:Nat→Prop}:∀ (ps:List (Nat×AV)) (vs:List (Nat×Value)) (i:Nat) (xs:List AV) (C:Array Value),US i ps=some xs→vs.map (·.1)=ps.map (·.1) →
  (∀ (k:Nat) p q,ps[k]?=some p→vs[k]?=some q→VR w M hp ρ p.2 q.2)→i+ps.length≤C.size →
  ∃ ys:List Value,Instr.fill (fun k=>some (k * 1,1)) C vs=some (Uz C i ys)∧ys.length=xs.length∧W5 xs=true∧xs.length=ps.length∧∀ (j:Nat) (c:AV) (y:Value),xs[j]?=some c→ys[j]?=some y→VR w M hp ρ c y
 | [],vs,i,xs,C,h,hm,_,_=>by
  simp only [US,jIj] at h;subst h
  cases vs with
  | nil=>exact ⟨[],rfl,rfl,rfl,rfl,fun j c y hc=>by simp at hc⟩
  | cons _ _=>simp at hm
 | (j,x)::ps,vs,i,xs,C,h,hm,hv,hC=>by
  cases vs with
  | nil=>simp at hm
  | cons q vs =>
   obtain ⟨j',v⟩:=q
   simp only [jCj,List.cons.injEq] at hm
   obtain ⟨hj,hm⟩:=hm
   subst hj
   cases x with
   | ptr b vr s k o =>
    simp only [US] at h
    split at h
    case h_2=>cases h
    rename_i zs hb hzs
    simp only [jIj] at h;subst h
    have hij:=ZZ hb
    subst hij
    have hx:=hv 0 _ _ rfl rfl
    simp only at hx
    have ho:one v=true:=UY (x:=.ptr b vr s k o) rfl hx
    have hcl:=(Ym ho).1
    simp only [List.length_cons] at hC
    obtain ⟨ys,g1,g2,g3,g4,g5⟩:=KN ps vs (i+1) zs (C.setIfInBounds i v) hzs hm (fun k p q hp' hq=>hv (k+1) p q (by simpa using hp') (by simpa using hq)) (by simp;omega)
    refine ⟨v::ys,?_,by simp [g2],by simp [W5,g3,AV.isOne],by simp [g4],fun j c y hc hy=>?_⟩
    ·simp only [Instr.fill,Nat.mul_one]
     rw [hcl,jFj (by simp;omega)]
     have:((#[v]:Array Value).zipIdx.foldl (fun (cs:Array Value) (p:Value×Nat)=>cs.setIfInBounds (i+p.2) p.1) C)=C.setIfInBounds i v:=by
      have:=qR C i v
      rw [hcl] at this
      rw [this];rfl
     simp only [Nat.mul_one] at g1
     rw [show ((#[v]:Array Value).zipIdx.foldl (fun cs (x:Value×Nat)=>match x with | (c,j)=>cs.setIfInBounds (i+j) c) C)=C.setIfInBounds i v from this]
     exact g1
    ·cases j with
     | zero =>
      simp only [List.getElem?_cons_zero,jIj] at hc hy
      subst hc;subst hy;exact hx
     | succ j=>exact g5 j c y (by simpa using hc) (by simpa using hy)
   | _=>simp [US] at h
theorem yr (h:HSim cx F hp ρ w) (hev:∀ x,VR w (MM F hp ρ) hp ρ (ev x) (re x)) {t:TypeId} {len name:Nat} {parts:Array (Nat×Operand)} {xs:List AV} {orc:List Orc} {r:R}
  (hx:US 0 (parts.toList.map fun p=>(p.1,ev p.2))=some xs) (hr:yu cx hp name t len xs orc=some r) :
  ∃ v w',(Instr.buildSlice t len (parts.map fun (i,x)=>(i,re x))).run cx.P w=.ok v w'∧OpOK cx F hp ρ w r.up r.val v w':=by
 unfold yu at hr
 split at hr
 case h_2=>cases hr
 rename_i elem hu hn
 split at hr
 case h_2=>cases hr
 rename_i s z hs hz
 split at hr
 case h_2=>cases hr
 rename_i hc
 simp only [jAj] at hc
 simp only [jIj] at hr;subst hr
 have hs1:=ZZ hc.1.1
 subst hs1
 have hle:=Nat.le_of_ble_eq_true hc.1.2
 have hlen:=ZZ hc.2
 obtain ⟨p1,p2⟩:=wD hev parts.toList
 have hpt:(parts.map fun (p:Nat×Operand)=>(p.1,re p.2)).toList=parts.toList.map fun p=>(p.1,re p.2):=by simp
 let zc:Array Value:=if len * 1=0 then #[] else z.cells
 have hpl:xs.length=parts.toList.length:=by
  have:=(KN (w:=w) (M:=MM F hp ρ) (hp:=hp) (ρ:=ρ) _ _ 0 xs ((Array.range parts.toList.length).map (zc[· % zc.size]!)) hx p1 p2 (by simp))
  obtain ⟨_,_,_,_,g4,_⟩:=this
  simpa using g4
 obtain ⟨ys,g1,g2,g3,g4,g5⟩:=KN _ _ 0 xs ((Array.range (len * 1)).map (zc[· % zc.size]!)) hx p1 p2 (by simp;simp at hpl;omega)
 have hfull:Uz ((Array.range (len * 1)).map (zc[· % zc.size]!)) 0 ys=ys.toArray:=qH _ _ (by simp;omega)
 rw [hfull] at g1
 have hcells:AV.cells (.agg xs)=some xs:=by simp only [AV.cells,g3]
 have hbox:=GH h hn (x:=.agg xs) (v:=.agg ys.toArray) hcells (.agg xs ys g2.symm g5) elem
 refine ⟨.slice (some ⟨w.heap.size,0,none⟩) len len,w.alloc (.cells ys.toArray elem),?_,?_⟩
 ·simp only [Instr.buildSlice,Sem.run_bind,Qn hu,Result.andThen_ok,Zc hs]
  rw [jFj (by omega)]
  by_cases h0:len * 1=0
  ·have hz0:zc=#[]:=by simp only [zc,h0,if_true]
   rw [hz0] at g1
   rw [jTj h0]
   simp only [Sem.run_bind,Sem.run_pure,Result.andThen_ok]
   rw [hpt,g1]
   simp only [newRow,Sem.run_bind,run_newObj,Result.andThen_ok,Sem.run_pure,World.alloc_eq]
  ·have hz0:zc=z.cells:=by simp only [zc,h0,if_false]
   rw [hz0] at g1
   rw [jFj h0]
   simp only [Sem.run_bind,Sem.run_pure,Y4 hz,Result.andThen_ok]
   rw [hpt,g1]
   simp only [newRow,Sem.run_bind,run_newObj,Result.andThen_ok,Sem.run_pure,World.alloc_eq]
 ·obtain ⟨ρ',k1,k2,k3⟩:=hbox
  refine ⟨ρ',k1,k2,?_⟩
  cases k3 with
  | ptr _ _ _ _ _ k _ hb hv ho hh =>
   have hb' : look ([(name,Blk.box (.agg xs))]++hp) name=some (.box (.agg xs)):=Qd _ _ _
   rw [hb'] at hb;cases hb
   obtain ⟨r0,hr0,hy⟩:=hh rfl
   simp only [Value.pointer.injEq,jIj,Addr.mk.injEq] at hy
   refine .sub name 0 1 0 len (.box (.agg xs)) _ hb' (jLj _) rfl fun _=>⟨r0,len,hr0,?_⟩
   rw [← hy.1]
end
end Go.SX
