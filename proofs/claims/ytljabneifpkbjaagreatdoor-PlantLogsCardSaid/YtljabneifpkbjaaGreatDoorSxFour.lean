/- Values read as data; freezing; what an operation must show. -/
import Derived.Test.YtljabneifpkbjaaGreatDoorSxThree
namespace Go.SX
mutual
theorem jV (w:World) (M:Nat→Prop):∀ (x:D) (v v' : Value),x.toV=some v'→DR w M x v→v=v'
 | .v x,v,v',h,hr=>by
  simp only [D.toV,jIj] at h;subst h;cases hr;rfl
 | .agg cs,v,v',h,hr=>by
  simp only [D.toV] at h
  split at h <;> simp only [jIj,reduceCtorEq] at h
  rename_i l hl;subst h
  cases hr with
  | agg _ ys hle hh=>rw [Eo w M cs ys l hl hle hh]
 | .tup cs,v,v',h,hr=>by
  simp only [D.toV] at h
  split at h <;> simp only [jIj,reduceCtorEq] at h
  rename_i l hl;subst h
  cases hr with
  | tup _ ys hle hh=>rw [Eo w M cs ys l hl hle hh]
 | .lst _ _ _,v,v',h,hr=>by simp [D.toV] at h
 | .fn _ _ _,v,v',h,hr=>by simp [D.toV] at h
theorem Eo (w:World) (M:Nat→Prop):∀ (cs:jVj) (ys l:List Value),toVs cs=some l→cs.length=ys.length →
  (∀ (i:Nat) (c:D) (y:Value),cs[i]?=some c→ys[i]?=some y→DR w M c y)→ys=l
 | [],ys,l,h,hl,_=>by
  simp only [toVs,jIj] at h;subst h;cases ys <;> simp_all
 | x::cs,ys,l,h,hl,hh=>by
  simp only [toVs] at h
  split at h <;> simp only [jIj,reduceCtorEq] at h
  rename_i y1 l1 h1 h2;subst h
  cases ys with
  | nil=>simp at hl
  | cons y ys =>
   rw [jV w M x y y1 h1 (hh 0 x y rfl rfl),Eo w M cs ys l1 h2 (by simpa using hl) (fun i c z hc hz=>hh (i+1) c z (by simpa using hc) (by simpa using hz))]
end
mutual
theorem Uy (w:World) (M:Nat→Prop) (hp:List (Nat×Blk)) (ρ:Nat→Value):∀ (x:AV) (v:Value) (y:D),x.toD=some y→VR w M hp ρ x v→DR w M y v
 | .d x,v,y,h,hr=>by
  simp only [AV.toD,jIj] at h;subst h;cases hr;assumption
 | .agg cs,v,y,h,hr=>by
  simp only [AV.toD] at h
  split at h <;> simp only [jIj,reduceCtorEq] at h
  rename_i l hl;subst h
  cases hr with
  | agg _ ys hle hh =>
   obtain ⟨h1,h2⟩:=KI w M hp ρ cs ys l hl hle hh
   exact .agg _ _ h1 h2
 | .tup cs,v,y,h,hr=>by
  simp only [AV.toD] at h
  split at h <;> simp only [jIj,reduceCtorEq] at h
  rename_i l hl;subst h
  cases hr with
  | tup _ ys hle hh =>
   obtain ⟨h1,h2⟩:=KI w M hp ρ cs ys l hl hle hh
   exact .tup _ _ h1 h2
 | .fn f a b,v,y,h,hr=>by
  simp only [AV.toD] at h
  split at h <;> simp only [jIj,reduceCtorEq] at h
  rename_i x1 y1 hx hy;subst h
  cases hr with
  | fn _ _ _ xs ys hl hm hh kk =>
   obtain ⟨h1,h2⟩:=KI w M hp ρ a xs x1 hx hl hh
   obtain ⟨h3,h4⟩:=KI w M hp ρ b ys y1 hy hm kk
   exact .fn _ _ _ _ _ h1 h3 h2 h4
 | .dptr _ _,v,y,h,hr=>by simp [AV.toD] at h
 | .ptr _ _ _ _ _,v,y,h,hr=>by simp [AV.toD] at h
 | .own _ _,v,y,h,hr=>by simp [AV.toD] at h
 | .sub _ _ _ _ _,v,y,h,hr=>by simp [AV.toD] at h
 | .junk,v,y,h,hr=>by simp [AV.toD] at h
theorem KI (w:World) (M:Nat→Prop) (hp:List (Nat×Blk)) (ρ:Nat→Value):∀ (cs:List AV) (ys:List Value) (l:jVj),Kk cs=some l→cs.length=ys.length →
  (∀ (i:Nat) (c:AV) (y:Value),cs[i]?=some c→ys[i]?=some y→VR w M hp ρ c y) →
  l.length=ys.length∧∀ (i:Nat) (c:D) (y:Value),l[i]?=some c→ys[i]?=some y→DR w M c y
 | [],ys,l,h,hl,_=>by
  simp only [Kk,jIj] at h;subst h;cases ys <;> simp_all
 | x::cs,ys,l,h,hl,hh=>by
  simp only [Kk] at h
  split at h <;> simp only [jIj,reduceCtorEq] at h
  rename_i y1 l1 h1 h2;subst h
  cases ys with
  | nil=>simp at hl
  | cons y ys =>
   obtain ⟨g1,g2⟩:=KI w M hp ρ cs ys l1 h2 (by simpa using hl) (fun i c z hc hz=>hh (i+1) c z (by simpa using hc) (by simpa using hz))
   refine ⟨by simpa using g1,fun i c z hc hz=>?_⟩
   cases i with
   | zero=>simp only [List.getElem?_cons_zero,jIj] at hc hz;subst hc;subst hz;exact Uy w M hp ρ x y y1 h1 (hh 0 x y rfl rfl)
   | succ i=>exact g2 i c z (by simpa using hc) (by simpa using hz)
end
theorem Yn {w:World} {M:Nat→Prop} {hp:List (Nat×Blk)} {ρ:Nat→Value} {x:AV} {v:Value} (h:VR w M hp ρ x v):VR w M hp ρ x.norm v:=by
 unfold AV.norm
 split
 ·rename_i y hy;exact .d _ _ (Uy w M hp ρ x v y hy h)
 ·exact h
theorem KH {w:World} {M:Nat→Prop} {hp:List (Nat×Blk)} {ρ:Nat→Value} {x:AV} {v v' : Value} (hx:x.toV=some v') (h:VR w M hp ρ x v):v=v':=by
 unfold AV.toV at hx
 split at hx
 ·rename_i y hy;exact jV w M y v v' hx (Uy w M hp ρ x v y hy h)
 ·cases hx
theorem XM (w:World) (M:Nat→Prop) (v:Value):DR w M (KP v) v:=by
 cases v with
 | slice a n c =>
  cases a with
  | none =>
   simp only [KP]
   split
   ·rename_i hb
    simp only [jAj] at hb
    have h1:=Nat.eq_of_beq_eq_true hb.1
    have h2:=Nat.eq_of_beq_eq_true hb.2
    subst h1;subst h2
    exact .lst true 0 [] none 0 0 0 (fun _=>undef) (fun _=>rfl) (jLj _) (fun h=>absurd rfl h) (by simp) (by simp) (by simp)
   ·exact .v _
  | some a=>exact .v _
 | func f a b =>
  simp only [KP]
  split
  ·rename_i ha hb
   have h1:a=#[]:=by simpa using ha
   have h2:b=#[]:=by simpa using hb
   subst h1;subst h2
   exact .fn f [] [] [] [] rfl rfl (by simp) (by simp)
  ·exact .v _
 | _=>exact .v _
theorem Qco (w:World) (M:Nat→Prop) (v:Value):DR w M (ofV v) v:=by
 unfold ofV
 split
 ·rename_i cs
  have:=DR.agg (w:=w) (M:=M) (cs.toList.map KP) cs.toList (by simp) (fun i c y hc hy=>by
   simp only [List.getElem?_map] at hc;rw [hy] at hc;simp only [Option.map_some,jIj] at hc;subst hc;exact XM _ _ _)
  simpa using this
 ·exact XM _ _ _
theorem JW (w:World) (M:Nat→Prop) (hp:List (Nat×Blk)) (ρ:Nat→Value) (v:Value):VR w M hp ρ (.d (ofV v)) v:=.d _ _ (Qco w M v)
theorem wy {x:AV} {p:D×Bool} (h:yq (.box x)=some p):x.toD=some p.1∧fzOk p.1=true∧p.2=true:=by
 simp only [yq] at h
 split at h
 case h_2=>cases h
 rename_i y hy
 split at h
 case h_2=>cases h
 rename_i hf
 simp only [jIj] at h;subst h
 exact ⟨hy,hf,rfl⟩
theorem Qdd {w:World} {M:Nat→Prop} {hp:List (Nat×Blk)} {ρ:Nat→Value} {b:Nat} {x:AV} {y:D} (h:BlkR w M hp ρ b (.box x)) (hx:x.toD=some y) (hf:fzOk y=true) :
  ∃ r,ρ b=.pointer (some ⟨r,0,none⟩)∧∀ (j:Nat) (c:D),y.cells[j]?=some c→∃ z,w.cell? ⟨r,0+j,none⟩=some z∧DR w M c z:=by
 obtain ⟨r,e,v,cs,h1,h2,h3,h4⟩:=h
 have hd:=Uy w M hp ρ x v y hx h4
 have hcell:∀ k,w.cell? ⟨r,k,none⟩=v.cells[k]?:=fun k=>by simp [World.cell?,h2]
 refine ⟨r,h1,fun j c hj=>?_⟩
 rw [Nat.zero_add,hcell]
 have single:∀ (hc:v.cells=#[v]) (hy:y.cells=[y]),∃ z,v.cells[j]?=some z∧DR w M c z:=by
  intro hc hy
  rw [hy] at hj
  cases j with
  | zero =>
   simp only [List.getElem?_cons_zero,jIj] at hj;subst hj
   exact ⟨v,by rw [hc];rfl,hd⟩
  | succ j=>simp at hj
 cases hd with
 | v =>
  have:v.cells=#[v]:=by
   have hf' : one v=true:=hf
   cases v <;> first | rfl | cases hf'
  exact single this rfl
 | agg l ys hl hh =>
  have hj' : l[j]?=some c:=hj
  have hlt:j < ys.length:=by rw [← hl];exact (jGj hj').1
  exact ⟨ys[j],by simp [Value.cells,hlt],hh j c _ hj' (by simp [hlt])⟩
 | tup=>cases hf
 | lst=>exact single rfl rfl
 | fn=>exact single rfl rfl
 | ref=>exact single rfl rfl
theorem HSim.box_fz {cx:Cx} {F:Nat→Prop} {hp:List (Nat×Blk)} {ρ:Nat→Value} {w:World} (h:HSim cx F hp ρ w) {b:Nat} {x:AV} {y:D} (hb:look hp b=some (.box x)) (hxd:x.toD=some y) (hf:fzOk y=true) :
  HSim cx F ((b,.fbox y)::hp) ρ w∧Steps1 hp ρ w ((b,.fbox y)::hp) ρ w:=by
 have hmut:∀ q,Mut ((b,.fbox y)::hp) ρ q→∃ n k,n≠b∧look hp n=some k∧k.live=true∧Q9 (ρ n)=some q:=by
  rintro q ⟨n,k',hn,hm,hq⟩
  by_cases hnb:n=b
  ·subst hnb;rw [Qd] at hn;cases hn;cases hm
  ·rw [Qc _ _ (Ne.symm hnb)] at hn;exact ⟨n,k',hnb,hn,hm,hq⟩
 have hst:Steps1 hp ρ w ((b,.fbox y)::hp) ρ w:=by
  refine ⟨Ext.refl _ _,fun q _ hm=>?_,⟨fun n k1 hn=>?_⟩⟩
  ·obtain ⟨n,k,_,h1,h2,h3⟩:=hmut q hm;exact ⟨n,k,h1,h2,h3⟩
  ·by_cases hnb:n=b
   ·subst hnb;rw [hb] at hn;cases hn;exact ⟨_,Qd _ _ _,jLj _,fun _=>rfl⟩
   ·exact ⟨k1,by rw [Qc _ _ (Ne.symm hnb)];exact hn,jLj _,fun _=>rfl⟩
 have hB:BlkR w (MM F ((b,.fbox y)::hp) ρ) ((b,.fbox y)::hp) ρ b (.fbox y):=by
  obtain ⟨r,h1,h2⟩:=Qdd (h.blk b _ hb) hxd hf
  have hroot:Q9 (ρ b)=some r:=by rw [h1];rfl
  have hlt:r < w.heap.size:=(h.blk b _ hb).root_lt rfl hroot
  refine ⟨r,h1,?_,hlt,fun j c hj=>?_⟩
  ·rintro (hF | hM)
   ·exact h.forb r ⟨b,_,hb,rfl,hroot⟩ hF
   ·obtain ⟨n,k,hnb,g1,g2,g3⟩:=hmut r hM
    exact hnb (h.inj n b k _ r g1 hb g2 rfl g3 hroot)
  ·obtain ⟨z,hz,hzd⟩:=h2 j c hj
   exact ⟨z,hz,hst.dr hzd⟩
 refine ⟨h.step hst (fun n k' hn=>?_) (fun n n' k1 k2 q h1 h2 m1 m2 r1 r2=>?_) (fun q hq=>?_),hst⟩
 ·by_cases hnb:n=b
  ·subst hnb;rw [Qd] at hn;cases hn;exact .inr hB
  ·rw [Qc _ _ (Ne.symm hnb)] at hn;exact .inl ⟨hn,rfl,fun _ _ _=>rfl⟩
 ·have key:∀ n k1,look ((b,Blk.fbox y)::hp) n=some k1→k1.live=true→look hp n=some k1:=by
   intro n k1 hn hm
   by_cases hnb:n=b
   ·subst hnb;rw [Qd] at hn;cases hn;cases hm
   ·rw [Qc _ _ (Ne.symm hnb)] at hn;exact hn
  exact h.inj n n' k1 k2 q (key n k1 h1 m1) (key n' k2 h2 m2) m1 m2 r1 r2
 ·obtain ⟨n,k,_,h1,h2,h3⟩:=hmut q hq;exact h.forb q ⟨n,k,h1,h2,h3⟩
theorem W3 (hp:List (Nat×Blk)) (l:List Nat) (b:Nat):look (Qe hp l++hp) b=look hp b ∨
  (∃ ver sz es,look hp b=some (.row ver sz es)∧look (Qe hp l++hp) b=some (.frozen ver sz es)) ∨
  (b∈l∧∃ x y,look hp b=some (.box x)∧x.toD=some y∧fzOk y=true∧look (Qe hp l++hp) b=some (.fbox y)):=by
 induction l with
 | nil=>exact .inl rfl
 | cons c l ih =>
  have ih' : look (Qe hp l++hp) b=look hp b ∨ (∃ ver sz es,look hp b=some (.row ver sz es)∧look (Qe hp l++hp) b=some (.frozen ver sz es)) ∨
    (b∈c::l∧∃ x y,look hp b=some (.box x)∧x.toD=some y∧fzOk y=true∧look (Qe hp l++hp) b=some (.fbox y)):=by
   rcases ih with h | h | ⟨h,h'⟩
   ·exact .inl h
   ·exact .inr (.inl h)
   ·exact .inr (.inr ⟨List.mem_cons_of_mem _ h,h'⟩)
  simp only [Qe]
  split
  ·rename_i ver sz es hc
   rw [List.cons_append]
   by_cases h:c=b
   ·subst h;exact .inr (.inl ⟨ver,sz,es,hc,Qd _ _ _⟩)
   ·rw [Qc _ _ h];exact ih'
  ·rename_i x hc
   split
   ·rename_i y _ hr
    obtain ⟨r1,r2,_⟩:=wy hr
    rw [List.cons_append]
    by_cases h:c=b
    ·subst h;exact .inr (.inr ⟨jMj,x,y,hc,r1,r2,Qd _ _ _⟩)
    ·rw [Qc _ _ h];exact ih'
   ·exact ih'
  ·exact ih'
theorem jF (hp:List (Nat×Blk)) (l:List Nat) (b:Nat) (hb:b∈l) {ver sz:Nat} {es:jVj} (hr:look hp b=some (.row ver sz es)) :
  look (Qe hp l++hp) b=some (.frozen ver sz es):=by
 induction l with
 | nil=>simp at hb
 | cons c l ih =>
  simp only [Qe]
  by_cases h:c=b
  ·subst h;rw [hr];exact Qd _ _ _
  ·have hb' : b∈l:=by simpa [Ne.symm h] using hb
   split
   ·rw [List.cons_append,Qc _ _ h];exact ih hb'
   ·split
    ·rw [List.cons_append,Qc _ _ h];exact ih hb'
    ·exact ih hb'
   ·exact ih hb'
theorem wU (hp:List (Nat×Blk)) (l:List Nat) (b:Nat) (hb:b∈l) {x:AV} {p:D×Bool} (hr:look hp b=some (.box x)) (hp2:yq (.box x)=some p) :
  look (Qe hp l++hp) b=some (.fbox p.1):=by
 induction l with
 | nil=>simp at hb
 | cons c l ih =>
  simp only [Qe]
  by_cases h:c=b
  ·subst h;rw [hr];simp only [hp2];exact Qd _ _ _
  ·have hb' : b∈l:=by simpa [Ne.symm h] using hb
   split
   ·rw [List.cons_append,Qc _ _ h];exact ih hb'
   ·split
    ·rw [List.cons_append,Qc _ _ h];exact ih hb'
    ·exact ih hb'
   ·exact ih hb'
theorem HSim.freeze {cx:Cx} {F:Nat→Prop} {hp:List (Nat×Blk)} {ρ:Nat→Value} {w:World} (h:HSim cx F hp ρ w) (l:List Nat) :
  HSim cx F (Qe hp l++hp) ρ w∧Steps1 hp ρ w (Qe hp l++hp) ρ w:=by
 induction l with
 | nil=>exact ⟨h,Steps1.refl _ _ _⟩
 | cons b l ih =>
  simp only [Qe]
  split
  ·rename_i ver sz es hb
   rw [List.cons_append]
   obtain ⟨ih1,ih2⟩:=ih
   rcases W3 hp l b with hl | ⟨ver',sz',es',h1,h2⟩ | ⟨_,_,_,h1,_⟩
   ·have hl':=hl.trans hb
    obtain ⟨g1,g2,_⟩:=ih1.freeze1 hl'
    exact ⟨g1,ih2.trans g2⟩
   ·rw [hb] at h1;cases h1
    have hle:∀ c,look ((b,Blk.frozen ver sz es)::(Qe hp l++hp)) c=look (Qe hp l++hp) c:=by
     intro c
     by_cases hc:b=c
     ·subst hc;rw [Qd,h2]
     ·rw [Qc _ _ hc]
    obtain ⟨g1,g2⟩:=W0 hle ih1
    exact ⟨g1,ih2.trans g2⟩
   ·rw [hb] at h1;cases h1
  ·rename_i x hb
   split
   ·rename_i y _ hr
    obtain ⟨r1,r2,_⟩:=wy hr
    rw [List.cons_append]
    obtain ⟨ih1,ih2⟩:=ih
    rcases W3 hp l b with hl | ⟨_,_,_,h1,_⟩ | ⟨_,x',y',h1,h3,h4,h2⟩
    ·obtain ⟨g1,g2⟩:=ih1.box_fz (hl.trans hb) r1 r2
     exact ⟨g1,ih2.trans g2⟩
    ·rw [hb] at h1;cases h1
    ·rw [hb] at h1;cases h1
     rw [r1] at h3;cases h3
     have hle:∀ c,look ((b,Blk.fbox y)::(Qe hp l++hp)) c=look (Qe hp l++hp) c:=by
      intro c
      by_cases hc:b=c
      ·subst hc;rw [Qd,h2]
      ·rw [Qc _ _ hc]
     obtain ⟨g1,g2⟩:=W0 hle ih1
     exact ⟨g1,ih2.trans g2⟩
   ·exact ih
  ·exact ih
mutual
theorem Wu {cx:Cx} {F:Nat→Prop} {hp:List (Nat×Blk)} {ρ:Nat→Value} {w:World} (h:HSim cx F hp ρ w) (fz:List Nat) :
  ∀ (x:AV) (v:Value) (y:D) (fs:List Nat),x.toDH hp=some (y,fs)→(∀ b,b∈fs→b∈fz)→VR w (MM F hp ρ) hp ρ x v →
   DR w (MM F (Qe hp fz++hp) ρ) y v
 | .d x,v,y,fs,hx,_,hr=>by
  simp only [AV.toDH,jIj,jPj] at hx;obtain ⟨rfl,rfl⟩:=hx
  cases hr;rename_i hr;exact (h.freeze fz).2.dr hr
 | .agg cs,v,y,fs,hx,hf,hr=>by
  simp only [AV.toDH] at hx
  split at hx <;> simp only [jIj,reduceCtorEq,jPj] at hx
  rename_i l fs' hl;obtain ⟨rfl,rfl⟩:=hx
  cases hr with
  | agg _ ys hle hh =>
   obtain ⟨h1,h2⟩:=YV h fz cs ys l fs' hl hf hle hh
   exact .agg _ _ h1 h2
 | .tup cs,v,y,fs,hx,hf,hr=>by
  simp only [AV.toDH] at hx
  split at hx <;> simp only [jIj,reduceCtorEq,jPj] at hx
  rename_i l fs' hl;obtain ⟨rfl,rfl⟩:=hx
  cases hr with
  | tup _ ys hle hh =>
   obtain ⟨h1,h2⟩:=YV h fz cs ys l fs' hl hf hle hh
   exact .tup _ _ h1 h2
 | .fn f a b,v,y,fs,hx,hf,hr=>by
  simp only [AV.toDH] at hx
  split at hx <;> simp only [jIj,reduceCtorEq,jPj] at hx
  rename_i x1 f1 y1 f2 hx1 hy1;obtain ⟨rfl,rfl⟩:=hx
  cases hr with
  | fn _ _ _ xs ys hl hm hh kk =>
   obtain ⟨h1,h2⟩:=YV h fz a xs x1 f1 hx1 (fun b hb=>hf b (List.mem_append.2 (.inl hb))) hl hh
   obtain ⟨h3,h4⟩:=YV h fz b ys y1 f2 hy1 (fun b hb=>hf b (List.mem_append.2 (.inr hb))) hm kk
   exact .fn _ _ _ _ _ h1 h3 h2 h4
 | .own b ver,v,y,fs,hx,hf,hr=>by
  simp only [AV.toDH] at hx
  have hst:=(h.freeze fz).2
  have hs:=(h.freeze fz).1
  cases hr with
  | own _ _ k _ hb hv ho hy =>
   rw [hb] at hx
   cases k with
   | box x=>simp at hx
   | loop _ _ _ _ _ _=>simp at hx
   | mp _=>simp at hx
   | it _ _=>simp at hx
   | fbox _=>simp at hx
   | left _=>simp at hx
   | dead=>simp at hx
   | row ver' sz es =>
    simp only at hx
    split at hx <;> simp only [jIj,reduceCtorEq,jPj] at hx
    rename_i hbeq;obtain ⟨rfl,rfl⟩:=hx
    rw [hy (Nat.eq_of_beq_eq_true hbeq)]
    have:=jF hp fz b (hf b (by simp)) hb
    exact hs.blk b _ this
   | frozen ver' sz es =>
    simp only at hx
    split at hx <;> simp only [jIj,reduceCtorEq,jPj] at hx
    rename_i hbeq;obtain ⟨rfl,rfl⟩:=hx
    rw [hy (Nat.eq_of_beq_eq_true hbeq)]
    have:=h.blk b _ hb
    exact hst.dr this
   | virt ver' sz es =>
    simp only at hx
    split at hx <;> simp only [jIj,reduceCtorEq,jPj] at hx
    rename_i hbeq;obtain ⟨rfl,rfl⟩:=hx
    rw [hy (Nat.eq_of_beq_eq_true hbeq)]
    have:=h.blk b _ hb
    exact hst.dr this
 | .dptr _ _,v,y,fs,hx,_,hr=>by
  simp only [AV.toDH,jIj,jPj] at hx;obtain ⟨rfl,rfl⟩:=hx
  cases hr with
  | dptr _ _ blk o hd=>exact ((h.freeze fz).2.dat hd).ref _
 | .ptr b ver sz i off,v,y,fs,hx,hf,hr=>by
  have hst:=(h.freeze fz).2
  have hs:=(h.freeze fz).1
  simp only [AV.toDH] at hx
  split at hx
  case h_2=>cases hx
  rename_i hc
  simp only [jAj] at hc
  have e1:=Nat.eq_of_beq_eq_true hc.1.1
  have e2:=Nat.eq_of_beq_eq_true hc.1.2
  have e3:=Nat.eq_of_beq_eq_true hc.2
  subst e1;subst e2;subst e3
  split at hx
  case h_2=>cases hx
  rename_i k hk
  cases hr with
  | ptr _ _ _ _ _ k' _ hb hv ho hh =>
   rw [hk] at hb;cases hb
   split at hx
   ·rename_i x hrb
    simp only [jIj,jPj] at hx;obtain ⟨rfl,rfl⟩:=hx
    cases k with
    | box x0 =>
     have hm:=wU hp fz b (hf b (by simp)) hk hrb
     obtain ⟨r,hr1,hr2⟩:=hs.blk b _ hm
     obtain ⟨r',hr3,rfl⟩:=hh rfl
     rw [hr1] at hr3
     simp only [Q9,jIj] at hr3
     subst hr3
     exact hr2.ref off
    | fbox x0=>simp [yq] at hrb
    | _=>simp [yq] at hrb
   ·rename_i x hrb
    simp only [jIj,jPj] at hx;obtain ⟨rfl,rfl⟩:=hx
    cases k with
    | fbox x0 =>
     simp only [yq,jIj,jPj,and_true] at hrb
     subst hrb
     obtain ⟨r,hr1,hr2⟩:=h.blk b _ hk
     obtain ⟨r',hr3,rfl⟩:=hh rfl
     rw [hr1] at hr3
     simp only [Q9,jIj] at hr3
     subst hr3
     exact (hst.dat hr2).ref off
    | box x0 =>
     have:=(wy hrb).2.2
     cases this
    | _=>simp [yq] at hrb
   ·cases hx
 | .sub _ _ _ _ _,v,y,fs,hx,_,hr=>by simp [AV.toDH] at hx
 | .junk,v,y,fs,hx,_,hr=>by simp [AV.toDH] at hx
theorem YV {cx:Cx} {F:Nat→Prop} {hp:List (Nat×Blk)} {ρ:Nat→Value} {w:World} (h:HSim cx F hp ρ w) (fz:List Nat) :
  ∀ (cs:List AV) (ys:List Value) (l:jVj) (fs:List Nat),Kb hp cs=some (l,fs)→(∀ b,b∈fs→b∈fz)→cs.length=ys.length →
  (∀ (i:Nat) (c:AV) (y:Value),cs[i]?=some c→ys[i]?=some y→VR w (MM F hp ρ) hp ρ c y) →
  l.length=ys.length∧∀ (i:Nat) (c:D) (y:Value),l[i]?=some c→ys[i]?=some y→DR w (MM F (Qe hp fz++hp) ρ) c y
 | [],ys,l,fs,hx,_,hl,_=>by
  simp only [Kb,jIj,jPj] at hx;obtain ⟨rfl,rfl⟩:=hx;cases ys <;> simp_all
 | x::cs,ys,l,fs,hx,hf,hl,hh=>by
  simp only [Kb] at hx
  split at hx <;> simp only [jIj,reduceCtorEq,jPj] at hx
  rename_i y1 f1 l1 f2 h1 h2;obtain ⟨rfl,rfl⟩:=hx
  cases ys with
  | nil=>simp at hl
  | cons y ys =>
   obtain ⟨g1,g2⟩:=YV h fz cs ys l1 f2 h2 (fun b hb=>hf b (List.mem_append.2 (.inr hb))) (by simpa using hl) (fun i c z hc hz=>hh (i+1) c z (by simpa using hc) (by simpa using hz))
   refine ⟨by simpa using g1,fun i c z hc hz=>?_⟩
   cases i with
   | zero =>
    simp only [List.getElem?_cons_zero,jIj] at hc hz;subst hc;subst hz
    exact Wu h fz x y y1 f1 h1 (fun b hb=>hf b (List.mem_append.2 (.inl hb))) (hh 0 x y rfl rfl)
   | succ i=>exact g2 i c z (by simpa using hc) (by simpa using hz)
end
theorem ZR {α:Type} (l:List α) (i:Nat):nth l i=l[i]?:=by
 induction l generalizing i with
 | nil=>rfl
 | cons x l ih=>cases i with
  | zero=>rfl
  | succ i=>simpa [nth] using ih i
theorem Vd {α:Type} {P:Program} {s:Sem α} {a:α} (h:QV P s=some a) (w:World):s.run P w=.ok a w:=by
 induction s generalizing w with
 | pure x=>simp only [QV,jIj] at h;subst h;rfl
 | program k ih=>simp only [QV] at h;exact ih _ h w
 | mark m k ih=>simp only [QV] at h;exact ih h w
 | _=>simp [QV] at h
def OpOK (cx:Cx) (F:Nat→Prop) (hp:List (Nat×Blk)) (ρ:Nat→Value) (w:World) (up:List (Nat×Blk)) (x:AV) (v:Value) (w' : World):Prop :=
 ∃ ρ',HSim cx F (up++hp) ρ' w'∧Steps1 hp ρ w (up++hp) ρ' w'∧VR w' (MM F (up++hp) ρ') (up++hp) ρ' x v
theorem OpOK.quiet {cx:Cx} {F:Nat→Prop} {hp:List (Nat×Blk)} {ρ:Nat→Value} {w:World} (h:HSim cx F hp ρ w) {x:AV} {v:Value} (hx:VR w (MM F hp ρ) hp ρ x v) :
  OpOK cx F hp ρ w [] x v w:=⟨ρ,h,Steps1.refl _ _ _,hx⟩
theorem OpOK.frz {cx:Cx} {F:Nat→Prop} {hp:List (Nat×Blk)} {ρ:Nat→Value} {w:World} (h:HSim cx F hp ρ w) (fs:List Nat) {x:AV} {v:Value}
  (hx:VR w (MM F (Qe hp fs++hp) ρ) (Qe hp fs++hp) ρ x v):OpOK cx F hp ρ w (Qe hp fs) x v w :=
 ⟨ρ,(h.freeze fs).1,(h.freeze fs).2,hx⟩
def Good (cx:Cx) (F:Nat→Prop) (hp:List (Nat×Blk)) (ρ:Nat→Value) (w:World) (r:R) (s:Sem Next):Prop :=
 ∃ v w',(s.run cx.P w=.ok (.value v) w' ∨ (s.run cx.P w=.ok .skip w'∧v=undef))∧OpOK cx F hp ρ w r.up r.val v w'
theorem Good.quiet {cx:Cx} {F:Nat→Prop} {hp:List (Nat×Blk)} {ρ:Nat→Value} {w:World} (h:HSim cx F hp ρ w) {x:AV} {v:Value} {ob:List Prop} {orc:List Orc} {s:Sem Next}
  (hs:s.run cx.P w=.ok (.value v) w) (hx:VR w (MM F hp ρ) hp ρ x v):Good cx F hp ρ w { val:=x,up:=[],ob,orc } s :=
 ⟨v,w,.inl hs,OpOK.quiet h hx⟩
end Go.SX
