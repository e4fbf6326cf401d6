/- Cells: loading and storing rows of cells; what a value's cells are. -/
import Derived.Test.YtljabneifpkbjaaGreatDoorSxFour
set_option linter.unusedSimpArgs false
namespace Go.SX
theorem Ym {v:Value} (h:one v=true):v.cells=#[v]∧v.oneCell'=true:=by
 cases v <;> first | exact ⟨rfl,rfl⟩ | cases h
theorem UY {w:World} {M:Nat→Prop} {hp:List (Nat×Blk)} {ρ:Nat→Value} {x:AV} {v:Value} (hx:x.isOne=true) (h:VR w M hp ρ x v):one v=true:=by
 cases h with
 | d x y h =>
  cases h with
  | v y=>exact hx
  | agg=>cases hx
  | tup=>cases hx
  | lst=>rfl
  | fn=>rfl
  | ref=>rfl
 | agg=>cases hx
 | tup=>cases hx
 | dptr=>rfl
 | ptr _ _ _ _ _ _ _ _ _ ho=>exact ho
 | own _ _ _ _ _ _ ho=>exact ho
 | sub _ _ _ _ _ _ _ _ _ ho=>exact ho
 | fn=>rfl
 | junk=>cases hx
theorem VF {l:List AV} (h:W5 l=true) {j:Nat} {a:AV} (hj:l[j]?=some a):a.isOne=true:=by
 induction l generalizing j with
 | nil=>simp at hj
 | cons x l ih =>
  simp only [W5,jAj] at h
  cases j with
  | zero=>simp only [List.getElem?_cons_zero,jIj] at hj;subst hj;exact h.1
  | succ j=>exact ih h.2 (by simpa using hj)
theorem VM {w:World} {M:Nat→Prop} {hp:List (Nat×Blk)} {ρ:Nat→Value} {x:AV} {v:Value} {cs:List AV} (hx:x.cells=some cs) (h:VR w M hp ρ x v) :
  v.cells.size=cs.length∧W5 cs=true∧∀ (j:Nat) (a:AV),cs[j]?=some a→∃ y,v.cells[j]?=some y∧VR w M hp ρ a y:=by
 have key:∀ (hx:(match x.isOne with | true=>some [x] | false=>none)=some cs),v.cells.size=cs.length∧W5 cs=true∧∀ (j:Nat) (a:AV),cs[j]?=some a→∃ y,v.cells[j]?=some y∧VR w M hp ρ a y:=by
  intro hx
  split at hx
  ·rename_i ho
   simp only [jIj] at hx;subst hx
   have h1:=(Ym (UY ho h)).1
   rw [h1]
   refine ⟨rfl,by simp [W5,ho],fun j a hj=>?_⟩
   cases j with
   | zero=>simp only [List.getElem?_cons_zero,jIj] at hj;subst hj;exact ⟨v,by simp,h⟩
   | succ j=>simp at hj
  ·cases hx
 unfold AV.cells at hx
 split at hx
 ·rename_i c0
  split at hx <;> simp only [jIj,reduceCtorEq] at hx
  rename_i ho;subst hx
  cases h with
  | agg _ ys hl hh =>
   refine ⟨by simp [Value.cells,hl],ho,fun j a hj=>?_⟩
   have hlt:j < ys.length:=by
    rw [← hl];exact (jGj hj).1
   exact ⟨ys[j],by simp [Value.cells,hlt],hh j a _ hj (by simp [hlt])⟩
 ·rename_i c0
  split at hx <;> simp only [jIj,reduceCtorEq] at hx
  rename_i ho;subst hx
  cases h with
  | d _ _ h =>
   cases h with
   | agg _ ys hl hh =>
    refine ⟨by simp [Value.cells,hl],ho,fun j a hj=>?_⟩
    simp only [List.getElem?_map] at hj
    cases hc:c0[j]? with
    | none=>rw [hc] at hj;simp at hj
    | some c =>
     rw [hc] at hj;simp only [Option.map_some,jIj] at hj;subst hj
     have hlt:j < ys.length:=by
      rw [← hl];exact (jGj hc).1
     exact ⟨ys[j],by simp [Value.cells,hlt],.d _ _ (hh j c _ hc (by simp [hlt]))⟩
 ·exact key hx
theorem UN {x:D} {cs:List AV} (h:AV.cells (.d x)=some cs):cs=x.cells.map .d:=by
 cases x with
 | agg l =>
  simp only [AV.cells] at h
  split at h <;> simp only [jIj,reduceCtorEq] at h
  exact h.symm
 | _ =>
  simp only [AV.cells] at h
  split at h <;> simp only [jIj,reduceCtorEq] at h
  subst h;rfl
theorem QbX {w:World} {M:Nat→Prop} {v:Value} {l:jVj} (hd:DR w M (.agg l) v) (j:Nat) (c:D) (hj:(D.agg l).cells[j]?=some c) :
  ∃ y,v.cells[j]?=some y∧DR w M c y:=by
 cases hd with
 | agg _ ys hl hh =>
  have hj' : l[j]?=some c:=hj
  have hlt:j < ys.length:=by rw [← hl];exact (jGj hj').1
  exact ⟨ys[j],by simp [Value.cells,hlt],hh j c _ hj' (by simp [hlt])⟩
theorem add_at (b o n:Nat):(⟨b,o,none⟩:Addr).add n=⟨b,o+n,none⟩:=by
 unfold Addr.add
 split
 ·rename_i h;subst h;rfl
 ·rfl
theorem EW (P:Program) (w:World) (b o:Nat) (vs:List Value):∀ (i:Nat) (acc:Array Value),(∀ (j:Nat) (v:Value),vs[j]?=some v→w.cell? ⟨b,o+(i+j),none⟩=some v) →
  (loadCellsFrom ⟨b,o,none⟩ i vs.length acc).run P w=.ok (acc++vs.toArray) w:=by
 induction vs with
 | nil=>intro i acc _;simp [loadCellsFrom]
 | cons v vs ih =>
  intro i acc h
  have h0:=h 0 v rfl
  simp only [List.length_cons,loadCellsFrom,Sem.run_bind,run_load,add_at,Nat.add_zero] at h0 ⊢
  rw [h0]
  simp only [Result.andThen_ok]
  rw [ih (i+1) _ (fun j u hj=>by have:=h (j+1) u (by simpa using hj);rw [show i+1+j=i+(j+1) from by omega];exact this)]
  simp
theorem JS (P:Program) (w:World) (b o:Nat) (vs:List Value) (n:Nat) (hn:n=vs.length) (h:∀ (j:Nat) (v:Value),vs[j]?=some v→w.cell? ⟨b,o+j,none⟩=some v) :
  (loadCells ⟨b,o,none⟩ n).run P w=.ok vs.toArray w:=by
 subst hn
 unfold loadCells
 rw [EW P w b o vs 0 #[] (fun j v hj=>by rw [Nat.zero_add];exact h j v hj)]
 simp
def Uz (c:Array Value) (o:Nat):List Value→Array Value
 | []=>c
 | v::vs=>Uz (c.setIfInBounds o v) (o+1) vs
theorem Yk (c:Array Value) (o:Nat) (vs:List Value):(Uz c o vs).size=c.size:=by
 induction vs generalizing c o with
 | nil=>rfl
 | cons v vs ih=>simp [Uz,ih]
theorem Vz (c:Array Value) (o:Nat) (vs:List Value) (h:o+vs.length≤c.size) (k:Nat) :
  (Uz c o vs)[k]?=if o≤k∧k < o+vs.length then vs[k - o]? else c[k]?:=by
 induction vs generalizing c o with
 | nil=>simp [Uz];intro h1 h2;omega
 | cons v vs ih =>
  simp only [Uz]
  rw [ih _ _ (by simp at h ⊢;omega)]
  simp only [List.length_cons] at h ⊢
  by_cases h1:o+1≤k∧k < o+1+vs.length
  ·rw [jTj h1,jTj (by omega)]
   rw [show k - o=(k - (o+1))+1 from by omega];simp
  ·rw [jFj h1]
   by_cases h2:k=o
   ·subst h2
    have hlt:k < c.size:=by omega
    rw [jTj (by omega)];simp [hlt]
   ·rw [jFj (by omega)]
    rw [Array.getElem?_setIfInBounds];rw [jFj (by omega)]
theorem Y5 (P:Program) (b o:Nat) (vs:List Value):∀ (i:Nat) (w:World) (c:Array Value) (e:TypeId),w.heap[b]?=some (.cells c e (0,0))→o+i+vs.length≤c.size →
  (∀ v,v∈vs→v.oneCell'=true) →
  ∃ w',(storeCells ⟨b,o,none⟩ vs i).run P w=.ok () w'∧w'.heap[b]?=some (.cells (Uz c (o+i) vs) e (0,0))∧Ext w (fun n=>n=b) w':=by
 induction vs with
 | nil=>intro i w c e h _ _;exact ⟨w,by simp [storeCells],h,Ext.refl _ _⟩
 | cons v vs ih =>
  intro i w c e h hl ho
  simp only [List.length_cons] at hl
  have hlt:o+i < c.size:=by omega
  have hc:w.cell? ⟨b,o+i,none⟩=some c[o+i]:=by
   simp [World.cell?,h,hlt]
  have hfz:w.frozen? ⟨b,o+i,none⟩=false:=by
   simp [World.frozen?,h]
  have hw1:(w.setCell ⟨b,o+i,none⟩ v).heap[b]?=some (.cells (c.setIfInBounds (o+i) v) e (0,0)):=by
   simp [World.setCell,Array.getElem?_modify,h]
  obtain ⟨w',hr,hh,hx⟩:=ih (i+1) (w.setCell ⟨b,o+i,none⟩ v) _ e hw1 (by simp;omega) (fun u hu=>ho u (by simp [hu]))
  refine ⟨w',?_,?_,?_⟩
  ·simp only [storeCells,Sem.run_bind,add_at]
   rw [run_store P w _ v _ (ho v (by simp)),hc,hfz]
   simp only [Bool.false_eq_true,if_false,Result.andThen_ok]
   exact hr
  ·simp only [Uz];rw [hh];rfl
  ·have hx0:Ext w (fun n=>n=b) (w.setCell ⟨b,o+i,none⟩ v) :=
    ⟨rfl,rfl,rfl,by simp,fun r _ hr=>by simp only [World.setCell,Array.getElem?_modify];rw [jFj (fun h=>hr h.symm)]⟩
   exact hx0.trans hx fun r _ h=>h
theorem ki {cx:Cx} {t:TypeId} {g:Bool} (h:cx.isAgg t=some g) (w:World):(isAgg t).run cx.P w=.ok g w:=by
 unfold Cx.isAgg at h
 simp only [isAgg,underlying,Sem.run_bind,run_program,Result.andThen_ok]
 cases hu:cx.P.underlying t with
 | none=>rw [hu] at h;simp at h
 | some d =>
  rw [hu] at h
  simp only [Sem.run_pure,Result.andThen_ok]
  cases d <;> simp_all
theorem Zc {cx:Cx} {t:TypeId} {n:Nat} (h:cx.sz t=some n) (w:World):(sizeOf t).run cx.P w=.ok n w:=by
 unfold Cx.sz at h
 simp only [sizeOf,typeInfo,Sem.run_bind,run_program,Result.andThen_ok]
 cases hu:cx.P.info? t with
 | none=>rw [hu] at h;simp at h
 | some d=>rw [hu] at h;simp only [jIj] at h;subst h;simp
theorem Qn {cx:Cx} {t:TypeId} {d:TypeDesc} (h:cx.P.underlying t=some d) (w:World):(underlying t).run cx.P w=.ok d w:=by
 simp only [underlying,Sem.run_bind,run_program,Result.andThen_ok,h,Sem.run_pure]
theorem Y4 {cx:Cx} {t:TypeId} {z:Value} (h:cx.zero t=some z) (w:World):(zeroValue t).run cx.P w=.ok z w:=by
 unfold Cx.zero at h
 simp only [zeroValue,typeInfo,Sem.run_bind,run_program,Result.andThen_ok]
 cases hu:cx.P.info? t with
 | none=>rw [hu] at h;simp at h
 | some d=>rw [hu] at h;simp only at h;simp [h]
theorem Kl {cx:Cx} {t:TypeId} {d:TypeInfo} (h:cx.P.info? t=some d) (w:World):(typeInfo t).run cx.P w=.ok d w:=by
 simp only [typeInfo,Sem.run_bind,run_program,Result.andThen_ok,h,Sem.run_pure]
theorem Qb9 (l:jVj):Kk (l.map .d)=some l:=by
 induction l with
 | nil=>rfl
 | cons x l ih=>simp [Kk,AV.toD,ih]
theorem yG {cx:Cx} {w:World} {M:Nat→Prop} {hp:List (Nat×Blk)} {ρ:Nat→Value} {t:TypeId} {s:Nat} {g:Bool} (hs:cx.sz t=some s) (hg:cx.isAgg t=some g) {b o off:Nat} {x y:AV} {cs:List AV}
  (hx:x.cells=some cs) (hc:∀ (j:Nat) (a:AV),cs[j]?=some a→∃ y,w.cell? ⟨b,o+j,none⟩=some y∧VR w M hp ρ a y) (hl:Kg g s off x=some y) :
  ∃ v,(loadVar t ⟨b,o+off,none⟩).run cx.P w=.ok v w∧VR w M hp ρ y v:=by
 simp only [Kg,hx] at hl
 unfold loadVar
 simp only [Sem.run_bind,ki hg,Result.andThen_ok]
 cases g with
 | false =>
  simp only at hl
  rw [ZR] at hl
  obtain ⟨v,hv,hr⟩:=hc off y hl
  refine ⟨v,?_,hr⟩
  simp only [Bool.false_eq_true,if_false,run_load,hv]
 | true =>
  simp only at hl
  split at hl
  case h_2=>cases hl
  rename_i hle
  have hle' : off+s≤cs.length:=Nat.le_of_ble_eq_true hle
  have hget:∀ j,j < s→∃ v,w.cell? ⟨b,o+(off+j),none⟩=some v∧∀ a,cs[off+j]?=some a→VR w M hp ρ a v:=by
   intro j hj
   have hlt:off+j < cs.length:=by omega
   obtain ⟨v,h1,h2⟩:=hc (off+j) cs[off+j] (by simp [hlt])
   exact ⟨v,h1,fun a ha=>by simp [hlt] at ha;subst ha;exact h2⟩
  let vs:List Value:=(List.range s).map fun j=>(w.cell? ⟨b,o+(off+j),none⟩).getD undef
  have hvs:∀ (j:Nat) (v:Value),vs[j]?=some v→j < s∧w.cell? ⟨b,o+(off+j),none⟩=some v:=by
   intro j v hj
   have hlt:j < s:=by
    have:=(jGj hj).1;simpa [vs] using this
   obtain ⟨u,hu,_⟩:=hget j hlt
   simp [vs,hlt,hu] at hj
   exact ⟨hlt,hj ▸ hu⟩
  have hrun:=JS cx.P w b (o+off) vs s (by simp [vs]) (fun j v hj=>by rw [Nat.add_assoc];exact (hvs j v hj).2)
  have hvr:VR w M hp ρ (.agg ((cs.drop off).take s)) (.agg vs.toArray):=by
   refine .agg _ _ (by simp [vs];omega) fun i c v hi hv=>?_
   obtain ⟨h1,h2⟩:=hvs i v hv
   obtain ⟨u,hu,hh⟩:=hget i h1
   rw [hu] at h2;cases h2
   apply hh
   rw [List.getElem?_take,jTj h1,List.getElem?_drop] at hi
   exact hi
  refine ⟨.agg vs.toArray,?_,?_⟩
  ·simp only [if_true,Sem.run_bind,Zc hs,Result.andThen_ok,hrun,Sem.run_map]
   rfl
  ·split at hl
   ·rename_i hb
    simp only [jIj] at hl;subst hl
    simp only [jAj] at hb
    have h1:=Nat.eq_of_beq_eq_true hb.1.2
    have h2:=Nat.eq_of_beq_eq_true hb.2
    have ha:=hb.1.1
    subst h1
    have hfull:(cs.drop 0).take s=cs:=by subst h2;simp
    rw [hfull] at hvr
    cases x with
    | agg c0 =>
     simp only [AV.cells] at hx
     split at hx <;> simp only [jIj,reduceCtorEq] at hx
     subst hx;exact hvr
    | d q =>
     have hcd:=UN hx
     cases q with
     | agg c0 =>
      subst hcd
      have:=Yn hvr
      have hn:AV.norm (.agg (c0.map .d))=.d (.agg c0):=by simp [AV.norm,AV.toD,Qb9]
      simp only [D.cells] at this
      rw [hn] at this;exact this
     | _=>cases ha
    | _=>cases ha
   ·simp only [jIj] at hl;subst hl;exact Yn hvr
end Go.SX
