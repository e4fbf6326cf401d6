/- Own texts. -/
import Derived.Test.YtcfmoailaddifaaGreatDoorProg
import Derived.Test.YtcfmoailaddifaaGreatDoorSxTwentyEight
import Derived.KernelRfl
import Derived.Below
import Derived.Lib.LaidTab
import Derived.Lib.ItoaNum
import GoSem.ClaimChange
import Derived.ProofKit
import Derived.OpenShut
import Derived.WideShapes
import Derived.ChangeStays
import Derived.ChangeSame
import Derived.Deep.DeepHandedRow
import Derived.WalkKit
import Derived.WalkSpells
import Derived.WalkLawsBesides
import Derived.Laws.Externs
import Derived.Shelf.Strings.OnBuilder
import Derived.Shelf.Strconv.Itoa3
import Derived.Shelf.LaysM
import Derived.Shelf.SlicesE.Clone
import Derived.Lib.LazyBuf
set_option linter.unusedVariables false
set_option linter.unusedSimpArgs false
set_option linter.unnecessarySimpa false
namespace Go.Proofs.YtcfmoailaddifaaGreatDoor
open Go.SX Go.RowKit
def pow10D:D:=.agg (Lib.pow10Tab.map fun z=>.v (.int .u64 z))
instance drawF:DrawMode:=⟨false⟩
noncomputable def cx:Cx:={ P:=Tryz.prog,G:=fun g=>match Nat.beq g 0 with
 | true=>some (.agg [I 1,I 0,I 0,I 1])
 | false=>match Nat.beq g 3 with
  | true=>some pow10D
  | false=>none }
theorem Qcx:(Tryz.prog.funcs.toList.all fun fn=>!(fn.body.isSome && (fn.name == "runtime.NumGoroutine")))=true:=by kernel_rfl
theorem Qcp:NoAsk cx:=Qbh _ _ Qcx
theorem yj:cx.P.follows .mixedOrders=true:=by kernel_rfl
theorem run {n:Nat} {f:FuncId} {args:List D} {orc:List Orc} {r:D} {ob:List Prop} (h:Zu true n cx f args orc=some (r,ob)) (ho:All ob):Computes cx f args r:=kq Qcp yj h ho
theorem Qv {S E:Type} {c:Code} {nt vis:Nat} {rnd:Bool} {T:S→List (Nat×AV)} {H:S→List (Nat×Blk)} {X:E→Ex} {XT:E→List (Nat×AV)} {XH:E→List (Nat×Blk)}
  {step:S→Option (S⊕E)} (hr:∀ s r,step s=some r→Rd cx c nt vis rnd T H X XT XH s r) {n:Nat} {s:S} {e:E} (h:Q2 step n s=some e):QV cx c nt vis rnd (T s) (H s) (X e) (XT e) (XH e):=yn Qcp yj hr n s e h
theorem dr_v {w:World} {F:Nat→Prop} {x y:Value} (h:DR w F (.v x) y):y=x:=by cases h;rfl
theorem qb {w w' : World} (h:Below w.heap.size w w'):Ext w (fun _=>False) w':=⟨(fun h=>by cases h),h.os,h.tape,h.output,h.size,fun r hr _=>h.block r hr⟩
theorem jy {f:FuncId} {x y:Value} (h:∀ w:World,Calls Tryz.prog f #[x] w fun e w'=>e=.returned y∧Below w.heap.size w w'):Computes cx f [.v x] (.v y):=by
 intro w F vs hF hG hl hd
 match vs,hl with
 | [a],_ =>
  have ha:=hd 0 _ _ rfl rfl
  rw [dr_v ha]
  exact (h w).mono fun e w' hh=>⟨_,hh.1,.v _,qb hh.2⟩
inductive Kd
 | int (k:IntKind)
 | bool
 | str
 | flt (k:FloatKind)
 | lst (agg:Bool) (ks:List Kd)
mutual
def Kd.ok:Kd→D→Prop
 | .int k,d=>∃ n,d=.v (.int k n)∧k.min≤n∧n≤k.max
 | .bool,d=>∃ b,d=.v (.bool b)
 | .str,d=>∃ s,d=.v (.string s)∧s.size≤maxLen
 | .flt k,d=>∃ b,d=.v (.float k b)∧(Lit.float k b).wf=true
 | .lst agg ks,d=>∃ es,d=.lst false ks.length es∧es.length≤maxLen∧∀ e,e∈es→match agg with
  | true=>∃ cs,e=.agg cs∧Kd.oks ks cs
  | false=>Kd.oks ks [e]
def Kd.oks:List Kd→List D→Prop
 | [],ds=>ds=[]
 | k::ks,ds=>∃ d r,ds=d::r∧Kd.ok k d∧Kd.oks ks r
end
def JP (P:Program) (f:TypeId→Option (List Kd)):Nat→List Field→Option (List Kd)
 | _,[]=>some []
 | off,fd::l=>match f fd.type with
  | some ks=>match Nat.beq fd.offset off && Nat.beq ks.length (P.cellsOf fd.type),JP P f (off+ks.length) l with
   | true,some r=>some (ks++r)
   | _,_=>none
  | none=>none
def Vz (P:Program):Nat→TypeId→Option (List Kd)
 | 0,_=>none
 | n+1,t=>match P.underlying t with
  | some (.int k)=>some [.int k]
  | some .bool=>some [.bool]
  | some .string=>some [.str]
  | some (.float k)=>some [.flt k]
  | some (.slice e)=>match Vz P n e,P.underlying e with
   | some ks,some (.struct _)=>match Nat.beq ks.length (P.cellsOf e) && Nat.blt 0 ks.length with
    | true=>some [.lst true ks]
    | false=>none
   | some ks,some (.array _ _)=>match Nat.beq ks.length (P.cellsOf e) && Nat.blt 0 ks.length with
    | true=>some [.lst true ks]
    | false=>none
   | some ks,some _=>match Nat.beq ks.length (P.cellsOf e) && Nat.beq 1 ks.length with
    | true=>some [.lst false ks]
    | false=>none
   | _,_=>none
  | some (.struct fs)=>match JP P (Vz P n) 0 fs.toList with
   | some ks=>match Nat.beq ks.length (P.cellsOf t) with
    | true=>some ks
    | false=>none
   | none=>none
  | some (.array m e)=>match Vz P n e with
   | some ks=>match Nat.beq ks.length (P.cellsOf e) && Nat.beq (m * ks.length) (P.cellsOf t) with
    | true=>some (List.replicate m ks).flatten
    | false=>none
   | none=>none
  | _=>none
def Reads (W:World):List D→List Value→Prop
 | [],[]=>True
 | d::ds,v::vs=>(DR W (fun _=>False) d v∧one v=true)∧Reads W ds vs
 | _,_=>False
theorem Reads.append {W:World}:∀ {a:List D} {x:List Value} {b:List D} {y:List Value},Reads W a x→Reads W b y→Reads W (a++b) (x++y)
 | [],[],_,_,_,h=>h
 | _::_,_::_,_,_,h,k=>⟨h.1,Reads.append h.2 k⟩
 | [],_::_,_,_,h,_=>h.elim
 | _::_,[],_,_,h,_=>h.elim
theorem Reads.len {W:World}:∀ {a:List D} {x:List Value},Reads W a x→a.length=x.length
 | [],[],_=>rfl
 | _::_,_::_,h=>by simp [Reads.len h.2]
 | [],_::_,h=>h.elim
 | _::_,[],h=>h.elim
theorem Reads.at {W:World}:∀ {a:List D} {x:List Value},Reads W a x→∀ (i:Nat) (d:D) (v:Value),a[i]?=some d→x[i]?=some v→DR W (fun _=>False) d v∧one v=true
 | [],[],_,i,d,v,h,_=>by simp at h
 | _::_,_::_,hh,0,d,v,h,k=>by simp at h k;subst h;subst k;exact hh.1
 | _::_,_::_,hh,i+1,d,v,h,k=>Reads.at hh.2 i d v (by simpa using h) (by simpa using k)
 | [],_::_,h,_,_,_,_,_=>h.elim
 | _::_,[],h,_,_,_,_,_=>h.elim
theorem G7:∀ {a b:List Kd} {x y:List D},Kd.oks a x→Kd.oks b y→Kd.oks (a++b) (x++y)
 | [],_,x,y,h,k=>by unfold Kd.oks at h;subst h;exact k
 | q::a,b,x,y,h,k=>by
  unfold Kd.oks at h
  obtain ⟨d,r,rfl,h1,h2⟩:=h
  show Kd.oks (q::(a++b)) (d::(r++y))
  unfold Kd.oks
  exact ⟨d,r++y,rfl,h1,G7 h2 k⟩
theorem Uz:∀ {a:List Kd} {x:List D},Kd.oks a x→x.length=a.length
 | [],x,h=>by unfold Kd.oks at h;subst h;rfl
 | q::a,x,h=>by
  unfold Kd.oks at h
  obtain ⟨d,r,rfl,h1,h2⟩:=h
  simp [Uz h2]
theorem Qb1 {k:Kd} {d:D} (h:Kd.ok k d):Kd.oks [k] [d]:=by
 unfold Kd.oks;exact ⟨d,[],rfl,h,by unfold Kd.oks;rfl⟩
section
variable {H:Type} {enc:TypeId×Value→H} {P:Program} {W:World} {base:Nat} {sp:Nat→Bool} {held:Bool}
theorem EX {W:World} {k:Kd} {d:D} {v:Value} (h1:Kd.ok k d) (h2:DR W (fun _=>False) d v) (h3:one v=true):∃ ds,Kd.oks [k] ds∧Reads W ds [v]:=⟨[d],Qb1 h1,⟨h2,h3⟩,trivial⟩
theorem qW {f:TypeId→Option (List Kd)} {g:TypeId→List Value→Prop} (hf:∀ t cs ks,f t=some ks→g t cs→∃ ds,Kd.oks ks ds∧Reads W ds cs) {cs:List Value} :
  ∀ (fs:List Field) (off:Nat) (ks:List Kd),JP P f off fs=some ks→(∀ fd,fd∈fs→g fd.type ((cs.drop fd.offset).take (P.cellsOf fd.type)))→cs.length=off+ks.length→∃ ds,Kd.oks ks ds∧Reads W ds (cs.drop off)
 | [],off,ks,h,_,hl=>by
  simp only [JP,Option.some.injEq] at h;subst h
  refine ⟨[],by unfold Kd.oks;rfl,?_⟩
  rw [List.drop_eq_nil_of_le (by simp at hl;omega)];trivial
 | fd::l,off,ks,h,hg,hl=>by
  unfold JP at h
  split at h
  case h_2=>cases h
  rename_i k1 hk1
  split at h
  case h_2=>cases h
  rename_i r hb hr
  simp only [Option.some.injEq] at h;subst h
  simp only [Bool.and_eq_true,Nat.beq_eq] at hb
  obtain ⟨ds1,a1,b1⟩:=hf _ _ _ hk1 (hg fd List.mem_cons_self)
  rw [List.length_append] at hl
  obtain ⟨ds2,a2,b2⟩:=qW hf l (off+k1.length) r hr (fun x hx=>hg x (List.mem_cons_of_mem _ hx)) (by omega)
  refine ⟨ds1++ds2,G7 a1 a2,?_⟩
  have:=b1.append b2
  rw [hb.1,← hb.2,← List.drop_drop,List.take_append_drop] at this
  exact this
theorem wd {ks:List Kd} {cs:List Value} {m:Nat} (hf:∀ i,i < m→∃ ds,Kd.oks ks ds∧Reads W ds ((cs.drop (i * ks.length)).take ks.length)) (hl:cs.length=m * ks.length) :
  ∀ j,j≤m→∃ ds,Kd.oks (List.replicate j ks).flatten ds∧Reads W ds (cs.drop ((m - j) * ks.length))
 | 0,_=>by
  refine ⟨[],by unfold Kd.oks;rfl,?_⟩
  rw [List.drop_eq_nil_of_le (by simp [hl])];trivial
 | j+1,hj=>by
  obtain ⟨ds2,a2,b2⟩:=wd hf hl j (by omega)
  obtain ⟨ds1,a1,b1⟩:=hf (m - (j+1)) (by omega)
  refine ⟨ds1++ds2,by rw [List.replicate_succ,List.flatten_cons];exact G7 a1 a2,?_⟩
  have e:(m - j) * ks.length=(m - (j+1)) * ks.length+ks.length:=by
   rw [show m - j=m - (j+1)+1 by omega,Nat.add_mul,Nat.one_mul]
  rw [e] at b2
  have:=b1.append b2
  rw [← List.drop_drop,List.take_append_drop] at this
  exact this
theorem E3 {α β:Type} {f:α→Option β}:∀ {l:List α} {r:List β},l.mapM f=some r→∀ a,a∈l→∃ b,f a=some b
 | [],_,_,a,ha=>by cases ha
 | x::l,r,h,a,ha=>by
  simp only [List.mapM_cons,Option.bind_eq_bind,Option.bind_eq_some_iff,Option.pure_def,Option.some.injEq] at h
  obtain ⟨b,hb,r',hr',rfl⟩:=h
  rcases List.mem_cons.1 ha with rfl | ha
  ·exact ⟨b,hb⟩
  ·exact E3 hr' a ha
theorem jI {fuel:Nat} {t:TypeId} {fs:Array Field} {cs:List Value} {x:DataW H×List MemPlace} (ht:P.underlying t=some (.struct fs)) (h:DataW.trod enc P W base sp held fuel t cs=some x) :
  ∃ n,fuel=n+1∧cs.length=P.cellsOf t∧∀ fd,fd∈fs.toList→∃ y,DataW.trod enc P W base sp held n fd.type ((cs.drop fd.offset).take (P.cellsOf fd.type))=some y:=by
 cases fuel with
 | zero=>simp [DataW.trod] at h
 | succ n =>
  refine ⟨n,rfl,?_⟩
  simp only [DataW.trod,ht] at h
  split at h
  case isFalse=>cases h
  rename_i hl
  simp only [Option.map_eq_some_iff] at h
  obtain ⟨r,hr,_⟩:=h
  exact ⟨hl,fun fd hfd=>E3 hr fd hfd⟩
theorem kN {fuel:Nat} {t e:TypeId} {m:Nat} {cs:List Value} {x:DataW H×List MemPlace} (ht:P.underlying t=some (.array m e)) (h:DataW.trod enc P W base sp held fuel t cs=some x) :
  ∃ n,fuel=n+1∧cs.length=P.cellsOf t∧∀ i,i < m→∃ y,DataW.trod enc P W base sp held n e ((cs.drop (i * P.cellsOf e)).take (P.cellsOf e))=some y:=by
 cases fuel with
 | zero=>simp [DataW.trod] at h
 | succ n =>
  refine ⟨n,rfl,?_⟩
  simp only [DataW.trod,ht] at h
  split at h
  case isFalse=>cases h
  rename_i hl
  simp only [Option.map_eq_some_iff] at h
  obtain ⟨r,hr,_⟩:=h
  exact ⟨hl,fun i hi=>E3 hr i (by simpa using hi)⟩
theorem kM {fuel:Nat} {t:TypeId} {k:FloatKind} {cs:List Value} {x:DataW H×List MemPlace} (ht:P.underlying t=some (.float k)) (h:DataW.trod enc P W base sp held fuel t cs=some x) :
  ∃ b,cs=[.float k b]∧(Lit.float k b).wf=true:=by
 cases fuel with
 | zero=>simp [DataW.trod] at h
 | succ n =>
  unfold DataW.trod at h
  rw [ht] at h
  split at h <;> simp_all
theorem G2 {agg:Bool} {ks:List Kd} {fuel:Nat} {t e:TypeId} {cs:List Value} {x:DataW H×List MemPlace} (ht:P.underlying t=some (.slice e)) (h:DataW.trod enc P W base sp held fuel t cs=some x)
  (hk:ks.length=P.cellsOf e) (hpos:0 < ks.length) (h1:agg=false→ks.length=1)
  (ih:∀ (n:Nat) (c:List Value) (y:DataW H×List MemPlace),DataW.trod enc P W base sp held n e c=some y→∃ ds,Kd.oks ks ds∧Reads W ds c) :
  ∃ ds,Kd.oks [.lst agg ks] ds∧Reads W ds cs:=by
 rcases DataW.trod_slice ht h with ⟨rfl,_⟩ | ⟨a,len,cap,elems,rest,n,_,rfl,_,hb,hl,hm,hlen,hel,_,_⟩
 ·refine EX (d:=.lst false ks.length []) ?_ ?_ rfl
  ·unfold Kd.ok;exact ⟨[],rfl,Nat.zero_le _,fun e he=>by cases he⟩
  ·exact .lst false ks.length [] none 0 0 0 (fun _=>.nilIface) (fun h=>by cases h) (Nat.le_refl _) (fun h=>absurd rfl h) (by simp) (by simp) (by simp)
 ·have each:∀ i,i < len→∃ ds c,Kd.oks ks ds∧Reads W ds c∧c.length=ks.length∧∀ j,j < ks.length→W.cell? ((a.add (i * ks.length)).add j)=c[j]?:=by
   intro i hi
   have h2:=hel i hi
   rw [List.getElem?_eq_getElem (by omega),← hk] at h2
   rw [Option.bind_eq_some_iff] at h2
   obtain ⟨c,hc,hy⟩:=h2
   obtain ⟨ds,d1,d2⟩:=ih _ _ _ hy
   refine ⟨ds,c,d1,d2,by rw [← d2.len,Uz d1],fun j hj=>?_⟩
   unfold World.cells? at hc
   split at hc
   case isFalse=>cases hc
   have hcl:c.length=ks.length:=by rw [← d2.len,Uz d1]
   obtain ⟨b,hb1,hb2⟩:=Lib.mapM_at hc j j (by simp [hj])
   rw [hb1,hb2]
  let ds (i:Nat):List D:=if hi:i < len then Classical.choose (each i hi) else []
  let mk (d:List D):D:=if agg then .agg d else d.headD (.v .nilIface)
  have hds:∀ i,i < len→∃ c,Kd.oks ks (ds i)∧Reads W (ds i) c∧c.length=ks.length∧∀ j,j < ks.length→W.cell? ((a.add (i * ks.length)).add j)=c[j]?:=by
   intro i hi
   have:=Classical.choose_spec (each i hi)
   simp only [ds,dif_pos hi];exact this
  have hleaf:∀ (k:Kd) (d:D),Kd.ok k d→d.cells=[d]:=by
   intro k d hd
   cases k <;> simp only [Kd.ok] at hd
   ·obtain ⟨n,rfl,_⟩:=hd;rfl
   ·obtain ⟨n,rfl⟩:=hd;rfl
   ·obtain ⟨n,rfl,_⟩:=hd;rfl
   ·obtain ⟨n,rfl,_⟩:=hd;rfl
   ·obtain ⟨n,rfl,_⟩:=hd;rfl
  have hmk:∀ i,i < len→(mk (ds i)).cells=ds i:=by
   intro i hi
   obtain ⟨c,c1,_⟩:=hds i hi
   simp only [mk]
   split
   ·rfl
   ·rename_i hag
    have h3:=h1 (by simpa using hag)
    have h4:=Uz c1
    rw [h3] at h4
    match hdi:ds i,h4 with
    | [d],_ =>
     rw [hdi] at c1
     match hks:ks,h3 with
     | [k],_ =>
      unfold Kd.oks at c1
      obtain ⟨d',r',e1,e2,e3⟩:=c1
      cases e1
      exact hleaf k d e2
  have ha:0 < len→a=⟨a.block,a.off,none⟩∧a.block < W.heap.size:=by
   intro h0
   obtain ⟨c,c1,c2,c3,c4⟩:=hds 0 h0
   have h5:=c4 0 hpos
   rw [List.getElem?_eq_getElem (by omega)] at h5
   have e0:(a.add (0 * ks.length)).add 0=a:=by simp [Addr.add]
   rw [e0] at h5
   unfold World.cell? at h5
   split at h5
   ·rename_i q1 q2 q3 hheap
    split at h5
    ·cases h5
    ·rename_i hs
     refine ⟨?_,?_⟩
     ·revert hs
      obtain ⟨b,o,s⟩:=a
      cases s with
      | none=>intro _;rfl
      | some s=>intro hs;exact absurd rfl hs
     ·rcases Nat.lt_or_ge a.block W.heap.size with h | h
      ·exact h
      ·have:W.heap[a.block]?=some _:=hheap
       rw [Array.getElem?_eq_none h] at this;cases this
   ·cases h5
  have hcell:∀ (i j:Nat) (c:D),i < len→(ds i)[j]?=some c→∃ v,W.cell? ⟨a.block,a.off+(i * ks.length+j),none⟩=some v∧DR W (fun _=>False) c v∧one v=true:=by
   intro i j c hi hj
   obtain ⟨c',c1,c2,c3,c4⟩:=hds i hi
   have hjl:j < (ds i).length:=(List.getElem?_eq_some_iff.1 hj).1
   rw [Uz c1] at hjl
   have h6:=c4 j hjl
   have hv:c'[j]?=some (c'[j]'(by omega)):=List.getElem?_eq_getElem (by omega)
   rw [hv] at h6
   refine ⟨_,?_,c2.at j _ _ hj hv⟩
   have e:(a.add (i * ks.length)).add j=⟨a.block,a.off+(i * ks.length+j),none⟩:=by
    rw [(ha (by omega)).1,Go.SX.add_at,Go.SX.add_at,Nat.add_assoc]
   rw [← h6,e]
  refine EX (d:=.lst false ks.length ((List.range len).map fun i=>mk (ds i))) ?_ ?_ rfl
  ·unfold Kd.ok
   refine ⟨_,rfl,by simp;omega,fun e he=>?_⟩
   simp only [List.mem_map,List.mem_range] at he
   obtain ⟨i,hi,rfl⟩:=he
   obtain ⟨c,c1,_⟩:=hds i hi
   cases agg with
   | true=>exact ⟨ds i,rfl,c1⟩
   | false =>
    have h3:=h1 rfl
    have h4:=Uz c1
    rw [h3] at h4
    simp only [mk]
    match hdi:ds i,h4 with
    | [d],_=>rw [hdi] at c1;exact c1
  ·have key:=DR.lst (w:=W) (M:=fun _=>False) false ks.length ((List.range len).map fun i=>mk (ds i)) (some a) cap a.block a.off (fun k=>(W.cell? ⟨a.block,a.off+k,none⟩).getD .nilIface)
    (fun h=>by cases h) (by simp;omega)
    (fun hne=>by
     have h0:0 < len:=by
      rcases Nat.eq_zero_or_pos len with h | h
      ·subst h;simp at hne
      ·exact h
     exact ⟨by rw [← (ha h0).1],fun h=>h,(ha h0).2⟩)
    (fun i e he=>by
     rw [List.getElem?_map] at he
     simp only [Option.map_eq_some_iff] at he
     obtain ⟨k,hk1,rfl⟩:=he
     obtain ⟨hk2,rfl⟩:=List.getElem?_eq_some_iff.1 hk1
     simp only [List.length_range] at hk2
     simp only [List.getElem_range]
     obtain ⟨c,c1,_⟩:=hds i hk2
     rw [hmk i hk2,Uz c1])
    (fun i e j c he hj=>by
     rw [List.getElem?_map] at he
     simp only [Option.map_eq_some_iff] at he
     obtain ⟨k,hk1,rfl⟩:=he
     obtain ⟨hk2,rfl⟩:=List.getElem?_eq_some_iff.1 hk1
     simp only [List.length_range] at hk2
     simp only [List.getElem_range] at hj
     rw [hmk i hk2] at hj
     obtain ⟨v,v1,v2,v3⟩:=hcell i j c hk2 hj
     simp only [v1,Option.getD_some]
     exact ⟨trivial,v3⟩)
    (fun i e j c he hj=>by
     rw [List.getElem?_map] at he
     simp only [Option.map_eq_some_iff] at he
     obtain ⟨k,hk1,rfl⟩:=he
     obtain ⟨hk2,rfl⟩:=List.getElem?_eq_some_iff.1 hk1
     simp only [List.length_range] at hk2
     simp only [List.getElem_range] at hj
     rw [hmk i hk2] at hj
     obtain ⟨v,v1,v2,v3⟩:=hcell i j c hk2 hj
     simp only [v1,Option.getD_some]
     exact v2)
   simpa using key
theorem YW:∀ (d:Nat) (fuel:Nat) (t:TypeId) (cs:List Value) (x:DataW H×List MemPlace) (ks:List Kd),Vz P d t=some ks→DataW.trod enc P W base sp held fuel t cs=some x→∃ ds,Kd.oks ks ds∧Reads W ds cs
 | 0,_,_,_,_,_,h,_=>by cases h
 | d+1,fuel,t,cs,x,ks,h,hx=>by
  unfold Vz at h
  split at h
  ·rename_i k ht
   cases h
   obtain ⟨n,rfl,_,hw⟩:=DataW.trod_int ht hx
   simp only [Lit.wf,Bool.and_eq_true,decide_eq_true_eq] at hw
   exact EX (by unfold Kd.ok;exact ⟨n,rfl,hw⟩) (.v _) rfl
  ·rename_i ht
   cases h
   obtain ⟨b,rfl,_⟩:=DataW.trod_bool ht hx
   exact EX (by unfold Kd.ok;exact ⟨b,rfl⟩) (.v _) rfl
  ·rename_i ht
   cases h
   obtain ⟨s,rfl,_,hs⟩:=DataW.trod_string ht hx
   exact EX (by unfold Kd.ok;exact ⟨s,rfl,hs⟩) (.v _) rfl
  ·rename_i k ht
   cases h
   obtain ⟨b,rfl,hw⟩:=kM ht hx
   exact EX (by unfold Kd.ok;exact ⟨b,rfl,hw⟩) (.v _) rfl
  ·rename_i e ht
   split at h
   ·rename_i k1 _ hk1 _
    split at h
    case h_2=>cases h
    rename_i hb
    cases h
    simp only [Bool.and_eq_true,Nat.beq_eq,Nat.blt_eq] at hb
    exact G2 ht hx hb.1 hb.2 (fun h=>by cases h) fun n c y hy=>YW d n e c y _ hk1 hy
   ·rename_i k1 _ _ hk1 _
    split at h
    case h_2=>cases h
    rename_i hb
    cases h
    simp only [Bool.and_eq_true,Nat.beq_eq,Nat.blt_eq] at hb
    exact G2 ht hx hb.1 hb.2 (fun h=>by cases h) fun n c y hy=>YW d n e c y _ hk1 hy
   ·rename_i k1 _ _ _ hk1 _
    split at h
    case h_2=>cases h
    rename_i hb
    cases h
    simp only [Bool.and_eq_true,Nat.beq_eq] at hb
    exact G2 ht hx hb.1 (by omega) (fun _=>hb.2.symm) fun n c y hy=>YW d n e c y _ hk1 hy
   ·cases h
  ·rename_i fs ht
   split at h
   case h_2=>cases h
   rename_i k1 hk1
   split at h
   case h_2=>cases h
   rename_i hb
   cases h
   simp only [Nat.beq_eq] at hb
   obtain ⟨n,rfl,hl,hf⟩:=jI ht hx
   have:=qW (P:=P) (W:=W) (f:=Vz P d) (g:=fun t cs=>∃ y,DataW.trod enc P W base sp held n t cs=some y) (fun t cs ks h1 h2=>by
    obtain ⟨y,hy⟩:=h2
    exact YW d n t cs y ks h1 hy) fs.toList 0 _ hk1 hf (by omega)
   rwa [List.drop_zero] at this
  ·rename_i m e ht
   split at h
   case h_2=>cases h
   rename_i k1 hk1
   split at h
   case h_2=>cases h
   rename_i hb
   cases h
   simp only [Bool.and_eq_true,Nat.beq_eq] at hb
   obtain ⟨n,rfl,hl,hf⟩:=kN ht hx
   have:=wd (W:=W) (ks:=k1) (cs:=cs) (m:=m) (fun i hi=>by
    obtain ⟨y,hy⟩:=hf i hi
    rw [← hb.1] at hy
    exact YW d n e _ y _ hk1 hy) (by omega) m (Nat.le_refl _)
   rwa [Nat.sub_self,Nat.zero_mul,List.drop_zero] at this
  ·cases h
end
set_option maxRecDepth 20000
open Go.WideShapes Go.ChangeShapes
def Qab (P:Program) (t:TypeId):Prop:=∃ d ks,Vz P d t=some ks
theorem X6 {P:Program} {f:TypeId→Option (List Kd)}:∀ (fs:List Field) (off:Nat) (ks:List Kd),JP P f off fs=some ks →
  (∀ fd,fd∈fs→∃ k,f fd.type=some k)∧ks.length=(fs.map fun fd=>P.cellsOf fd.type).sum∧∀ (j:Nat) fd,fs[j]?=some fd→fd.offset=off+((fs.take j).map fun fd=>P.cellsOf fd.type).sum
 | [],off,ks,h=>by
  simp only [JP,Option.some.injEq] at h;subst h
  exact ⟨fun _ h=>(by cases h),rfl,fun j fd h=>(by simp at h)⟩
 | fd::l,off,ks,h=>by
  unfold JP at h
  split at h
  case h_2=>cases h
  rename_i k1 hk1
  split at h
  case h_2=>cases h
  rename_i r hb hr
  simp only [Option.some.injEq] at h;subst h
  simp only [Bool.and_eq_true,Nat.beq_eq] at hb
  obtain ⟨a,b,c⟩:=X6 l _ r hr
  refine ⟨fun x hx=>?_,?_,fun j x hj=>?_⟩
  ·rcases List.mem_cons.1 hx with rfl | hx
   ·exact ⟨_,hk1⟩
   ·exact a x hx
  ·simp [b,hb.2]
  ·cases j with
   | zero=>simp at hj;subst hj;simp [hb.1]
   | succ j =>
    have:=c j x (by simpa using hj)
    simp only [List.take_succ_cons,List.map_cons,List.sum_cons]
    rw [this,hb.2];omega
theorem yW (P:Program):Kids P (Qab P) where
 pointer:=fun {t e} h ht=>by
  obtain ⟨d,ks,h⟩:=h
  cases d with
  | zero=>cases h
  | succ d=>unfold Vz at h;rw [ht] at h;cases h
 slice:=fun {t e} h ht=>by
  obtain ⟨d,ks,h⟩:=h
  cases d with
  | zero=>cases h
  | succ d =>
   unfold Vz at h;rw [ht] at h;simp only at h
   cases hk:Vz P d e with
   | none=>rw [hk] at h;simp at h
   | some k=>exact ⟨d,k,hk⟩
 array:=fun {t e n} h ht=>by
  obtain ⟨d,ks,h⟩:=h
  cases d with
  | zero=>cases h
  | succ d =>
   unfold Vz at h;rw [ht] at h;simp only at h
   split at h
   case h_2=>cases h
   rename_i k1 hk1
   split at h
   case h_2=>cases h
   rename_i hb
   simp only [Bool.and_eq_true,Nat.beq_eq] at hb
   exact ⟨⟨d,_,hk1⟩,by rw [← hb.2,hb.1]⟩
 struct:=fun {t fs} h ht=>by
  obtain ⟨d,ks,h⟩:=h
  cases d with
  | zero=>cases h
  | succ d =>
   unfold Vz at h;rw [ht] at h;simp only at h
   split at h
   case h_2=>cases h
   rename_i k1 hk1
   split at h
   case h_2=>cases h
   rename_i hb
   simp only [Nat.beq_eq] at hb
   obtain ⟨a,b,c⟩:=X6 _ _ _ hk1
   exact ⟨fun f hf=>by obtain ⟨k,hk⟩:=a f hf;exact ⟨d,k,hk⟩,by rw [← hb,b],fun j f hj=>by rw [c j f hj,Nat.zero_add]⟩
 map:=fun {t k e} h ht=>by
  obtain ⟨d,ks,h⟩:=h
  cases d with
  | zero=>cases h
  | succ d=>unfold Vz at h;rw [ht] at h;cases h
theorem Qam {P:Program} {t e:TypeId} (h:Qab P t) (ht:P.underlying t=some (.slice e)):0 < P.cellsOf e:=by
 obtain ⟨d,ks,h⟩:=h
 cases d with
 | zero=>cases h
 | succ d =>
  unfold Vz at h;rw [ht] at h;simp only at h
  split at h
  ·split at h
   case h_2=>cases h
   rename_i hb
   simp only [Bool.and_eq_true,Nat.beq_eq,Nat.blt_eq] at hb
   omega
  ·split at h
   case h_2=>cases h
   rename_i hb
   simp only [Bool.and_eq_true,Nat.beq_eq,Nat.blt_eq] at hb
   omega
  ·split at h
   case h_2=>cases h
   rename_i hb
   simp only [Bool.and_eq_true,Nat.beq_eq] at hb
   omega
  ·cases h
def JQ (P:Program) (t:TypeId):Bool:=match P.underlying t with
 | some (.struct _)=>true
 | some (.array _ _)=>true
 | _=>false
def okA:Bool×List Kd→D→Prop
 | (true,ks),d=>∃ cs,d=.agg cs∧Kd.oks ks cs
 | (false,ks),d=>Kd.oks ks [d]
def ud:List (Bool×List Kd)→List D→Prop
 | [],ds=>ds=[]
 | k::r,ds=>∃ d l,ds=d::l∧okA k d∧ud r l
def Vb (P:Program):List TypeId→Option (List (Bool×List Kd))
 | []=>some []
 | t::ts=>match Vz P 12 t,Vb P ts with
  | some ks,some r=>match JQ P t || Nat.beq ks.length 1 with
   | true=>some ((JQ P t,ks)::r)
   | false=>none
  | _,_=>none
section
variable {H:Type} {enc:TypeId×Value→H} {P:Program} {W:World} {base:Nat} {sp:Nat→Bool} {held:Bool}
theorem Qaj {r:Reach} {b0:Nat} {t:TypeId} {v:Value} {ks:List Kd} (hk:Vz P 12 t=some ks) (hval:Value.okWide P W r b0 t v) (ha:JQ P t=false):v.cells=#[v]:=by
 unfold Vz at hk
 unfold JQ at ha
 split at hk
 ·rename_i k ht;obtain ⟨n,rfl⟩:=okWide_int ht hval;rfl
 ·rename_i ht;obtain ⟨n,rfl⟩:=okWide_bool ht hval;rfl
 ·rename_i ht;obtain ⟨n,rfl⟩:=okWide_string ht hval;rfl
 ·rename_i k ht
  rw [Value.okWide,ht] at hval
  cases v <;> simp_all [Cell.okWide,Cell.ok,Value.cells]
 ·rename_i e ht;obtain ⟨a,l,c,rfl⟩:=okWide_slice ht hval;rfl
 ·rename_i ht;rw [ht] at ha;cases ha
 ·rename_i ht;rw [ht] at ha;cases ha
 ·cases hk
theorem ua {r:Reach} {b0:Nat} {t:TypeId} {v:Value} {d:DataW H} {p:List MemPlace} {ks:List Kd} (hk:Vz P 12 t=some ks) (hval:Value.okWide P W r b0 t v) (hd:DataW.Trod enc P W base sp held t v d p) (h1:(JQ P t || Nat.beq ks.length 1)=true) :
  ∃ x,okA (JQ P t,ks) x∧DR W (fun _=>False) x v:=by
 obtain ⟨fuel,hf⟩:=hd
 obtain ⟨ds,a,b⟩:=YW 12 fuel t _ _ ks hk hf
 cases hag:JQ P t with
 | true =>
  have hv:∃ cs,v=.agg cs:=by
   unfold JQ at hag
   unfold Value.okWide at hval
   split at hag
   ·rename_i ht;rw [ht] at hval;obtain ⟨cs,h,_⟩:=hval;exact ⟨cs,h⟩
   ·rename_i ht;rw [ht] at hval;obtain ⟨cs,h,_⟩:=hval;exact ⟨cs,h⟩
   ·cases hag
  obtain ⟨cs,rfl⟩:=hv
  have hc:(Value.agg cs).cells.toList=cs.toList:=rfl
  rw [hc] at b
  have:=DR.agg (w:=W) (M:=fun _=>False) ds cs.toList b.len (fun i c y hc hy=>(b.at i c y hc hy).1)
  exact ⟨.agg ds,⟨ds,rfl,a⟩,by simpa using this⟩
 | false =>
  have hs:=Qaj hk hval hag
  rw [hs] at b
  rw [hag] at h1
  simp only [Bool.false_or,Nat.beq_eq] at h1
  have hl:=Uz a
  rw [h1] at hl
  match ds,hl with
  | [x],_=>exact ⟨x,a,(b.at 0 x v rfl rfl).1⟩
theorem jC {r:Reach} {b0:Nat}:∀ {ts:List TypeId} {vs:List Value} {ds:List (DataW H)} {p:List MemPlace} {pk:List (Bool×List Kd)},DataW.TrodAll enc P W base sp held ts vs ds p→Vb P ts=some pk →
  (∀ (j:Nat) t v,ts[j]?=some t→vs[j]?=some v→Value.okWide P W r b0 t v)→∃ Ds:List D,ud pk Ds∧Ds.length=vs.length∧∀ (i:Nat) (c:D) (y:Value),Ds[i]?=some c→vs[i]?=some y→DR W (fun _=>False) c y
 | [],vs,ds,p,pk,h,hk,_=>by
  obtain ⟨rfl,rfl,rfl⟩:=trodAll_nil h
  cases hk
  exact ⟨[],rfl,rfl,fun i c y h=>by simp at h⟩
 | t::ts,vs,ds,p,pk,h,hk,hv=>by
  obtain ⟨v,vs',d,ds',a,b,rfl,rfl,rfl,h1,h2⟩:=trodAll_cons h
  unfold Vb at hk
  split at hk
  case h_2=>cases hk
  rename_i ks r hks hr
  split at hk
  case h_2=>cases hk
  rename_i hb
  cases hk
  obtain ⟨x,x1,x2⟩:=ua hks (hv 0 t v rfl rfl) h1 hb
  obtain ⟨Ds,y1,y2,y3⟩:=jC h2 hr (fun j t v h k=>hv (j+1) t v (by simpa using h) (by simpa using k))
  refine ⟨x::Ds,⟨x,Ds,rfl,x1,y1⟩,by simp [y2],fun i c y hc hy=>?_⟩
  cases i with
  | zero=>simp at hc hy;subst hc;subst hy;exact x2
  | succ i=>exact y3 i c y (by simpa using hc) (by simpa using hy)
theorem wr:∀ {ts:List TypeId} {pk:List (Bool×List Kd)},Vb P ts=some pk→∀ t,t∈ts→Qab P t
 | [],_,_,t,h=>by cases h
 | t::ts,pk,hk,u,hu=>by
  unfold Vb at hk
  split at hk
  case h_2=>cases hk
  rename_i ks r hks hr
  rcases List.mem_cons.1 hu with rfl | hu
  ·exact ⟨_,_,hks⟩
  ·exact wr hr u hu
theorem jB {W' : World} {sp' : Nat→Bool}:∀ {ts:List TypeId} {vs:List Value} {ds:List (DataW H)} {p:List MemPlace},DataW.TrodAll enc P W base (fun _=>true) true ts vs ds p→(∀ t,t∈ts→Qab P t) →
  (∀ q,q∈p→W.sameAt W' q)→(∀ q,q∈p→sp' q.block=true)→DataW.TrodAll enc P W' base sp' true ts vs ds p
 | [],vs,ds,p,h,_,_,_=>by
  obtain ⟨rfl,rfl,rfl⟩:=trodAll_nil h
  exact rfl
 | t::ts,vs,ds,p,h,hp,h3,h4=>by
  obtain ⟨v,vs',d,ds',a,b,rfl,rfl,rfl,⟨fuel,h1⟩,h2⟩:=trodAll_cons h
  exact ⟨a,b,⟨fuel,DataW.trod_stays (yW P) (fun ht hu=>Qam ht hu) (fun h=>by cases h) (hp t List.mem_cons_self) h1 (fun q hq=>h3 q (List.mem_append_left _ hq)) (fun q hq=>h4 q (List.mem_append_left _ hq))⟩,
   jB h2 (fun t ht=>hp t (List.mem_cons_of_mem _ ht)) (fun q hq=>h3 q (List.mem_append_right _ hq)) (fun q hq=>h4 q (List.mem_append_right _ hq)),rfl⟩
end
theorem QaL {w w' : World} (h:Ext w (fun _=>False) w'):Below w.heap.size w w':=⟨h.os,h.tape,h.output,h.size,fun r hr=>h.same r hr (fun h=>h)⟩
theorem jM {W W' : World} (h:Below W.heap.size W W') {p:MemPlace} (hp:p.block < W.heap.size):W.sameAt W' p:=by
 cases p with
 | cell b off =>
  show W'.cell? ⟨b,off,none⟩=W.cell? ⟨b,off,none⟩
  unfold World.cell?
  rw [h.block b hp]
 | map b=>exact h.block b hp
theorem Qai {H:Type} {enc:TypeId×Value→H} {P:Program} {w:World} {base:Nat} {sp:Nat→Bool} {held:Bool} {t:TypeId} (ht:P.underlying t=some .bool):DataW.Trod enc P w base sp held t (.bool true) (.lit (.bool true)) [] :=
 ⟨1,by simp [DataW.trod,Value.cells,ht]⟩
theorem yB {f:FuncId} {fn:Func} {spec:ChangeSpec} {pk:List (Bool×List Kd)} {bt:TypeId} (hpk:Vb Tryz.prog fn.params.toList=some pk)
  (hb:Tryz.prog.underlying bt=some .bool) (hres:fn.resultTypes=#[bt]) (hvars:spec.vars=[])
  (hspec:∀ (H:Type) (ds:List (DataW H)),ds.length=fn.params.size→spec.fn H ds={ results:=[.lit (.bool true)],args:=ds })
  (hlaw:∀ Ds,ud pk Ds→Computes cx f Ds (.v (.bool true)))
  (H:Type) (enc:TypeId×Value→H) (W:World) (base:Nat) (args:Array Value) (ds gs:List (DataW H)) (before:List MemPlace)
  (hval:∀ (j:Nat) t v,fn.params[j]?=some t→args[j]?=some v→Value.okWide Tryz.prog W .any base t v)
  (hW:DataW.Whole enc Tryz.prog fn.params.toList spec.vars false W args.toList ds gs before)
  (hG:∀ g x,cx.G g=some x→GAt W (fun _=>False) g x) :
  Calls Tryz.prog f args W fun e W'=>∃ v,e=.returned v∧spec.post enc Tryz.prog fn false true false false W args v W':=by
 have hW':=hW
 obtain ⟨p,q,hA,hV,rfl,hfz,hnd⟩:=hW
 rw [hvars] at hV
 obtain ⟨rfl,rfl⟩:=trodVars_none hV
 have hval' : ∀ (j:Nat) t v,fn.params.toList[j]?=some t→args.toList[j]?=some v→Value.okWide Tryz.prog W .any base t v:=by
  intro j t v hj hv
  rw [Array.getElem?_toList] at hj hv
  exact hval j t v hj hv
 obtain ⟨Ds,h1,h2,h3⟩:=jC (H:=H) (enc:=enc) (P:=Tryz.prog) (W:=W) (base:=0) (sp:=fun _=>true) (held:=true) (r:=.any) (b0:=base) (ts:=fn.params.toList) (vs:=args.toList) hA hpk hval'
 have hc:=hlaw Ds h1 W (fun _=>False) args.toList (fun _ h=>h.elim) hG h2 h3
 rw [Array.toArray_toList] at hc
 refine hc.mono fun e W' ⟨y,he,hy,hx⟩=>⟨y,he,?_⟩
 have hyt:=dr_v hy
 subst hyt
 have hbl:=QaL hx
 have hlt:=hW'.lt
 have hlen:ds.length=fn.params.size:=by
  have:∀ {ts:List TypeId} {vs:List Value} {ds:List (DataW H)} {p:List MemPlace},DataW.TrodAll enc Tryz.prog W 0 (fun _=>true) true ts vs ds p→ds.length=ts.length:=by
   intro ts
   induction ts with
   | nil=>intro vs ds p h;obtain ⟨rfl,rfl,rfl⟩:=trodAll_nil h;rfl
   | cons t ts ih=>intro vs ds p h;obtain ⟨v,vs',d,ds',a,b,rfl,rfl,rfl,_,h2⟩:=trodAll_cons h;simp [ih h2]
  exact (this hA).trans Array.length_toList
 have hsp:=hspec H (ds++[]) (by rw [List.append_nil];exact hlen)
 refine ⟨ds,[],p++[],[],p,[],hW',?_,?_,?_,hbl.frame _,fun h=>by cases h⟩
 ·rw [hsp,hres]
  exact trodAll_mk1 (Qai hb)
 ·rw [hsp]
  simp only [List.append_nil]
  exact jB hA (wr hpk) (fun q hq=>jM hbl (hlt q (List.mem_append_left _ hq))) (fun q hq=>decide_eq_true (hlt q (List.mem_append_left _ hq)))
 ·rw [hsp,hvars]
  rfl
theorem uc {k:Bool×List Kd} {r:List (Bool×List Kd)} {Ds:List D} (h:ud (k::r) Ds):∃ d l,Ds=d::l∧okA k d∧ud r l:=h
theorem Qcw {Ds:List D} (h:ud [] Ds):Ds=[]:=h
theorem QcI {k:Kd} {ks:List Kd} {ds:List D} (h:Kd.oks (k::ks) ds):∃ d r,ds=d::r∧Kd.ok k d∧Kd.oks ks r:=by unfold Kd.oks at h;exact h
theorem Qcn {k:Kd} {d:D} (h:Kd.oks [k] [d]):Kd.ok k d:=by
 obtain ⟨d',r,h1,h2,_⟩:=QcI h
 cases h1;exact h2
theorem Qbe {k:Kd} {d:D} (h:okA (false,[k]) d):Kd.ok k d:=Qcn h
theorem ok_i {k:IntKind} {d:D} (h:Kd.ok (.int k) d):∃ n,d=.v (.int k n)∧k.min≤n∧n≤k.max:=by unfold Kd.ok at h;exact h
theorem Qco {k:FloatKind} {d:D} (h:Kd.ok (.flt k) d):∃ b,d=.v (.float k b)∧(Lit.float k b).wf=true:=by unfold Kd.ok at h;exact h
theorem QcJ {k:Kd} {d:D} (h:Kd.ok (.lst false [k]) d):∃ es,d=.lst false 1 es∧es.length≤maxLen∧∀ e,e∈es→Kd.ok k e:=by
 unfold Kd.ok at h
 obtain ⟨es,h1,h2,h3⟩:=h
 exact ⟨es,h1,h2,fun e he=>Qcn (h3 e he)⟩
theorem Qbp {α:Type} {enc:α→D} {p:α→Prop}:∀ {es:List D},(∀ e,e∈es→∃ x,e=enc x∧p x)→∃ xs:List α,es=xs.map enc∧∀ x,x∈xs→p x
 | [],_=>⟨[],rfl,fun x hx=>by cases hx⟩
 | e::es,h=>by
  obtain ⟨x,rfl,hx⟩:=h e List.mem_cons_self
  obtain ⟨xs,rfl,hxs⟩:=Qbp (es:=es) fun y hy=>h y (List.mem_cons_of_mem _ hy)
  refine ⟨x::xs,rfl,fun y hy=>?_⟩
  rcases List.mem_cons.1 hy with rfl | hy
  ·exact hx
  ·exact hxs y hy
theorem QcM {n:Int} (h:IntKind.i64.min≤n∧n≤IntKind.i64.max):Qa n:=h
theorem ki {P:Program} {w:World} {n:String} {d:DataW Unit}:∀ {l:List (String×DataW Unit)} {ps:List MemPlace} (i:Nat),DataW.LaidVars P w l ps→l[i]?=some (n,d) →
  ∃ g t cs fuel p,P.globalNamed n=some g∧(P.globals[g]?).map (·.type)=some t∧w.var? P n=some cs∧DataW.trod (fun _=>()) P w 0 (fun _=>true) false fuel t cs.toList=some (d,p)
 | [],_,i,_,hi=>by simp at hi
 | (m,e)::r,ps,0,h,hi=>by
  simp only [List.getElem?_cons_zero,Option.some.injEq,Prod.mk.injEq] at hi
  obtain ⟨rfl,rfl⟩:=hi
  obtain ⟨g,t,cs,fuel,p,q,h1,h2,h3,h4,_,_⟩:=h
  exact ⟨g,t,cs,fuel,p,h1,h2,h3,h4⟩
 | (m,e)::r,ps,i+1,h,hi=>by
  obtain ⟨g,t,cs,fuel,p,q,h1,h2,h3,h4,h5,_⟩:=h
  exact ki i h5 (by simpa using hi)
theorem jb {α:Type} {n:Nat}:∀ (m:Nat) (cs:List α) (zss:List (List α)),zss.length=m→cs.length=m * n→(∀ i z,zss[i]?=some z→(cs.drop (i * n)).take n=z)→cs=zss.flatten
 | 0,cs,zss,hz,hc,_=>by
  rw [Nat.zero_mul] at hc
  rw [List.eq_nil_of_length_eq_zero hc,List.eq_nil_of_length_eq_zero hz];rfl
 | m+1,cs,zss,hz,hc,h=>by
  match zss,hz with
  | z::r,hz =>
   have h0:=h 0 z rfl
   rw [Nat.zero_mul,List.drop_zero] at h0
   have ih:=jb (n:=n) m (cs.drop n) r (by simpa using hz) (by simp [hc,Nat.add_mul]) (fun i y hi=>by
    have:=h (i+1) y (by simpa using hi)
    rw [List.drop_drop,Nat.add_comm n,← Nat.succ_mul]
    exact this)
   rw [List.flatten_cons,← ih,← h0,List.take_append_drop]
theorem wG {H:Type} {enc:TypeId×Value→H} {P:Program} {w:World} {base:Nat} {sp:Nat→Bool} {held:Bool} {fuel:Nat} {t t1 e:TypeId} {m n:Nat} {k:IntKind} {cs:List Value} {zss:List (List Int)} {p:List MemPlace}
  (ht:P.underlying t=some (.array m t1)) (h1:P.underlying t1=some (.array n e)) (he:P.underlying e=some (.int k)) (hce:P.cellsOf e=1) (hc1:P.cellsOf t1=n) (hct:P.cellsOf t=m * n)
  (h:DataW.trod enc P w base sp held fuel t cs=some (.agg (zss.map (Lib.tabData k)),p)):cs=(zss.flatten).map fun z=>Value.int k z:=by
 cases fuel with
 | zero=>simp [DataW.trod] at h
 | succ fuel =>
  simp only [DataW.trod,ht,hc1,hct] at h
  split at h
  case isFalse=>cases h
  rename_i hl
  obtain ⟨xs,hm,hx⟩:=Option.map_eq_some_iff.1 h
  have hxs:xs.map (·.1)=zss.map (Lib.tabData (H:=H) k):=by
   have:=congrArg Prod.fst hx
   simpa using this
  have hxl:xs.length=m:=by simpa using Lib.mapM_length hm
  have hzl:zss.length=m:=by
   have:=congrArg List.length hxs
   simp at this
   omega
  rw [jb (n:=n) m cs (zss.map fun zs=>zs.map fun z=>Value.int k z) (by simpa using hzl) hl (fun i z hi=>?_)]
  ·rw [List.map_flatten]
  ·rw [List.getElem?_map] at hi
   obtain ⟨zs,hzs,rfl⟩:=Option.map_eq_some_iff.1 hi
   have him:i < m:=by
    have:=(List.getElem?_eq_some_iff.1 hzs).1
    omega
   obtain ⟨b,hb,hf⟩:=Lib.mapM_at hm i i (by simp [him])
   have h2:(xs.map (·.1))[i]?=some b.1:=by simp [hb]
   rw [hxs,List.getElem?_map,hzs] at h2
   obtain ⟨b1,b2⟩:=b
   have h3:Lib.tabData k zs=b1:=Option.some.inj h2
   rw [← h3] at hf
   exact Lib.cells_of_tab h1 he hce hc1 hf
theorem Qbz {P:Program} {W:World} {name:String} {g:Nat} {k:IntKind} {zs:List Int} (hg:P.globalNamed name=some g) (h:W.var? P name=some (zs.map fun z=>Value.int k z).toArray) :
  GAt W (fun _=>False) g (.agg (zs.map fun z=>.v (.int k z))):=by
 have hc:=World.var?_cell hg h
 unfold World.var? at h
 rw [hg,Option.bind_some] at h
 split at h
 case h_2=>cases h
 rename_i cs t fz hh
 simp only [Option.some.injEq] at h
 refine ⟨⟨fun h=>h,?_,fun j c hj=>?_⟩,cs,t,fz,hh,by rw [h];simp [D.cells]⟩
 ·rcases Nat.lt_or_ge g W.heap.size with h | h
  ·exact h
  ·rw [Array.getElem?_eq_none h] at hh;cases hh
 ·have hj' : (zs.map fun z=>D.v (.int k z))[j]?=some c:=hj
  rw [List.getElem?_map] at hj'
  obtain ⟨z,hz,rfl⟩:=Option.map_eq_some_iff.1 hj'
  refine ⟨.int k z,?_,.v _⟩
  rw [Nat.zero_add,hc j]
  simp [hz]
theorem gat1 {P:Program} {W:World} {laid:List (String×DataW Unit)} {ps:List MemPlace} {name:String} {g:Nat} {t e:TypeId} {n:Nat} {k:IntKind} {zs:List Int} (i:Nat) (hl:DataW.LaidVars P W laid ps) (hi:laid[i]?=some (name,Lib.tabData k zs))
  (hg:P.globalNamed name=some g) (hty:(P.globals[g]?).map (·.type)=some t) (ht:P.underlying t=some (.array n e)) (he:P.underlying e=some (.int k)) (hce:P.cellsOf e=1) (hct:P.cellsOf t=n) :
  GAt W (fun _=>False) g (.agg (zs.map fun z=>.v (.int k z))):=by
 obtain ⟨g',t',cs,fuel,p,hg',ht',hv,hd⟩:=ki i hl hi
 obtain rfl:=Option.some.inj (hg.symm.trans hg')
 obtain rfl:=Option.some.inj (hty.symm.trans ht')
 have:=Lib.cells_of_tab ht he hce hct hd
 exact Qbz hg (by rw [hv,← this])
theorem gat2 {P:Program} {W:World} {laid:List (String×DataW Unit)} {ps:List MemPlace} {name:String} {g:Nat} {t t1 e:TypeId} {m n:Nat} {k:IntKind} {zss:List (List Int)} (i:Nat) (hl:DataW.LaidVars P W laid ps) (hi:laid[i]?=some (name,.agg (zss.map (Lib.tabData k))))
  (hg:P.globalNamed name=some g) (hty:(P.globals[g]?).map (·.type)=some t) (ht:P.underlying t=some (.array m t1)) (h1:P.underlying t1=some (.array n e)) (he:P.underlying e=some (.int k)) (hce:P.cellsOf e=1) (hc1:P.cellsOf t1=n) (hct:P.cellsOf t=m * n) :
  GAt W (fun _=>False) g (.agg ((zss.flatten).map fun z=>.v (.int k z))):=by
 obtain ⟨g',t',cs,fuel,p,hg',ht',hv,hd⟩:=ki i hl hi
 obtain rfl:=Option.some.inj (hg.symm.trans hg')
 obtain rfl:=Option.some.inj (hty.symm.trans ht')
 have:=wG ht h1 he hce hc1 hct hd
 exact Qbz hg (by rw [hv,← this])
theorem Qby {W:World} (h0:GAt W (fun _=>False) 0 (.agg ((([[1,0],[0,1]]:List (List Int)).flatten).map fun z=>.v (.int .i64 z))))
  (h3:GAt W (fun _=>False) 3 (.agg (Lib.pow10Tab.map fun z=>.v (.int .u64 z)))) (g:Nat) (x:D) (hg:cx.G g=some x):GAt W (fun _=>False) g x:=by
 have e:cx.G g=(match Nat.beq g 0 with
  | true=>some (.agg [I 1,I 0,I 0,I 1])
  | false=>match Nat.beq g 3 with
   | true=>some pow10D
   | false=>none):=rfl
 rw [e] at hg
 split at hg
 ·rename_i hb
  rw [Nat.eq_of_beq_eq_true hb]
  cases hg
  exact h0
 ·split at hg
  ·rename_i hb
   rw [Nat.eq_of_beq_eq_true hb]
   cases hg
   exact h3
  ·cases hg
set_option maxRecDepth 10000
open Go.Shelf
def Tryz.lays156_ren:Go.Shelf.Ren:=⟨fun | 156=>53 | 165=>73 | 166=>74 | 169=>75 | 240=>93 | 241=>94 | 276=>104 | 277=>105 | n=>n,fun | 31=>114 | 9=>9 | 3=>3 | 4=>4 | 0=>0 | 20=>20 | 72=>139 | 76=>143 | 70=>136 | 37=>137 | 75=>142 | 127=>165 | 164=>172 | 5=>5 | 80=>117 | n=>n,fun | n=>n⟩
theorem Tryz.lays156:Go.Proofs.Lays.n156 Tryz.prog Tryz.lays156_ren:={
 mixed:=by kernel_rfl
 f156:=Tryz.func53.trans (congrArg some (by kernel_rfl))
 f165:=Tryz.func73.trans (congrArg some (by kernel_rfl))
 f166:=Tryz.func74.trans (congrArg some (by kernel_rfl))
 f169:=Tryz.func75.trans (congrArg some (by kernel_rfl))
 f240:=Tryz.func93.trans (congrArg some (by kernel_rfl))
 f241:=Tryz.func94.trans (congrArg some (by kernel_rfl))
 f276:=Tryz.func104.trans (congrArg some (by kernel_rfl))
 f277:=Tryz.func105.trans (congrArg some (by kernel_rfl))
 t0:=Tryz.underlying0
 a0:=Tryz.isAgg0
 z0:=Tryz.sizeOf0
 v0:=Tryz.zeroValue0
 t3:=Tryz.underlying3
 a3:=Tryz.isAgg3
 z3:=Tryz.sizeOf3
 v3:=Tryz.zeroValue3
 t4:=Tryz.underlying4
 a4:=Tryz.isAgg4
 z4:=Tryz.sizeOf4
 v4:=Tryz.zeroValue4
 t9:=Tryz.underlying9
 a9:=Tryz.isAgg9
 z9:=Tryz.sizeOf9
 v9:=Tryz.zeroValue9
 t20:=Tryz.underlying20
 a20:=Tryz.isAgg20
 z20:=Tryz.sizeOf20
 v20:=Tryz.zeroValue20
 t31:=Tryz.underlying114
 a31:=Tryz.isAgg114
 z31:=Tryz.sizeOf114
 v31:=Tryz.zeroValue114
 t37:=Tryz.underlying137
 a37:=Tryz.isAgg137
 z37:=Tryz.sizeOf137
 v37:=Tryz.zeroValue137
 t70:=Tryz.underlying136
 a70:=Tryz.isAgg136
 z70:=Tryz.sizeOf136
 v70:=Tryz.zeroValue136
 t72:=Tryz.underlying139
 a72:=Tryz.isAgg139
 z72:=Tryz.sizeOf139
 v72:=Tryz.zeroValue139
 t75:=Tryz.underlying142
 a75:=Tryz.isAgg142
 z75:=Tryz.sizeOf142
 v75:=Tryz.zeroValue142
 t76:=Tryz.underlying143
 a76:=Tryz.isAgg143
 z76:=Tryz.sizeOf143
 v76:=Tryz.zeroValue143
 t127:=Tryz.underlying165
 a127:=Tryz.isAgg165
 z127:=Tryz.sizeOf165
 v127:=Tryz.zeroValue165
 t164:=Tryz.underlying172
 a164:=Tryz.isAgg172
 z164:=Tryz.sizeOf172
 v164:=Tryz.zeroValue172 }
theorem Tryz.Builder_Extra_156:Builder.Extra Tryz.prog Tryz.lays156_ren where
 sizeBuilder:=by kernel_rfl
 liesBuilder:=by kernel_rfl
 t5:=Tryz.underlying5
 a5:=Tryz.isAgg5
 z5:=Tryz.sizeOf5
 v5:=Tryz.zeroValue5
 infoByte:=by kernel_rfl
 cellsByte:=by kernel_rfl
 sizeByte:=by kernel_rfl
 neB5:=by decide
def Tryz.laysM171_ren:Go.Shelf.Ren:=⟨fun | 171=>77 | 243=>95 | 246=>106 | 283=>111 | 284=>112 | 285=>113 | 286=>114 | 129=>92 | 317=>117 | 318=>118 | 319=>119 | 320=>120 | 337=>123 | 338=>124 | n=>n,fun | 3=>3 | 9=>9 | 2=>2 | 4=>4 | 171=>183 | 0=>0 | 53=>164 | 37=>137 | 5=>5 | 173=>185 | 212=>189 | 51=>162 | 20=>20 | 213=>190 | 46=>135 | 232=>192 | 233=>193 | n=>n,fun | 17=>3 | 18=>4 | 19=>5 | n=>n⟩
theorem Tryz.laysM171:Go.Proofs.LaysM.n171 Tryz.prog Tryz.laysM171_ren:={
 mixed:=by kernel_rfl
 f129:=Tryz.func92.trans (congrArg some (by kernel_rfl))
 f171:=Tryz.func77.trans (congrArg some (by kernel_rfl))
 f243:=Tryz.func95.trans (congrArg some (by kernel_rfl))
 f246:=Tryz.func106.trans (congrArg some (by kernel_rfl))
 f283:=Tryz.func111.trans (congrArg some (by kernel_rfl))
 f284:=Tryz.func112.trans (congrArg some (by kernel_rfl))
 f285:=Tryz.func113.trans (congrArg some (by kernel_rfl))
 f286:=Tryz.func114.trans (congrArg some (by kernel_rfl))
 f317:=Tryz.func117.trans (congrArg some (by kernel_rfl))
 f318:=Tryz.func118.trans (congrArg some (by kernel_rfl))
 f319:=Tryz.func119.trans (congrArg some (by kernel_rfl))
 f320:=Tryz.func120.trans (congrArg some (by kernel_rfl))
 f337:=Tryz.func123.trans (congrArg some (by kernel_rfl))
 f338:=Tryz.func124.trans (congrArg some (by kernel_rfl))
 t0:=Tryz.underlying0
 a0:=Tryz.isAgg0
 z0:=Tryz.sizeOf0
 v0:=Tryz.zeroValue0
 t2:=Tryz.underlying2
 a2:=Tryz.isAgg2
 z2:=Tryz.sizeOf2
 v2:=Tryz.zeroValue2
 t3:=Tryz.underlying3
 a3:=Tryz.isAgg3
 z3:=Tryz.sizeOf3
 v3:=Tryz.zeroValue3
 t4:=Tryz.underlying4
 a4:=Tryz.isAgg4
 z4:=Tryz.sizeOf4
 v4:=Tryz.zeroValue4
 t5:=Tryz.underlying5
 a5:=Tryz.isAgg5
 z5:=Tryz.sizeOf5
 v5:=Tryz.zeroValue5
 t9:=Tryz.underlying9
 a9:=Tryz.isAgg9
 z9:=Tryz.sizeOf9
 v9:=Tryz.zeroValue9
 t20:=Tryz.underlying20
 a20:=Tryz.isAgg20
 z20:=Tryz.sizeOf20
 v20:=Tryz.zeroValue20
 t37:=Tryz.underlying137
 a37:=Tryz.isAgg137
 z37:=Tryz.sizeOf137
 v37:=Tryz.zeroValue137
 t46:=Tryz.underlying135
 a46:=Tryz.isAgg135
 z46:=Tryz.sizeOf135
 v46:=Tryz.zeroValue135
 t51:=Tryz.underlying162
 a51:=Tryz.isAgg162
 z51:=Tryz.sizeOf162
 v51:=Tryz.zeroValue162
 t53:=Tryz.underlying164
 a53:=Tryz.isAgg164
 z53:=Tryz.sizeOf164
 v53:=Tryz.zeroValue164
 t171:=Tryz.underlying183
 a171:=Tryz.isAgg183
 z171:=Tryz.sizeOf183
 v171:=Tryz.zeroValue183
 t173:=Tryz.underlying185
 a173:=Tryz.isAgg185
 z173:=Tryz.sizeOf185
 v173:=Tryz.zeroValue185
 t212:=Tryz.underlying189
 a212:=Tryz.isAgg189
 z212:=Tryz.sizeOf189
 v212:=Tryz.zeroValue189
 t213:=Tryz.underlying190
 a213:=Tryz.isAgg190
 z213:=Tryz.sizeOf190
 t232:=Tryz.underlying192
 a232:=Tryz.isAgg192
 z232:=Tryz.sizeOf192
 v232:=Tryz.zeroValue192
 t233:=Tryz.underlying193
 a233:=Tryz.isAgg193
 z233:=Tryz.sizeOf193
 v233:=Tryz.zeroValue193
 g17:=by kernel_rfl
 g18:=by kernel_rfl
 g19:=by kernel_rfl
 i0:=by kernel_rfl
 i2:=by kernel_rfl
 i3:=by kernel_rfl
 i4:=by kernel_rfl
 i5:=by kernel_rfl
 i9:=by kernel_rfl
 i20:=by kernel_rfl
 i37:=by kernel_rfl
 i46:=by kernel_rfl
 i51:=by kernel_rfl
 i53:=by kernel_rfl
 i171:=by kernel_rfl
 i173:=by kernel_rfl
 i212:=by kernel_rfl
 i232:=by kernel_rfl
 i233:=by kernel_rfl
 m17:=by kernel_rfl
 m18:=by kernel_rfl
 m19:=by kernel_rfl }
theorem QcH {w:World} {F:Nat→Prop} (h:GAt w F 3 pow10D):Lib.TabIs Tryz.prog w "internal/strconv.uint64pow10" .u64 Lib.pow10Tab:=by
 obtain ⟨⟨h1,h2,h3⟩,cs,t,fz,h4,h5⟩:=h
 have hg:Tryz.prog.globalNamed "internal/strconv.uint64pow10"=some 3:=by kernel_rfl
 unfold Lib.TabIs World.var?
 rw [hg]
 simp only [Option.bind_some,h4,Option.some.injEq]
 apply Array.ext
 ·rw [h5];simp [pow10D,D.cells]
 ·intro i hi1 hi2
  have hi:i < Lib.pow10Tab.length:=by simpa using hi2
  have hc:pow10D.cells[i]?=some (.v (.int .u64 Lib.pow10Tab[i])):=by
   simp [pow10D,D.cells,hi]
  obtain ⟨y,y1,y2⟩:=h3 i _ hc
  rw [dr_v y2] at y1
  unfold World.cell? at y1
  simp only [h4,Nat.zero_add] at y1
  have y3:cs[i]?=some (Value.int IntKind.u64 Lib.pow10Tab[i]):=y1
  rw [Array.getElem?_eq_getElem hi1] at y3
  rw [Option.some.inj y3]
  simp
def Ur (n:Nat) (a:Int):Option ByteArray:=if Qa a then some ⟨(Lib.itoa a).toArray⟩ else none
theorem wk {n:Nat} {a:Int} {r:ByteArray} (h:Ur n a=some r):Computes cx 77 [I a] (.v (.string r)):=by
 unfold Ur at h
 split at h
 case isFalse=>cases h
 rename_i hi
 cases h
 intro w F vs hF hG hl hd
 match vs,hl with
 | [x],_ =>
  rw [dr_v (hd 0 _ _ rfl rfl)]
  have ht:=QcH (hG 3 _ rfl)
  refine (Any.strconv_Itoa Tryz.laysM171 a hi.1 hi.2 w ht).mono ?_
  rintro e w' ⟨he,k,os,rfl⟩
  refine ⟨_,he,.v _,⟨(fun h=>by cases h),rfl,rfl,rfl,?_,fun r hr _=>?_⟩⟩
  ·simp [Sort.grow,World.drewN]
  ·simp only [Sort.grow,World.drewN]
   rw [Array.getElem?_append_left hr]
def jJ:List D→Option (List ByteArray)
 | []=>some []
 | d::l=>match yP d,jJ l with
  | some x,some xs=>some (x::xs)
  | _,_=>none
theorem wT:∀ {l:List D} {xs:List ByteArray},jJ l=some xs→l=xs.map fun x=>.v (.string x)
 | [],xs,h=>by cases h;rfl
 | d::l,xs,h=>by
  unfold jJ at h
  split at h
  ·rename_i x ys h1 h2
   cases h
   rw [Qag h1,wT h2];rfl
  ·cases h
def QcL (xs:List ByteArray) (sep:ByteArray):ByteArray:=⟨(Lib.join (xs.map (·.data.toList)) sep.data.toList).toArray⟩
def WH (n:Nat) (l:List D) (sep:ByteArray):Option ByteArray :=
 (jJ l).bind fun xs=>if xs.length≤140737488355328∧(Lib.join (xs.map (·.data.toList)) sep.data.toList).length≤140737488355328 then some (QcL xs sep) else none
theorem Uk {n:Nat} {full:Bool} {sz:Nat} {l:List D} {sep r:ByteArray} (h:WH n l sep=some r):Computes cx 53 [.lst full sz l,.v (.string sep)] (.v (.string r)):=by
 unfold WH at h
 obtain ⟨xs,hx,h⟩:=Qg h
 split at h
 case isFalse=>cases h
 rename_i hi
 cases h
 have hl:=wT hx
 intro w F vs hF hG hvl hd
 match vs,hvl with
 | [a,b],_ =>
  rw [dr_v (hd 1 _ _ rfl rfl)]
  have ha:=hd 0 _ _ rfl rfl
  cases ha with
  | lst _ _ _ a0 cap blk off ys hf hc haa hs hw hdr =>
   cases l with
   | nil =>
    cases xs with
    | cons x xs=>simp at hl
    | nil =>
     refine (Any.strings_Join_none Tryz.lays156 Tryz.Builder_Extra_156 a0 cap sep w).mono ?_
     rintro e w' ⟨he,rfl⟩
     exact ⟨_,he,.v _,Ext.refl _ _⟩
   | cons d0 l0 =>
    obtain ⟨h1,h2,h3⟩:=haa (by simp)
    subst h1
    have hlen:(d0::l0).length=xs.length:=by rw [hl];simp
    rw [hlen]
    refine (Any.strings_Join Tryz.lays156 Tryz.Builder_Extra_156 blk off cap xs sep w ?_ h3 hi.1 (by omega) hi.2).mono ?_
    ·intro j x hj
     have hj' : (d0::l0)[j]?=some (.v (.string x)):=by rw [hl];simp [hj]
     have hz:sz=1:=by have:=hs j _ hj';simpa [D.cells] using this.symm
     subst hz
     have q1:=(hw j _ 0 _ hj' rfl).1
     have q2:=dr_v (hdr j _ 0 _ hj' rfl)
     rw [q2] at q1
     simpa using q1
    ·rintro e w' ⟨he,hb⟩
     exact ⟨_,he,.v _,qb hb⟩
def Xf (x:Nat):Option Nat:=match FloatKind.f64.decode x with
 | .nan _ _=>none
 | d=>some (FloatKind.f64.encode (d.integral .down))
theorem arch (x y:Nat) (h:Xf x=some y) (w:World):(callFunc 97 #[.float .f64 x]).run Tryz.prog w=.ok (.value (.float .f64 y)) w:=by
 have hn:Extern.findNext Tryz.f97=none:=by kernel_rfl
 have he:Extern.find Tryz.f97=some (Extern.MathFloor.toIntegral "math.archFloor" .down):=by kernel_rfl
 have h4:Tryz.f97.body.isNone=true:=by kernel_rfl
 have h5:(Tryz.f97.name == "runtime.NumGoroutine")=false:=by kernel_rfl
 rw [run_callFunc_extern Tryz.func97 h5 h4 hn he]
 have e1:Extern.MathFloor.toIntegral "math.archFloor" .down #[.float .f64 x]=(match FloatKind.f64.decode x with
  | .nan s t =>
   if FloatKind.f64.format.quiet t=t then pure (.float .f64 x) else do
   let kept ← choose (.extern "math.Floor,Ceil,Trunc,RoundToEven.signallingNaN kept" 2)
   pure (.float .f64 (if kept == 1 then x else FloatKind.f64.encode (.nan s (FloatKind.f64.format.quiet t))))
  | d=>pure (.float .f64 (FloatKind.f64.encode (d.integral .down)))):=rfl
 rw [e1]
 unfold Xf at h
 revert h
 cases FloatKind.f64.decode x with
 | nan s t=>intro h;cases h
 | infinity s=>intro h;simp only [Option.some.injEq] at h;subst h;rfl
 | number s m e=>intro h;simp only [Option.some.injEq] at h;subst h;rfl
set_option maxHeartbeats 400000 in
theorem Qb9 (x y : Nat) (h : Xf x = some y) (w : World) :
  Calls Tryz.prog 80 #[.float .f64 x] w fun e w' => e = .returned (.float .f64 y) ∧ w' = w := by
 go_enter Tryz.func80, Tryz.ntmps80
 go_wp2
 rw [arch x y h w, Oper.upon_value]
 go_wp2
 go_ret
 exact ⟨rfl, rfl⟩
def K5 (n:Nat) (x:Nat):Option Nat:=Xf x
theorem ku {n x r:Nat} (h:K5 n x=some r):Computes cx 80 [.v (.float .f64 x)] (.v (.float .f64 r)) :=
 jy fun w=>(Qb9 x r h w).mono fun e w' hh=>⟨hh.1,by rw [hh.2];exact Below.refl _ _⟩
open Go
theorem QcN (a:Addr) (c:Nat) (w:World):(binOp BinOp.eql 22 (Value.slice (some a) 0 c) (Value.slice none 0 0)).run Tryz.prog w=.ok (.bool false) w:=by
 have:=run_equal_slice_nil (P:=Tryz.prog) w 22 23 (some a) 0 c Tryz.underlying22
 unfold binOp
 simp only [Sem.run_bind,this,Result.andThen_ok]
 rfl
set_option maxHeartbeats 400000 in
theorem yD (a : Addr) (c : Nat) (w : World) :
  Calls Tryz.prog 33 #[.slice (some a) 0 c] w fun e w' => (∃ a', e = .returned (.slice a' 0 0)) ∧ Below w.heap.size w w' := by
 go_enter Tryz.func33, Tryz.ntmps33
 go_wp2
 rw [QcN, Result.andThen_ok, Oper.upon_value]
 go_wp2
 go_ret
 exact ⟨⟨_, rfl⟩, (Below.refl _ _).alloc (Nat.le_refl _) _⟩
def Tryz.laysSlE041_f106_ren:Go.Shelf.Ren:=⟨fun | 41=>33 | n=>n,fun | 22=>22 | 23=>23 | 4=>4 | n=>n,fun | n=>n⟩
theorem Tryz.laysSlE041_f106:Go.Proofs.SlLaysE0.n41 Tryz.prog Tryz.laysSlE041_f106_ren:={
 mixed:=by kernel_rfl
 f41:=⟨Tryz.f33.name,by decide,Tryz.func33.trans (congrArg some (by kernel_rfl))⟩
 t4:=Tryz.underlying4
 a4:=Tryz.isAgg4
 z4:=Tryz.sizeOf4
 v4:=Tryz.zeroValue4
 t22:=Tryz.underlying22
 a22:=Tryz.isAgg22
 z22:=Tryz.sizeOf22
 v22:=Tryz.zeroValue22 }
def zr (n:Nat):Option (List D):=some []
theorem zl {n:Nat} {full:Bool} {r:List D} (h:zr n=some r):Computes cx 33 [.lst full 1 []] (.lst true 1 r):=by
 cases h
 intro w F vs hF hG hvl hd
 match vs,hvl with
 | [a],_ =>
  have ha:=hd 0 _ _ rfl rfl
  cases ha with
  | lst _ _ _ a0 cap blk off ys hf hc haa hs hw hdr =>
   cases a0 with
   | none =>
    refine (AnyE.slices_Clone_nil Tryz.laysSlE041_f106 0 cap w).mono ?_
    rintro e w' ⟨he,rfl⟩
    exact ⟨_,he,.lst true 1 [] none 0 0 0 (fun _=>.nilIface) (fun _=>rfl) (Nat.le_refl _) (fun h=>absurd rfl h) (by simp) (by simp) (by simp),Ext.refl _ _⟩
   | some a =>
    refine (yD a cap w).mono ?_
    rintro e w' ⟨⟨a',he⟩,hb⟩
    exact ⟨_,he,.lst true 1 [] a' 0 0 0 (fun _=>.nilIface) (fun _=>rfl) (Nat.le_refl _) (fun h=>absurd rfl h) (by simp) (by simp) (by simp),qb hb⟩
def K6 (n:Nat) (x:Nat):Option Nat:=some (Go.bits .andNot .u64 (x:Int) 9223372036854775808).toNat
theorem bits (x:Nat) (w:World):(callFunc 108 #[.float .f64 x]).run Tryz.prog w=.ok (.value (.int .u64 x)) w:=by
 have hn:Extern.findNext Tryz.f108=none:=by kernel_rfl
 have he:Extern.find Tryz.f108=some Extern.MathFloatBits.float64bits:=by kernel_rfl
 have h4:Tryz.f108.body.isNone=true:=by kernel_rfl
 have h5:(Tryz.f108.name == "runtime.NumGoroutine")=false:=by kernel_rfl
 rw [run_callFunc_extern Tryz.func108 h5 h4 hn he];rfl
theorem QbA (x:Int) (w:World):(callFunc 107 #[.int .u64 x]).run Tryz.prog w=.ok (.value (.float .f64 x.toNat)) w:=by
 have hn:Extern.findNext Tryz.f107=none:=by kernel_rfl
 have he:Extern.find Tryz.f107=some Extern.MathFloatBits.float64frombits:=by kernel_rfl
 have h4:Tryz.f107.body.isNone=true:=by kernel_rfl
 have h5:(Tryz.f107.name == "runtime.NumGoroutine")=false:=by kernel_rfl
 rw [run_callFunc_extern Tryz.func107 h5 h4 hn he];rfl
theorem QcQ (x:Nat) (w:World):Calls Tryz.prog 96 #[.float .f64 x] w fun e w'=>e=.returned (.float .f64 (Go.bits .andNot .u64 (x:Int) 9223372036854775808).toNat)∧w'=w:=by
 go_enter Tryz.func96,Tryz.ntmps96
 go_wp2
 rw [bits x w,Oper.upon_value]
 go_wp2
 rw [QbA _ w,Oper.upon_value]
 go_wp2
 go_ret
 exact ⟨rfl,rfl⟩
theorem ux {n x r:Nat} (h:K6 n x=some r):Computes cx 96 [.v (.float .f64 x)] (.v (.float .f64 r)):=by
 cases h
 exact jy fun w=>(QcQ x w).mono fun e w' hh=>⟨hh.1,by rw [hh.2];exact Below.refl _ _⟩
end Go.Proofs.YtcfmoailaddifaaGreatDoor
