/- Own texts. -/
import Derived.Test.YtchbppgamelchaaDoorProg
import Derived.Test.YtchbppgamelchaaDoorSxTwentyEight
import Derived.KernelRfl
import Derived.Below
import Derived.Lib.LaidTab
import GoSem.ClaimChange
import Derived.ProofKit
import Derived.OpenShut
import Derived.WideShapes
import Derived.ChangeStays
import Derived.ChangeSame
import Derived.Deep.DeepHandedRow
import Derived.ChangeArms
import Derived.WalkKit
import Derived.Laws.Externs
import Derived.Lib.LazyBuf
set_option linter.unusedVariables false
set_option linter.unusedSimpArgs false
set_option linter.unnecessarySimpa false
namespace Go.Proofs.YtchbppgamelchaaDoor
open Go.SX Go.RowKit
instance drawF:DrawMode:=⟨false⟩
noncomputable def cx:Cx:={ P:=Tryd.prog,G:=fun g=>match Nat.beq g 0 with
 | true=>some (.agg [I (-1),I 0,I 1,I 0,I 0,I (-1),I 0,I 1])
 | false=>none }
theorem QcI:(Tryd.prog.funcs.toList.all fun fn=>!(fn.body.isSome && (fn.name == "runtime.NumGoroutine")))=true:=by kernel_rfl
theorem noAsk:NoAsk cx:=Qbb _ _ QcI
theorem uC:cx.P.follows .mixedOrders=true:=by kernel_rfl
theorem run {n:Nat} {f:FuncId} {args:List D} {orc:List Orc} {r:D} {ob:List Prop} (h:Vx true n cx f args orc=some (r,ob)) (ho:All ob):Computes cx f args r:=Xx noAsk uC h ho
theorem Qx {S E:Type} {c:Code} {nt vis:Nat} {rnd:Bool} {T:S→List (Nat×AV)} {H:S→List (Nat×Blk)} {X:E→Ex} {XT:E→List (Nat×AV)} {XH:E→List (Nat×Blk)}
  {step:S→Option (S⊕E)} (hr:∀ s r,step s=some r→Rd cx c nt vis rnd T H X XT XH s r) {n:Nat} {s:S} {e:E} (h:QS step n s=some e):QI cx c nt vis rnd (T s) (H s) (X e) (XT e) (XH e):=kL noAsk uC hr n s e h
theorem runF {n:Nat} {f:FuncId} {args:List D} {orc:List Orc} {r:AV} {sz:Nat} {L:List D} {ob:List Prop} (h:yx n cx f args orc=some (r,sz,L,ob)) (ho:All ob):WQ cx f args sz L r:=zT noAsk uC h ho
theorem qA {l k:List D} (h:D.agg l=.agg k):l=k:=by cases h;rfl
theorem dr_v {w:World} {F:Nat→Prop} {x y:Value} (h:DR w F (.v x) y):y=x:=by cases h;rfl
theorem Qav {w w' : World} (h:Below w.heap.size w w'):Ext w (fun _=>False) w':=⟨(fun h=>by cases h),h.os,h.tape,h.output,h.size,fun r hr _=>h.block r hr⟩
theorem wI {f:FuncId} {x y:Value} (h:∀ w:World,Calls Tryd.prog f #[x] w fun e w'=>e=.returned y∧Below w.heap.size w w'):Computes cx f [.v x] (.v y):=by
 intro w F vs hF hG hl hd
 match vs,hl with
 | [a],_ =>
  have ha:=hd 0 _ _ rfl rfl
  rw [dr_v ha]
  exact (h w).mono fun e w' hh=>⟨_,hh.1,.v _,Qav hh.2⟩
inductive Kd
 | int (k:IntKind)
 | bool
 | str
 | flt (k:FloatKind)
 | lst (agg:Bool) (ks:List Kd)
mutual
def Kd.ok:Kd→D→Prop
 | .int k,d=>∃ n,d=.v (.int k n)∧k.min≤n∧n≤k.max
 | .bool,d=>∃ b,d=.v (.bool b)
 | .str,d=>∃ s,d=.v (.string s)∧s.size≤maxLen
 | .flt k,d=>∃ b,d=.v (.float k b)∧(Lit.float k b).wf=true
 | .lst agg ks,d=>∃ es,d=.lst false ks.length es∧es.length≤maxLen∧∀ e,e∈es→match agg with
  | true=>∃ cs,e=.agg cs∧Kd.oks ks cs
  | false=>Kd.oks ks [e]
def Kd.oks:List Kd→List D→Prop
 | [],ds=>ds=[]
 | k::ks,ds=>∃ d r,ds=d::r∧Kd.ok k d∧Kd.oks ks r
end
def JI (P:Program) (f:TypeId→Option (List Kd)):Nat→List Field→Option (List Kd)
 | _,[]=>some []
 | off,fd::l=>match f fd.type with
  | some ks=>match Nat.beq fd.offset off && Nat.beq ks.length (P.cellsOf fd.type),JI P f (off+ks.length) l with
   | true,some r=>some (ks++r)
   | _,_=>none
  | none=>none
def VK (P:Program):Nat→TypeId→Option (List Kd)
 | 0,_=>none
 | n+1,t=>match P.underlying t with
  | some (.int k)=>some [.int k]
  | some .bool=>some [.bool]
  | some .string=>some [.str]
  | some (.float k)=>some [.flt k]
  | some (.slice e)=>match VK P n e,P.underlying e with
   | some ks,some (.struct _)=>match Nat.beq ks.length (P.cellsOf e) && Nat.blt 0 ks.length with
    | true=>some [.lst true ks]
    | false=>none
   | some ks,some (.array _ _)=>match Nat.beq ks.length (P.cellsOf e) && Nat.blt 0 ks.length with
    | true=>some [.lst true ks]
    | false=>none
   | some ks,some _=>match Nat.beq ks.length (P.cellsOf e) && Nat.beq 1 ks.length with
    | true=>some [.lst false ks]
    | false=>none
   | _,_=>none
  | some (.struct fs)=>match JI P (VK P n) 0 fs.toList with
   | some ks=>match Nat.beq ks.length (P.cellsOf t) with
    | true=>some ks
    | false=>none
   | none=>none
  | some (.array m e)=>match VK P n e with
   | some ks=>match Nat.beq ks.length (P.cellsOf e) && Nat.beq (m * ks.length) (P.cellsOf t) with
    | true=>some (List.replicate m ks).flatten
    | false=>none
   | none=>none
  | _=>none
def Reads (W:World):List D→List Value→Prop
 | [],[]=>True
 | d::ds,v::vs=>(DR W (fun _=>False) d v∧one v=true)∧Reads W ds vs
 | _,_=>False
theorem Reads.append {W:World}:∀ {a:List D} {x:List Value} {b:List D} {y:List Value},Reads W a x→Reads W b y→Reads W (a++b) (x++y)
 | [],[],_,_,_,h=>h
 | _::_,_::_,_,_,h,k=>⟨h.1,Reads.append h.2 k⟩
 | [],_::_,_,_,h,_=>h.elim
 | _::_,[],_,_,h,_=>h.elim
theorem Reads.len {W:World}:∀ {a:List D} {x:List Value},Reads W a x→a.length=x.length
 | [],[],_=>rfl
 | _::_,_::_,h=>by simp [Reads.len h.2]
 | [],_::_,h=>h.elim
 | _::_,[],h=>h.elim
theorem Reads.at {W:World}:∀ {a:List D} {x:List Value},Reads W a x→∀ (i:Nat) (d:D) (v:Value),a[i]?=some d→x[i]?=some v→DR W (fun _=>False) d v∧one v=true
 | [],[],_,i,d,v,h,_=>by simp at h
 | _::_,_::_,hh,0,d,v,h,k=>by simp at h k;subst h;subst k;exact hh.1
 | _::_,_::_,hh,i+1,d,v,h,k=>Reads.at hh.2 i d v (by simpa using h) (by simpa using k)
 | [],_::_,h,_,_,_,_,_=>h.elim
 | _::_,[],h,_,_,_,_,_=>h.elim
theorem GJ:∀ {a b:List Kd} {x y:List D},Kd.oks a x→Kd.oks b y→Kd.oks (a++b) (x++y)
 | [],_,x,y,h,k=>by unfold Kd.oks at h;subst h;exact k
 | q::a,b,x,y,h,k=>by
  unfold Kd.oks at h
  obtain ⟨d,r,rfl,h1,h2⟩:=h
  show Kd.oks (q::(a++b)) (d::(r++y))
  unfold Kd.oks
  exact ⟨d,r++y,rfl,h1,GJ h2 k⟩
theorem Ug:∀ {a:List Kd} {x:List D},Kd.oks a x→x.length=a.length
 | [],x,h=>by unfold Kd.oks at h;subst h;rfl
 | q::a,x,h=>by
  unfold Kd.oks at h
  obtain ⟨d,r,rfl,h1,h2⟩:=h
  simp [Ug h2]
theorem Qb2 {k:Kd} {d:D} (h:Kd.ok k d):Kd.oks [k] [d]:=by
 unfold Kd.oks;exact ⟨d,[],rfl,h,by unfold Kd.oks;rfl⟩
section
variable {H:Type} {enc:TypeId×Value→H} {P:Program} {W:World} {base:Nat} {sp:Nat→Bool} {held:Bool}
theorem X9 {W:World} {k:Kd} {d:D} {v:Value} (h1:Kd.ok k d) (h2:DR W (fun _=>False) d v) (h3:one v=true):∃ ds,Kd.oks [k] ds∧Reads W ds [v]:=⟨[d],Qb2 h1,⟨h2,h3⟩,trivial⟩
theorem qb {f:TypeId→Option (List Kd)} {g:TypeId→List Value→Prop} (hf:∀ t cs ks,f t=some ks→g t cs→∃ ds,Kd.oks ks ds∧Reads W ds cs) {cs:List Value} :
  ∀ (fs:List Field) (off:Nat) (ks:List Kd),JI P f off fs=some ks→(∀ fd,fd∈fs→g fd.type ((cs.drop fd.offset).take (P.cellsOf fd.type)))→cs.length=off+ks.length→∃ ds,Kd.oks ks ds∧Reads W ds (cs.drop off)
 | [],off,ks,h,_,hl=>by
  simp only [JI,Option.some.injEq] at h;subst h
  refine ⟨[],by unfold Kd.oks;rfl,?_⟩
  rw [List.drop_eq_nil_of_le (by simp at hl;omega)];trivial
 | fd::l,off,ks,h,hg,hl=>by
  unfold JI at h
  split at h
  case h_2=>cases h
  rename_i k1 hk1
  split at h
  case h_2=>cases h
  rename_i r hb hr
  simp only [Option.some.injEq] at h;subst h
  simp only [Bool.and_eq_true,Nat.beq_eq] at hb
  obtain ⟨ds1,a1,b1⟩:=hf _ _ _ hk1 (hg fd List.mem_cons_self)
  rw [List.length_append] at hl
  obtain ⟨ds2,a2,b2⟩:=qb hf l (off+k1.length) r hr (fun x hx=>hg x (List.mem_cons_of_mem _ hx)) (by omega)
  refine ⟨ds1++ds2,GJ a1 a2,?_⟩
  have:=b1.append b2
  rw [hb.1,← hb.2,← List.drop_drop,List.take_append_drop] at this
  exact this
theorem zo {ks:List Kd} {cs:List Value} {m:Nat} (hf:∀ i,i < m→∃ ds,Kd.oks ks ds∧Reads W ds ((cs.drop (i * ks.length)).take ks.length)) (hl:cs.length=m * ks.length) :
  ∀ j,j≤m→∃ ds,Kd.oks (List.replicate j ks).flatten ds∧Reads W ds (cs.drop ((m - j) * ks.length))
 | 0,_=>by
  refine ⟨[],by unfold Kd.oks;rfl,?_⟩
  rw [List.drop_eq_nil_of_le (by simp [hl])];trivial
 | j+1,hj=>by
  obtain ⟨ds2,a2,b2⟩:=zo hf hl j (by omega)
  obtain ⟨ds1,a1,b1⟩:=hf (m - (j+1)) (by omega)
  refine ⟨ds1++ds2,by rw [List.replicate_succ,List.flatten_cons];exact GJ a1 a2,?_⟩
  have e:(m - j) * ks.length=(m - (j+1)) * ks.length+ks.length:=by
   rw [show m - j=m - (j+1)+1 by omega,Nat.add_mul,Nat.one_mul]
  rw [e] at b2
  have:=b1.append b2
  rw [← List.drop_drop,List.take_append_drop] at this
  exact this
theorem Ee {α β:Type} {f:α→Option β}:∀ {l:List α} {r:List β},l.mapM f=some r→∀ a,a∈l→∃ b,f a=some b
 | [],_,_,a,ha=>by cases ha
 | x::l,r,h,a,ha=>by
  simp only [List.mapM_cons,Option.bind_eq_bind,Option.bind_eq_some_iff,Option.pure_def,Option.some.injEq] at h
  obtain ⟨b,hb,r',hr',rfl⟩:=h
  rcases List.mem_cons.1 ha with rfl | ha
  ·exact ⟨b,hb⟩
  ·exact Ee hr' a ha
theorem wZ {fuel:Nat} {t:TypeId} {fs:Array Field} {cs:List Value} {x:DataW H×List MemPlace} (ht:P.underlying t=some (.struct fs)) (h:DataW.trod enc P W base sp held fuel t cs=some x) :
  ∃ n,fuel=n+1∧cs.length=P.cellsOf t∧∀ fd,fd∈fs.toList→∃ y,DataW.trod enc P W base sp held n fd.type ((cs.drop fd.offset).take (P.cellsOf fd.type))=some y:=by
 cases fuel with
 | zero=>simp [DataW.trod] at h
 | succ n =>
  refine ⟨n,rfl,?_⟩
  simp only [DataW.trod,ht] at h
  split at h
  case isFalse=>cases h
  rename_i hl
  simp only [Option.map_eq_some_iff] at h
  obtain ⟨r,hr,_⟩:=h
  exact ⟨hl,fun fd hfd=>Ee hr fd hfd⟩
theorem jX {fuel:Nat} {t e:TypeId} {m:Nat} {cs:List Value} {x:DataW H×List MemPlace} (ht:P.underlying t=some (.array m e)) (h:DataW.trod enc P W base sp held fuel t cs=some x) :
  ∃ n,fuel=n+1∧cs.length=P.cellsOf t∧∀ i,i < m→∃ y,DataW.trod enc P W base sp held n e ((cs.drop (i * P.cellsOf e)).take (P.cellsOf e))=some y:=by
 cases fuel with
 | zero=>simp [DataW.trod] at h
 | succ n =>
  refine ⟨n,rfl,?_⟩
  simp only [DataW.trod,ht] at h
  split at h
  case isFalse=>cases h
  rename_i hl
  simp only [Option.map_eq_some_iff] at h
  obtain ⟨r,hr,_⟩:=h
  exact ⟨hl,fun i hi=>Ee hr i (by simpa using hi)⟩
theorem jW {fuel:Nat} {t:TypeId} {k:FloatKind} {cs:List Value} {x:DataW H×List MemPlace} (ht:P.underlying t=some (.float k)) (h:DataW.trod enc P W base sp held fuel t cs=some x) :
  ∃ b,cs=[.float k b]∧(Lit.float k b).wf=true:=by
 cases fuel with
 | zero=>simp [DataW.trod] at h
 | succ n =>
  unfold DataW.trod at h
  rw [ht] at h
  split at h <;> simp_all
theorem GE {agg:Bool} {ks:List Kd} {fuel:Nat} {t e:TypeId} {cs:List Value} {x:DataW H×List MemPlace} (ht:P.underlying t=some (.slice e)) (h:DataW.trod enc P W base sp held fuel t cs=some x)
  (hk:ks.length=P.cellsOf e) (hpos:0 < ks.length) (h1:agg=false→ks.length=1)
  (ih:∀ (n:Nat) (c:List Value) (y:DataW H×List MemPlace),DataW.trod enc P W base sp held n e c=some y→∃ ds,Kd.oks ks ds∧Reads W ds c) :
  ∃ ds,Kd.oks [.lst agg ks] ds∧Reads W ds cs:=by
 rcases DataW.trod_slice ht h with ⟨rfl,_⟩ | ⟨a,len,cap,elems,rest,n,_,rfl,_,hb,hl,hm,hlen,hel,_,_⟩
 ·refine X9 (d:=.lst false ks.length []) ?_ ?_ rfl
  ·unfold Kd.ok;exact ⟨[],rfl,Nat.zero_le _,fun e he=>by cases he⟩
  ·exact .lst false ks.length [] none 0 0 0 (fun _=>.nilIface) (fun h=>by cases h) (Nat.le_refl _) (fun h=>absurd rfl h) (by simp) (by simp) (by simp)
 ·have each:∀ i,i < len→∃ ds c,Kd.oks ks ds∧Reads W ds c∧c.length=ks.length∧∀ j,j < ks.length→W.cell? ((a.add (i * ks.length)).add j)=c[j]?:=by
   intro i hi
   have h2:=hel i hi
   rw [List.getElem?_eq_getElem (by omega),← hk] at h2
   rw [Option.bind_eq_some_iff] at h2
   obtain ⟨c,hc,hy⟩:=h2
   obtain ⟨ds,d1,d2⟩:=ih _ _ _ hy
   refine ⟨ds,c,d1,d2,by rw [← d2.len,Ug d1],fun j hj=>?_⟩
   unfold World.cells? at hc
   split at hc
   case isFalse=>cases hc
   have hcl:c.length=ks.length:=by rw [← d2.len,Ug d1]
   obtain ⟨b,hb1,hb2⟩:=Lib.mapM_at hc j j (by simp [hj])
   rw [hb1,hb2]
  let ds (i:Nat):List D:=if hi:i < len then Classical.choose (each i hi) else []
  let mk (d:List D):D:=if agg then .agg d else d.headD (.v .nilIface)
  have hds:∀ i,i < len→∃ c,Kd.oks ks (ds i)∧Reads W (ds i) c∧c.length=ks.length∧∀ j,j < ks.length→W.cell? ((a.add (i * ks.length)).add j)=c[j]?:=by
   intro i hi
   have:=Classical.choose_spec (each i hi)
   simp only [ds,dif_pos hi];exact this
  have hleaf:∀ (k:Kd) (d:D),Kd.ok k d→d.cells=[d]:=by
   intro k d hd
   cases k <;> simp only [Kd.ok] at hd
   ·obtain ⟨n,rfl,_⟩:=hd;rfl
   ·obtain ⟨n,rfl⟩:=hd;rfl
   ·obtain ⟨n,rfl,_⟩:=hd;rfl
   ·obtain ⟨n,rfl,_⟩:=hd;rfl
   ·obtain ⟨n,rfl,_⟩:=hd;rfl
  have hmk:∀ i,i < len→(mk (ds i)).cells=ds i:=by
   intro i hi
   obtain ⟨c,c1,_⟩:=hds i hi
   simp only [mk]
   split
   ·rfl
   ·rename_i hag
    have h3:=h1 (by simpa using hag)
    have h4:=Ug c1
    rw [h3] at h4
    match hdi:ds i,h4 with
    | [d],_ =>
     rw [hdi] at c1
     match hks:ks,h3 with
     | [k],_ =>
      unfold Kd.oks at c1
      obtain ⟨d',r',e1,e2,e3⟩:=c1
      cases e1
      exact hleaf k d e2
  have ha:0 < len→a=⟨a.block,a.off,none⟩∧a.block < W.heap.size:=by
   intro h0
   obtain ⟨c,c1,c2,c3,c4⟩:=hds 0 h0
   have h5:=c4 0 hpos
   rw [List.getElem?_eq_getElem (by omega)] at h5
   have e0:(a.add (0 * ks.length)).add 0=a:=by simp [Addr.add]
   rw [e0] at h5
   unfold World.cell? at h5
   split at h5
   ·rename_i q1 q2 q3 hheap
    split at h5
    ·cases h5
    ·rename_i hs
     refine ⟨?_,?_⟩
     ·revert hs
      obtain ⟨b,o,s⟩:=a
      cases s with
      | none=>intro _;rfl
      | some s=>intro hs;exact absurd rfl hs
     ·rcases Nat.lt_or_ge a.block W.heap.size with h | h
      ·exact h
      ·have:W.heap[a.block]?=some _:=hheap
       rw [Array.getElem?_eq_none h] at this;cases this
   ·cases h5
  have hcell:∀ (i j:Nat) (c:D),i < len→(ds i)[j]?=some c→∃ v,W.cell? ⟨a.block,a.off+(i * ks.length+j),none⟩=some v∧DR W (fun _=>False) c v∧one v=true:=by
   intro i j c hi hj
   obtain ⟨c',c1,c2,c3,c4⟩:=hds i hi
   have hjl:j < (ds i).length:=(List.getElem?_eq_some_iff.1 hj).1
   rw [Ug c1] at hjl
   have h6:=c4 j hjl
   have hv:c'[j]?=some (c'[j]'(by omega)):=List.getElem?_eq_getElem (by omega)
   rw [hv] at h6
   refine ⟨_,?_,c2.at j _ _ hj hv⟩
   have e:(a.add (i * ks.length)).add j=⟨a.block,a.off+(i * ks.length+j),none⟩:=by
    rw [(ha (by omega)).1,Go.SX.add_at,Go.SX.add_at,Nat.add_assoc]
   rw [← h6,e]
  refine X9 (d:=.lst false ks.length ((List.range len).map fun i=>mk (ds i))) ?_ ?_ rfl
  ·unfold Kd.ok
   refine ⟨_,rfl,by simp;omega,fun e he=>?_⟩
   simp only [List.mem_map,List.mem_range] at he
   obtain ⟨i,hi,rfl⟩:=he
   obtain ⟨c,c1,_⟩:=hds i hi
   cases agg with
   | true=>exact ⟨ds i,rfl,c1⟩
   | false =>
    have h3:=h1 rfl
    have h4:=Ug c1
    rw [h3] at h4
    simp only [mk]
    match hdi:ds i,h4 with
    | [d],_=>rw [hdi] at c1;exact c1
  ·have key:=DR.lst (w:=W) (M:=fun _=>False) false ks.length ((List.range len).map fun i=>mk (ds i)) (some a) cap a.block a.off (fun k=>(W.cell? ⟨a.block,a.off+k,none⟩).getD .nilIface)
    (fun h=>by cases h) (by simp;omega)
    (fun hne=>by
     have h0:0 < len:=by
      rcases Nat.eq_zero_or_pos len with h | h
      ·subst h;simp at hne
      ·exact h
     exact ⟨by rw [← (ha h0).1],fun h=>h,(ha h0).2⟩)
    (fun i e he=>by
     rw [List.getElem?_map] at he
     simp only [Option.map_eq_some_iff] at he
     obtain ⟨k,hk1,rfl⟩:=he
     obtain ⟨hk2,rfl⟩:=List.getElem?_eq_some_iff.1 hk1
     simp only [List.length_range] at hk2
     simp only [List.getElem_range]
     obtain ⟨c,c1,_⟩:=hds i hk2
     rw [hmk i hk2,Ug c1])
    (fun i e j c he hj=>by
     rw [List.getElem?_map] at he
     simp only [Option.map_eq_some_iff] at he
     obtain ⟨k,hk1,rfl⟩:=he
     obtain ⟨hk2,rfl⟩:=List.getElem?_eq_some_iff.1 hk1
     simp only [List.length_range] at hk2
     simp only [List.getElem_range] at hj
     rw [hmk i hk2] at hj
     obtain ⟨v,v1,v2,v3⟩:=hcell i j c hk2 hj
     simp only [v1,Option.getD_some]
     exact ⟨trivial,v3⟩)
    (fun i e j c he hj=>by
     rw [List.getElem?_map] at he
     simp only [Option.map_eq_some_iff] at he
     obtain ⟨k,hk1,rfl⟩:=he
     obtain ⟨hk2,rfl⟩:=List.getElem?_eq_some_iff.1 hk1
     simp only [List.length_range] at hk2
     simp only [List.getElem_range] at hj
     rw [hmk i hk2] at hj
     obtain ⟨v,v1,v2,v3⟩:=hcell i j c hk2 hj
     simp only [v1,Option.getD_some]
     exact v2)
   simpa using key
theorem YP:∀ (d:Nat) (fuel:Nat) (t:TypeId) (cs:List Value) (x:DataW H×List MemPlace) (ks:List Kd),VK P d t=some ks→DataW.trod enc P W base sp held fuel t cs=some x→∃ ds,Kd.oks ks ds∧Reads W ds cs
 | 0,_,_,_,_,_,h,_=>by cases h
 | d+1,fuel,t,cs,x,ks,h,hx=>by
  unfold VK at h
  split at h
  ·rename_i k ht
   cases h
   obtain ⟨n,rfl,_,hw⟩:=DataW.trod_int ht hx
   simp only [Lit.wf,Bool.and_eq_true,decide_eq_true_eq] at hw
   exact X9 (by unfold Kd.ok;exact ⟨n,rfl,hw⟩) (.v _) rfl
  ·rename_i ht
   cases h
   obtain ⟨b,rfl,_⟩:=DataW.trod_bool ht hx
   exact X9 (by unfold Kd.ok;exact ⟨b,rfl⟩) (.v _) rfl
  ·rename_i ht
   cases h
   obtain ⟨s,rfl,_,hs⟩:=DataW.trod_string ht hx
   exact X9 (by unfold Kd.ok;exact ⟨s,rfl,hs⟩) (.v _) rfl
  ·rename_i k ht
   cases h
   obtain ⟨b,rfl,hw⟩:=jW ht hx
   exact X9 (by unfold Kd.ok;exact ⟨b,rfl,hw⟩) (.v _) rfl
  ·rename_i e ht
   split at h
   ·rename_i k1 _ hk1 _
    split at h
    case h_2=>cases h
    rename_i hb
    cases h
    simp only [Bool.and_eq_true,Nat.beq_eq,Nat.blt_eq] at hb
    exact GE ht hx hb.1 hb.2 (fun h=>by cases h) fun n c y hy=>YP d n e c y _ hk1 hy
   ·rename_i k1 _ _ hk1 _
    split at h
    case h_2=>cases h
    rename_i hb
    cases h
    simp only [Bool.and_eq_true,Nat.beq_eq,Nat.blt_eq] at hb
    exact GE ht hx hb.1 hb.2 (fun h=>by cases h) fun n c y hy=>YP d n e c y _ hk1 hy
   ·rename_i k1 _ _ _ hk1 _
    split at h
    case h_2=>cases h
    rename_i hb
    cases h
    simp only [Bool.and_eq_true,Nat.beq_eq] at hb
    exact GE ht hx hb.1 (by omega) (fun _=>hb.2.symm) fun n c y hy=>YP d n e c y _ hk1 hy
   ·cases h
  ·rename_i fs ht
   split at h
   case h_2=>cases h
   rename_i k1 hk1
   split at h
   case h_2=>cases h
   rename_i hb
   cases h
   simp only [Nat.beq_eq] at hb
   obtain ⟨n,rfl,hl,hf⟩:=wZ ht hx
   have:=qb (P:=P) (W:=W) (f:=VK P d) (g:=fun t cs=>∃ y,DataW.trod enc P W base sp held n t cs=some y) (fun t cs ks h1 h2=>by
    obtain ⟨y,hy⟩:=h2
    exact YP d n t cs y ks h1 hy) fs.toList 0 _ hk1 hf (by omega)
   rwa [List.drop_zero] at this
  ·rename_i m e ht
   split at h
   case h_2=>cases h
   rename_i k1 hk1
   split at h
   case h_2=>cases h
   rename_i hb
   cases h
   simp only [Bool.and_eq_true,Nat.beq_eq] at hb
   obtain ⟨n,rfl,hl,hf⟩:=jX ht hx
   have:=zo (W:=W) (ks:=k1) (cs:=cs) (m:=m) (fun i hi=>by
    obtain ⟨y,hy⟩:=hf i hi
    rw [← hb.1] at hy
    exact YP d n e _ y _ hk1 hy) (by omega) m (Nat.le_refl _)
   rwa [Nat.sub_self,Nat.zero_mul,List.drop_zero] at this
  ·cases h
end
set_option maxRecDepth 20000
open Go.WideShapes Go.ChangeShapes
def uP (P:Program) (t:TypeId):Prop:=∃ d ks,VK P d t=some ks
theorem Xl {P:Program} {f:TypeId→Option (List Kd)}:∀ (fs:List Field) (off:Nat) (ks:List Kd),JI P f off fs=some ks →
  (∀ fd,fd∈fs→∃ k,f fd.type=some k)∧ks.length=(fs.map fun fd=>P.cellsOf fd.type).sum∧∀ (j:Nat) fd,fs[j]?=some fd→fd.offset=off+((fs.take j).map fun fd=>P.cellsOf fd.type).sum
 | [],off,ks,h=>by
  simp only [JI,Option.some.injEq] at h;subst h
  exact ⟨fun _ h=>(by cases h),rfl,fun j fd h=>(by simp at h)⟩
 | fd::l,off,ks,h=>by
  unfold JI at h
  split at h
  case h_2=>cases h
  rename_i k1 hk1
  split at h
  case h_2=>cases h
  rename_i r hb hr
  simp only [Option.some.injEq] at h;subst h
  simp only [Bool.and_eq_true,Nat.beq_eq] at hb
  obtain ⟨a,b,c⟩:=Xl l _ r hr
  refine ⟨fun x hx=>?_,?_,fun j x hj=>?_⟩
  ·rcases List.mem_cons.1 hx with rfl | hx
   ·exact ⟨_,hk1⟩
   ·exact a x hx
  ·simp [b,hb.2]
  ·cases j with
   | zero=>simp at hj;subst hj;simp [hb.1]
   | succ j =>
    have:=c j x (by simpa using hj)
    simp only [List.take_succ_cons,List.map_cons,List.sum_cons]
    rw [this,hb.2];omega
theorem yB (P:Program):Kids P (uP P) where
 pointer:=fun {t e} h ht=>by
  obtain ⟨d,ks,h⟩:=h
  cases d with
  | zero=>cases h
  | succ d=>unfold VK at h;rw [ht] at h;cases h
 slice:=fun {t e} h ht=>by
  obtain ⟨d,ks,h⟩:=h
  cases d with
  | zero=>cases h
  | succ d =>
   unfold VK at h;rw [ht] at h;simp only at h
   cases hk:VK P d e with
   | none=>rw [hk] at h;simp at h
   | some k=>exact ⟨d,k,hk⟩
 array:=fun {t e n} h ht=>by
  obtain ⟨d,ks,h⟩:=h
  cases d with
  | zero=>cases h
  | succ d =>
   unfold VK at h;rw [ht] at h;simp only at h
   split at h
   case h_2=>cases h
   rename_i k1 hk1
   split at h
   case h_2=>cases h
   rename_i hb
   simp only [Bool.and_eq_true,Nat.beq_eq] at hb
   exact ⟨⟨d,_,hk1⟩,by rw [← hb.2,hb.1]⟩
 struct:=fun {t fs} h ht=>by
  obtain ⟨d,ks,h⟩:=h
  cases d with
  | zero=>cases h
  | succ d =>
   unfold VK at h;rw [ht] at h;simp only at h
   split at h
   case h_2=>cases h
   rename_i k1 hk1
   split at h
   case h_2=>cases h
   rename_i hb
   simp only [Nat.beq_eq] at hb
   obtain ⟨a,b,c⟩:=Xl _ _ _ hk1
   exact ⟨fun f hf=>by obtain ⟨k,hk⟩:=a f hf;exact ⟨d,k,hk⟩,by rw [← hb,b],fun j f hj=>by rw [c j f hj,Nat.zero_add]⟩
 map:=fun {t k e} h ht=>by
  obtain ⟨d,ks,h⟩:=h
  cases d with
  | zero=>cases h
  | succ d=>unfold VK at h;rw [ht] at h;cases h
theorem Qad {P:Program} {t e:TypeId} (h:uP P t) (ht:P.underlying t=some (.slice e)):0 < P.cellsOf e:=by
 obtain ⟨d,ks,h⟩:=h
 cases d with
 | zero=>cases h
 | succ d =>
  unfold VK at h;rw [ht] at h;simp only at h
  split at h
  ·split at h
   case h_2=>cases h
   rename_i hb
   simp only [Bool.and_eq_true,Nat.beq_eq,Nat.blt_eq] at hb
   omega
  ·split at h
   case h_2=>cases h
   rename_i hb
   simp only [Bool.and_eq_true,Nat.beq_eq,Nat.blt_eq] at hb
   omega
  ·split at h
   case h_2=>cases h
   rename_i hb
   simp only [Bool.and_eq_true,Nat.beq_eq] at hb
   omega
  ·cases h
def JJ (P:Program) (t:TypeId):Bool:=match P.underlying t with
 | some (.struct _)=>true
 | some (.array _ _)=>true
 | _=>false
def okA:Bool×List Kd→D→Prop
 | (true,ks),d=>∃ cs,d=.agg cs∧Kd.oks ks cs
 | (false,ks),d=>Kd.oks ks [d]
def yI:List (Bool×List Kd)→List D→Prop
 | [],ds=>ds=[]
 | k::r,ds=>∃ d l,ds=d::l∧okA k d∧yI r l
def Vq (P:Program):List TypeId→Option (List (Bool×List Kd))
 | []=>some []
 | t::ts=>match VK P 12 t,Vq P ts with
  | some ks,some r=>match JJ P t || Nat.beq ks.length 1 with
   | true=>some ((JJ P t,ks)::r)
   | false=>none
  | _,_=>none
section
variable {H:Type} {enc:TypeId×Value→H} {P:Program} {W:World} {base:Nat} {sp:Nat→Bool} {held:Bool}
theorem uY {r:Reach} {b0:Nat} {t:TypeId} {v:Value} {ks:List Kd} (hk:VK P 12 t=some ks) (hval:Value.okWide P W r b0 t v) (ha:JJ P t=false):v.cells=#[v]:=by
 unfold VK at hk
 unfold JJ at ha
 split at hk
 ·rename_i k ht;obtain ⟨n,rfl⟩:=okWide_int ht hval;rfl
 ·rename_i ht;obtain ⟨n,rfl⟩:=okWide_bool ht hval;rfl
 ·rename_i ht;obtain ⟨n,rfl⟩:=okWide_string ht hval;rfl
 ·rename_i k ht
  rw [Value.okWide,ht] at hval
  cases v <;> simp_all [Cell.okWide,Cell.ok,Value.cells]
 ·rename_i e ht;obtain ⟨a,l,c,rfl⟩:=okWide_slice ht hval;rfl
 ·rename_i ht;rw [ht] at ha;cases ha
 ·rename_i ht;rw [ht] at ha;cases ha
 ·cases hk
theorem yF {r:Reach} {b0:Nat} {t:TypeId} {v:Value} {d:DataW H} {p:List MemPlace} {ks:List Kd} (hk:VK P 12 t=some ks) (hval:Value.okWide P W r b0 t v) (hd:DataW.Trod enc P W base sp held t v d p) (h1:(JJ P t || Nat.beq ks.length 1)=true) :
  ∃ x,okA (JJ P t,ks) x∧DR W (fun _=>False) x v:=by
 obtain ⟨fuel,hf⟩:=hd
 obtain ⟨ds,a,b⟩:=YP 12 fuel t _ _ ks hk hf
 cases hag:JJ P t with
 | true =>
  have hv:∃ cs,v=.agg cs:=by
   unfold JJ at hag
   unfold Value.okWide at hval
   split at hag
   ·rename_i ht;rw [ht] at hval;obtain ⟨cs,h,_⟩:=hval;exact ⟨cs,h⟩
   ·rename_i ht;rw [ht] at hval;obtain ⟨cs,h,_⟩:=hval;exact ⟨cs,h⟩
   ·cases hag
  obtain ⟨cs,rfl⟩:=hv
  have hc:(Value.agg cs).cells.toList=cs.toList:=rfl
  rw [hc] at b
  have:=DR.agg (w:=W) (M:=fun _=>False) ds cs.toList b.len (fun i c y hc hy=>(b.at i c y hc hy).1)
  exact ⟨.agg ds,⟨ds,rfl,a⟩,by simpa using this⟩
 | false =>
  have hs:=uY hk hval hag
  rw [hs] at b
  rw [hag] at h1
  simp only [Bool.false_or,Nat.beq_eq] at h1
  have hl:=Ug a
  rw [h1] at hl
  match ds,hl with
  | [x],_=>exact ⟨x,a,(b.at 0 x v rfl rfl).1⟩
theorem wO {r:Reach} {b0:Nat}:∀ {ts:List TypeId} {vs:List Value} {ds:List (DataW H)} {p:List MemPlace} {pk:List (Bool×List Kd)},DataW.TrodAll enc P W base sp held ts vs ds p→Vq P ts=some pk →
  (∀ (j:Nat) t v,ts[j]?=some t→vs[j]?=some v→Value.okWide P W r b0 t v)→∃ Ds:List D,yI pk Ds∧Ds.length=vs.length∧∀ (i:Nat) (c:D) (y:Value),Ds[i]?=some c→vs[i]?=some y→DR W (fun _=>False) c y
 | [],vs,ds,p,pk,h,hk,_=>by
  obtain ⟨rfl,rfl,rfl⟩:=trodAll_nil h
  cases hk
  exact ⟨[],rfl,rfl,fun i c y h=>by simp at h⟩
 | t::ts,vs,ds,p,pk,h,hk,hv=>by
  obtain ⟨v,vs',d,ds',a,b,rfl,rfl,rfl,h1,h2⟩:=trodAll_cons h
  unfold Vq at hk
  split at hk
  case h_2=>cases hk
  rename_i ks r hks hr
  split at hk
  case h_2=>cases hk
  rename_i hb
  cases hk
  obtain ⟨x,x1,x2⟩:=yF hks (hv 0 t v rfl rfl) h1 hb
  obtain ⟨Ds,y1,y2,y3⟩:=wO h2 hr (fun j t v h k=>hv (j+1) t v (by simpa using h) (by simpa using k))
  refine ⟨x::Ds,⟨x,Ds,rfl,x1,y1⟩,by simp [y2],fun i c y hc hy=>?_⟩
  cases i with
  | zero=>simp at hc hy;subst hc;subst hy;exact x2
  | succ i=>exact y3 i c y (by simpa using hc) (by simpa using hy)
theorem zy:∀ {ts:List TypeId} {pk:List (Bool×List Kd)},Vq P ts=some pk→∀ t,t∈ts→uP P t
 | [],_,_,t,h=>by cases h
 | t::ts,pk,hk,u,hu=>by
  unfold Vq at hk
  split at hk
  case h_2=>cases hk
  rename_i ks r hks hr
  rcases List.mem_cons.1 hu with rfl | hu
  ·exact ⟨_,_,hks⟩
  ·exact zy hr u hu
theorem wN {W' : World} {sp' : Nat→Bool}:∀ {ts:List TypeId} {vs:List Value} {ds:List (DataW H)} {p:List MemPlace},DataW.TrodAll enc P W base (fun _=>true) true ts vs ds p→(∀ t,t∈ts→uP P t) →
  (∀ q,q∈p→W.sameAt W' q)→(∀ q,q∈p→sp' q.block=true)→DataW.TrodAll enc P W' base sp' true ts vs ds p
 | [],vs,ds,p,h,_,_,_=>by
  obtain ⟨rfl,rfl,rfl⟩:=trodAll_nil h
  exact rfl
 | t::ts,vs,ds,p,h,hp,h3,h4=>by
  obtain ⟨v,vs',d,ds',a,b,rfl,rfl,rfl,⟨fuel,h1⟩,h2⟩:=trodAll_cons h
  exact ⟨a,b,⟨fuel,DataW.trod_stays (yB P) (fun ht hu=>Qad ht hu) (fun h=>by cases h) (hp t List.mem_cons_self) h1 (fun q hq=>h3 q (List.mem_append_left _ hq)) (fun q hq=>h4 q (List.mem_append_left _ hq))⟩,
   wN h2 (fun t ht=>hp t (List.mem_cons_of_mem _ ht)) (fun q hq=>h3 q (List.mem_append_right _ hq)) (fun q hq=>h4 q (List.mem_append_right _ hq)),rfl⟩
end
theorem QaC {w w' : World} (h:Ext w (fun _=>False) w'):Below w.heap.size w w':=⟨h.os,h.tape,h.output,h.size,fun r hr=>h.same r hr (fun h=>h)⟩
theorem je {W W' : World} (h:Below W.heap.size W W') {p:MemPlace} (hp:p.block < W.heap.size):W.sameAt W' p:=by
 cases p with
 | cell b off =>
  show W'.cell? ⟨b,off,none⟩=W.cell? ⟨b,off,none⟩
  unfold World.cell?
  rw [h.block b hp]
 | map b=>exact h.block b hp
theorem uW {H:Type} {enc:TypeId×Value→H} {P:Program} {w:World} {base:Nat} {sp:Nat→Bool} {held:Bool} {t:TypeId} (ht:P.underlying t=some .bool):DataW.Trod enc P w base sp held t (.bool true) (.lit (.bool true)) [] :=
 ⟨1,by simp [DataW.trod,Value.cells,ht]⟩
theorem kZ {f:FuncId} {fn:Func} {spec:ChangeSpec} {pk:List (Bool×List Kd)} {bt:TypeId} (hpk:Vq Tryd.prog fn.params.toList=some pk)
  (hb:Tryd.prog.underlying bt=some .bool) (hres:fn.resultTypes=#[bt]) (hvars:spec.vars=[])
  (hspec:∀ (H:Type) (ds:List (DataW H)),ds.length=fn.params.size→spec.fn H ds={ results:=[.lit (.bool true)],args:=ds })
  (hlaw:∀ Ds,yI pk Ds→Computes cx f Ds (.v (.bool true)))
  (H:Type) (enc:TypeId×Value→H) (W:World) (base:Nat) (args:Array Value) (ds gs:List (DataW H)) (before:List MemPlace)
  (hval:∀ (j:Nat) t v,fn.params[j]?=some t→args[j]?=some v→Value.okWide Tryd.prog W .any base t v)
  (hW:DataW.Whole enc Tryd.prog fn.params.toList spec.vars false W args.toList ds gs before)
  (hG:∀ g x,cx.G g=some x→GAt W (fun _=>False) g x) :
  Calls Tryd.prog f args W fun e W'=>∃ v,e=.returned v∧spec.post enc Tryd.prog fn false true false false W args v W':=by
 have hW':=hW
 obtain ⟨p,q,hA,hV,rfl,hfz,hnd⟩:=hW
 rw [hvars] at hV
 obtain ⟨rfl,rfl⟩:=trodVars_none hV
 have hval' : ∀ (j:Nat) t v,fn.params.toList[j]?=some t→args.toList[j]?=some v→Value.okWide Tryd.prog W .any base t v:=by
  intro j t v hj hv
  rw [Array.getElem?_toList] at hj hv
  exact hval j t v hj hv
 obtain ⟨Ds,h1,h2,h3⟩:=wO (H:=H) (enc:=enc) (P:=Tryd.prog) (W:=W) (base:=0) (sp:=fun _=>true) (held:=true) (r:=.any) (b0:=base) (ts:=fn.params.toList) (vs:=args.toList) hA hpk hval'
 have hc:=hlaw Ds h1 W (fun _=>False) args.toList (fun _ h=>h.elim) hG h2 h3
 rw [Array.toArray_toList] at hc
 refine hc.mono fun e W' ⟨y,he,hy,hx⟩=>⟨y,he,?_⟩
 have hyt:=dr_v hy
 subst hyt
 have hbl:=QaC hx
 have hlt:=hW'.lt
 have hlen:ds.length=fn.params.size:=by
  have:∀ {ts:List TypeId} {vs:List Value} {ds:List (DataW H)} {p:List MemPlace},DataW.TrodAll enc Tryd.prog W 0 (fun _=>true) true ts vs ds p→ds.length=ts.length:=by
   intro ts
   induction ts with
   | nil=>intro vs ds p h;obtain ⟨rfl,rfl,rfl⟩:=trodAll_nil h;rfl
   | cons t ts ih=>intro vs ds p h;obtain ⟨v,vs',d,ds',a,b,rfl,rfl,rfl,_,h2⟩:=trodAll_cons h;simp [ih h2]
  exact (this hA).trans Array.length_toList
 have hsp:=hspec H (ds++[]) (by rw [List.append_nil];exact hlen)
 refine ⟨ds,[],p++[],[],p,[],hW',?_,?_,?_,hbl.frame _,fun h=>by cases h⟩
 ·rw [hsp,hres]
  exact trodAll_mk1 (uW hb)
 ·rw [hsp]
  simp only [List.append_nil]
  exact wN hA (zy hpk) (fun q hq=>je hbl (hlt q (List.mem_append_left _ hq))) (fun q hq=>decide_eq_true (hlt q (List.mem_append_left _ hq)))
 ·rw [hsp,hvars]
  rfl
theorem Qa7 {k:Bool×List Kd} {r:List (Bool×List Kd)} {Ds:List D} (h:yI (k::r) Ds):∃ d l,Ds=d::l∧okA k d∧yI r l:=h
theorem QcG {Ds:List D} (h:yI [] Ds):Ds=[]:=h
theorem Qc4 {ks:List Kd} {d:D} (h:okA (true,ks) d):∃ cs,d=.agg cs∧Kd.oks ks cs:=h
theorem uy {k:Kd} {ks:List Kd} {ds:List D} (h:Kd.oks (k::ks) ds):∃ d r,ds=d::r∧Kd.ok k d∧Kd.oks ks r:=by unfold Kd.oks at h;exact h
theorem Qc1 {ds:List D} (h:Kd.oks [] ds):ds=[]:=by unfold Kd.oks at h;exact h
theorem Qcv {k:Kd} {d:D} (h:Kd.oks [k] [d]):Kd.ok k d:=by
 obtain ⟨d',r,h1,h2,_⟩:=uy h
 cases h1;exact h2
theorem Qc5 {k:Kd} {d:D} (h:okA (false,[k]) d):Kd.ok k d:=Qcv h
theorem ok_i {k:IntKind} {d:D} (h:Kd.ok (.int k) d):∃ n,d=.v (.int k n)∧k.min≤n∧n≤k.max:=by unfold Kd.ok at h;exact h
theorem Qc3 {k:FloatKind} {d:D} (h:Kd.ok (.flt k) d):∃ b,d=.v (.float k b)∧(Lit.float k b).wf=true:=by unfold Kd.ok at h;exact h
theorem Qc2 {k:Kd} {d:D} (h:Kd.ok (.lst false [k]) d):∃ es,d=.lst false 1 es∧es.length≤maxLen∧∀ e,e∈es→Kd.ok k e:=by
 unfold Kd.ok at h
 obtain ⟨es,h1,h2,h3⟩:=h
 exact ⟨es,h1,h2,fun e he=>Qcv (h3 e he)⟩
theorem Qbh {α:Type} {enc:α→D} {p:α→Prop}:∀ {es:List D},(∀ e,e∈es→∃ x,e=enc x∧p x)→∃ xs:List α,es=xs.map enc∧∀ x,x∈xs→p x
 | [],_=>⟨[],rfl,fun x hx=>by cases hx⟩
 | e::es,h=>by
  obtain ⟨x,rfl,hx⟩:=h e List.mem_cons_self
  obtain ⟨xs,rfl,hxs⟩:=Qbh (es:=es) fun y hy=>h y (List.mem_cons_of_mem _ hy)
  refine ⟨x::xs,rfl,fun y hy=>?_⟩
  rcases List.mem_cons.1 hy with rfl | hy
  ·exact hx
  ·exact hxs y hy
theorem Qcw {n:Int} (h:IntKind.i64.min≤n∧n≤IntKind.i64.max):Qa n:=h
theorem QcU {n:Int} (h:IntKind.u16.min≤n∧n≤IntKind.u16.max):0≤n∧n≤65535:=h
theorem uI {P:Program} {w:World} {n:String} {d:DataW Unit}:∀ {l:List (String×DataW Unit)} {ps:List MemPlace} (i:Nat),DataW.LaidVars P w l ps→l[i]?=some (n,d) →
  ∃ g t cs fuel p,P.globalNamed n=some g∧(P.globals[g]?).map (·.type)=some t∧w.var? P n=some cs∧DataW.trod (fun _=>()) P w 0 (fun _=>true) false fuel t cs.toList=some (d,p)
 | [],_,i,_,hi=>by simp at hi
 | (m,e)::r,ps,0,h,hi=>by
  simp only [List.getElem?_cons_zero,Option.some.injEq,Prod.mk.injEq] at hi
  obtain ⟨rfl,rfl⟩:=hi
  obtain ⟨g,t,cs,fuel,p,q,h1,h2,h3,h4,_,_⟩:=h
  exact ⟨g,t,cs,fuel,p,h1,h2,h3,h4⟩
 | (m,e)::r,ps,i+1,h,hi=>by
  obtain ⟨g,t,cs,fuel,p,q,h1,h2,h3,h4,h5,_⟩:=h
  exact uI i h5 (by simpa using hi)
theorem wl {α:Type} {n:Nat}:∀ (m:Nat) (cs:List α) (zss:List (List α)),zss.length=m→cs.length=m * n→(∀ i z,zss[i]?=some z→(cs.drop (i * n)).take n=z)→cs=zss.flatten
 | 0,cs,zss,hz,hc,_=>by
  rw [Nat.zero_mul] at hc
  rw [List.eq_nil_of_length_eq_zero hc,List.eq_nil_of_length_eq_zero hz];rfl
 | m+1,cs,zss,hz,hc,h=>by
  match zss,hz with
  | z::r,hz =>
   have h0:=h 0 z rfl
   rw [Nat.zero_mul,List.drop_zero] at h0
   have ih:=wl (n:=n) m (cs.drop n) r (by simpa using hz) (by simp [hc,Nat.add_mul]) (fun i y hi=>by
    have:=h (i+1) y (by simpa using hi)
    rw [List.drop_drop,Nat.add_comm n,← Nat.succ_mul]
    exact this)
   rw [List.flatten_cons,← ih,← h0,List.take_append_drop]
theorem QcM {P:Program} {W:World} {name:String} {g:Nat} {k:IntKind} {zs:List Int} (hg:P.globalNamed name=some g) (h:W.var? P name=some (zs.map fun z=>Value.int k z).toArray) :
  GAt W (fun _=>False) g (.agg (zs.map fun z=>.v (.int k z))):=by
 have hc:=World.var?_cell hg h
 unfold World.var? at h
 rw [hg,Option.bind_some] at h
 split at h
 case h_2=>cases h
 rename_i cs t fz hh
 simp only [Option.some.injEq] at h
 refine ⟨⟨fun h=>h,?_,fun j c hj=>?_⟩,cs,t,fz,hh,by rw [h];simp [D.cells]⟩
 ·rcases Nat.lt_or_ge g W.heap.size with h | h
  ·exact h
  ·rw [Array.getElem?_eq_none h] at hh;cases hh
 ·have hj' : (zs.map fun z=>D.v (.int k z))[j]?=some c:=hj
  rw [List.getElem?_map] at hj'
  obtain ⟨z,hz,rfl⟩:=Option.map_eq_some_iff.1 hj'
  refine ⟨.int k z,?_,.v _⟩
  rw [Nat.zero_add,hc j]
  simp [hz]
def wn (P:Program) (k:IntKind):Nat→List Field→Bool
 | _,[]=>true
 | i,f::l=>Nat.beq f.offset i && Nat.beq (P.cellsOf f.type) 1 && (match P.underlying f.type with | some (.int k')=>decide (k'=k) | _=>false) && wn P k (i+1) l
theorem kr {P:Program} {k:IntKind}:∀ {l:List Field} {n:Nat},wn P k n l=true→∀ (i:Nat) (f:Field),l[i]?=some f→f.offset=n+i∧P.cellsOf f.type=1∧P.underlying f.type=some (.int k)
 | [],n,_,i,f,h=>by simp at h
 | g::l,n,hr,i,f,h=>by
  simp only [wn,Bool.and_eq_true] at hr
  obtain ⟨⟨⟨h1,h2⟩,h3⟩,h4⟩:=hr
  cases i with
  | zero =>
   simp only [List.getElem?_cons_zero,Option.some.injEq] at h
   subst h
   refine ⟨Nat.eq_of_beq_eq_true h1,Nat.eq_of_beq_eq_true h2,?_⟩
   split at h3
   ·rename_i k' hk
    rw [hk,of_decide_eq_true h3]
   ·cases h3
  | succ i =>
   have:=kr h4 i f (by simpa using h)
   exact ⟨by omega,this.2⟩
theorem jA {H:Type} {enc:TypeId×Value→H} {P:Program} {w:World} {base:Nat} {sp:Nat→Bool} {held:Bool} {fuel:Nat} {t:TypeId} {fs:Array Field} {k:IntKind} {cs:List Value} {zs:List Int} {p:List MemPlace}
  (ht:P.underlying t=some (.struct fs)) (hf:wn P k 0 fs.toList=true) (hct:P.cellsOf t=fs.size)
  (h:DataW.trod enc P w base sp held fuel t cs=some (Lib.tabData k zs,p)):cs=zs.map fun z=>Value.int k z:=by
 obtain ⟨xs,n,_,hx,hl,hlen,hat⟩:=DataW.trod_struct ht h
 have hxs:xs.map (·.1)=zs.map fun z=>(DataW.lit (.int k z):DataW H):=by
  have:=(congrArg Prod.fst hx).symm
  simpa [Lib.tabData] using this
 have hzl:zs.length=xs.length:=by
  have:=congrArg List.length hxs
  simp at this
  omega
 apply List.ext_getElem?
 intro i
 by_cases hi:i < fs.size
 ·have hfi:fs[i]?=some fs[i]:=by simp [hi]
  obtain ⟨o1,o2,o3⟩:=kr hf i fs[i] (by simp [hi])
  have hb:=hat i _ hfi
  have hxi:xs[i]?=some xs[i]:=by simp [hlen,hi]
  rw [hxi] at hb
  obtain ⟨z,hc,hz,_⟩:=DataW.trod_int o3 hb
  rw [o2,o1] at hc
  have h1:cs[i]?=some (.int k z):=by
   have:=congrArg (·[0]?) hc
   simpa [List.getElem?_take,List.getElem?_drop] using this
  have h2:(xs.map (·.1))[i]?=some (DataW.lit (.int k z):DataW H):=by
   rw [List.getElem?_map,hxi,hz];rfl
  rw [hxs] at h2
  simp only [List.getElem?_map,Option.map_eq_some_iff,DataW.lit.injEq,Lit.int.injEq,true_and] at h2
  obtain ⟨z',hz',rfl⟩:=h2
  simp [h1,hz']
 ·rw [List.getElem?_eq_none (by omega),List.getElem?_eq_none (by simp;omega)]
theorem zU {H:Type} {enc:TypeId×Value→H} {P:Program} {w:World} {base:Nat} {sp:Nat→Bool} {held:Bool} {fuel:Nat} {t t1:TypeId} {m n:Nat} {fs:Array Field} {k:IntKind} {cs:List Value} {zss:List (List Int)} {p:List MemPlace}
  (ht:P.underlying t=some (.array m t1)) (h1:P.underlying t1=some (.struct fs)) (hf:wn P k 0 fs.toList=true) (hn:fs.size=n) (hc1:P.cellsOf t1=n) (hct:P.cellsOf t=m * n)
  (h:DataW.trod enc P w base sp held fuel t cs=some (.agg (zss.map (Lib.tabData k)),p)):cs=(zss.flatten).map fun z=>Value.int k z:=by
 cases fuel with
 | zero=>simp [DataW.trod] at h
 | succ fuel =>
  simp only [DataW.trod,ht,hc1,hct] at h
  split at h
  case isFalse=>cases h
  rename_i hl
  obtain ⟨xs,hm,hx⟩:=Option.map_eq_some_iff.1 h
  have hxs:xs.map (·.1)=zss.map (Lib.tabData (H:=H) k):=by
   have:=congrArg Prod.fst hx
   simpa using this
  have hxl:xs.length=m:=by simpa using Lib.mapM_length hm
  have hzl:zss.length=m:=by
   have:=congrArg List.length hxs
   simp at this
   omega
  rw [wl (n:=n) m cs (zss.map fun zs=>zs.map fun z=>Value.int k z) (by simpa using hzl) hl (fun i z hi=>?_)]
  ·rw [List.map_flatten]
  ·rw [List.getElem?_map] at hi
   obtain ⟨zs,hzs,rfl⟩:=Option.map_eq_some_iff.1 hi
   have him:i < m:=by
    have:=(List.getElem?_eq_some_iff.1 hzs).1
    omega
   obtain ⟨b,hb,hfb⟩:=Lib.mapM_at hm i i (by simp [him])
   have h2:(xs.map (·.1))[i]?=some b.1:=by simp [hb]
   rw [hxs,List.getElem?_map,hzs] at h2
   obtain ⟨b1,b2⟩:=b
   have h3:Lib.tabData k zs=b1:=Option.some.inj h2
   rw [← h3] at hfb
   exact jA h1 hf (by rw [hc1,hn]) hfb
def zn (P:Program) (t:TypeId):Array Field:=match P.underlying t with
 | some (.struct fs)=>fs
 | _=>#[]
theorem gatR {P:Program} {W:World} {laid:List (String×DataW Unit)} {ps:List MemPlace} {name:String} {g:Nat} {t t1:TypeId} {m n:Nat} {k:IntKind} {zss:List (List Int)} (i:Nat) (hl:DataW.LaidVars P W laid ps) (hi:laid[i]?=some (name,.agg (zss.map (Lib.tabData k))))
  (hg:P.globalNamed name=some g) (hty:(P.globals[g]?).map (·.type)=some t) (ht:P.underlying t=some (.array m t1)) (h1:P.underlying t1=some (.struct (zn P t1))) (hf:wn P k 0 (zn P t1).toList=true) (hn:(zn P t1).size=n) (hc1:P.cellsOf t1=n) (hct:P.cellsOf t=m * n) :
  GAt W (fun _=>False) g (.agg ((zss.flatten).map fun z=>.v (.int k z))):=by
 obtain ⟨g',t',cs,fuel,p,hg',ht',hv,hd⟩:=uI i hl hi
 obtain rfl:=Option.some.inj (hg.symm.trans hg')
 obtain rfl:=Option.some.inj (hty.symm.trans ht')
 have:=zU ht h1 hf hn hc1 hct hd
 exact QcM hg (by rw [hv,← this])
theorem Qbr {W:World} (h0:GAt W (fun _=>False) 0 (.agg ((([[-1,0],[1,0],[0,-1],[0,1]]:List (List Int)).flatten).map fun z=>.v (.int .i64 z)))) (g:Nat) (x:D) (hg:cx.G g=some x):GAt W (fun _=>False) g x:=by
 have e:cx.G g=(match Nat.beq g 0 with
  | true=>some (.agg [I (-1),I 0,I 1,I 0,I 0,I (-1),I 0,I 1])
  | false=>none):=rfl
 rw [e] at hg
 split at hg
 ·rename_i hb
  rw [Nat.eq_of_beq_eq_true hb]
  cases hg
  exact h0
 ·cases hg
set_option maxRecDepth 10000
open Go
def GR (x:Nat):Option Nat:=match FloatKind.f64.decode x with
 | .nan _ _=>none
 | d=>some (FloatKind.f64.encode (d.integral .down))
theorem arch (x y:Nat) (h:GR x=some y) (w:World):(callFunc 66 #[.float .f64 x]).run Tryd.prog w=.ok (.value (.float .f64 y)) w:=by
 have hn:Extern.findNext Tryd.f66=none:=by kernel_rfl
 have he:Extern.find Tryd.f66=some (Extern.MathFloor.toIntegral "math.archFloor" .down):=by kernel_rfl
 have h4:Tryd.f66.body.isNone=true:=by kernel_rfl
 have h5:(Tryd.f66.name == "runtime.NumGoroutine")=false:=by kernel_rfl
 rw [run_callFunc_extern Tryd.func66 h5 h4 hn he]
 have e1:Extern.MathFloor.toIntegral "math.archFloor" .down #[.float .f64 x]=(match FloatKind.f64.decode x with
  | .nan s t =>
   if FloatKind.f64.format.quiet t=t then pure (.float .f64 x) else do
   let kept ← choose (.extern "math.Floor,Ceil,Trunc,RoundToEven.signallingNaN kept" 2)
   pure (.float .f64 (if kept == 1 then x else FloatKind.f64.encode (.nan s (FloatKind.f64.format.quiet t))))
  | d=>pure (.float .f64 (FloatKind.f64.encode (d.integral .down)))):=rfl
 rw [e1]
 unfold GR at h
 revert h
 cases FloatKind.f64.decode x with
 | nan s t=>intro h;cases h
 | infinity s=>intro h;simp only [Option.some.injEq] at h;subst h;rfl
 | number s m e=>intro h;simp only [Option.some.injEq] at h;subst h;rfl
set_option maxHeartbeats 400000 in
theorem Qca (x y : Nat) (h : GR x = some y) (w : World) :
  Calls Tryd.prog 64 #[.float .f64 x] w fun e w' => e = .returned (.float .f64 y) ∧ w' = w := by
 go_enter Tryd.func64, Tryd.ntmps64
 go_wp2
 rw [arch x y h w, Oper.upon_value]
 go_wp2
 go_ret
 exact ⟨rfl, rfl⟩
def KL (n:Nat) (x:Nat):Option Nat:=GR x
theorem jD {n x r:Nat} (h:KL n x=some r):Computes cx 64 [.v (.float .f64 x)] (.v (.float .f64 r)) :=
 wI fun w=>(Qca x r h w).mono fun e w' hh=>⟨hh.1,by rw [hh.2];exact Below.refl _ _⟩
def G6 (n:Nat) (x:Nat):Option Nat:=some (Go.bits .andNot .u64 (x:Int) 9223372036854775808).toNat
theorem bits (x:Nat) (w:World):(callFunc 69 #[.float .f64 x]).run Tryd.prog w=.ok (.value (.int .u64 x)) w:=by
 have hn:Extern.findNext Tryd.f69=none:=by kernel_rfl
 have he:Extern.find Tryd.f69=some Extern.MathFloatBits.float64bits:=by kernel_rfl
 have h4:Tryd.f69.body.isNone=true:=by kernel_rfl
 have h5:(Tryd.f69.name == "runtime.NumGoroutine")=false:=by kernel_rfl
 rw [run_callFunc_extern Tryd.func69 h5 h4 hn he];rfl
theorem Qbs (x:Int) (w:World):(callFunc 68 #[.int .u64 x]).run Tryd.prog w=.ok (.value (.float .f64 x.toNat)) w:=by
 have hn:Extern.findNext Tryd.f68=none:=by kernel_rfl
 have he:Extern.find Tryd.f68=some Extern.MathFloatBits.float64frombits:=by kernel_rfl
 have h4:Tryd.f68.body.isNone=true:=by kernel_rfl
 have h5:(Tryd.f68.name == "runtime.NumGoroutine")=false:=by kernel_rfl
 rw [run_callFunc_extern Tryd.func68 h5 h4 hn he];rfl
theorem Qdg (x:Nat) (w:World):Calls Tryd.prog 65 #[.float .f64 x] w fun e w'=>e=.returned (.float .f64 (Go.bits .andNot .u64 (x:Int) 9223372036854775808).toNat)∧w'=w:=by
 go_enter Tryd.func65,Tryd.ntmps65
 go_wp2
 rw [bits x w,Oper.upon_value]
 go_wp2
 rw [Qbs _ w,Oper.upon_value]
 go_wp2
 go_ret
 exact ⟨rfl,rfl⟩
theorem yZ {n x r:Nat} (h:G6 n x=some r):Computes cx 65 [.v (.float .f64 x)] (.v (.float .f64 r)):=by
 cases h
 exact wI fun w=>(Qdg x w).mono fun e w' hh=>⟨hh.1,by rw [hh.2];exact Below.refl _ _⟩
set_option maxRecDepth 100000
noncomputable def cxE:Cx:={ P:=cx.P,G:=cx.G,E:=fun f=>Nat.beq f 35 || Nat.beq f 30 }
theorem QcH:NoAsk cxE:=⟨noAsk.ask,fun f g ds r h1 h2=>by cases h1⟩
def W4 (n:Nat):Option Bool:=some true
theorem QcZ:Computes cx 5 [] (B true):=Xx (cx:=cxE) QcH uC (sym:=false) (n:=1000000) (orc:=[]) (ob:=[]) (by kernel_rfl) trivial
theorem Yq {n:Nat} {r:Bool} (h:W4 n=some r):Computes cx 5 [] (B r):=by cases h;exact QcZ
set_option maxRecDepth 10000
set_option maxHeartbeats 4000000
def YL (n:Nat)  : Option (Int) :=
 some 3
theorem jB {n:Nat}  {r:Int} (h:YL n =some r):Computes cx 60 [B true,I 3] (I r):=by
 unfold YL at h
 replace h:=Option.some.inj h
 subst h
 exact run (n:=100) (f:=60) (args:=[B true,I 3]) (orc:=[.no]) (r:=I 3) (ob:=[]) (by kernel_rfl) trivial
def Wd (n:Nat) (a0:Bool) (a1:Int):Option (Int) :=
 if a0=true then
  some a1
 else
 some 0
theorem JP {n:Nat} {a0:Bool} {a1:Int} {r:Int} (h:Wd n a0 a1=some r):Computes cx 60 [B a0,I a1] (I r):=by
 unfold Wd at h
 by_cases h1:a0=true
 ·replace h:=Qk h h1
  replace h:=Option.some.inj h
  subst h
  exact run (n:=100) (f:=60) (args:=[B a0,I a1]) (orc:=[.br true]) (r:=I a1) (ob:=[a0=true]) (by kernel_rfl) ⟨h1,trivial⟩
 ·replace h:=Ql h h1
  replace h:=Option.some.inj h
  subst h
  exact run (n:=100) (f:=60) (args:=[B a0,I a1]) (orc:=[.br false]) (r:=I 0) (ob:=[a0=false]) (by kernel_rfl) ⟨(Qy h1),trivial⟩
def We (n:Nat) (a0 a1 a2:Int):Option (Int) :=
 if a0 < a1 then
  (YL n).bind fun t2 =>
  some t2
 else
 (Wd n (decide (a0 > a2)) 3).bind fun t2 =>
 some t2
theorem GX {n:Nat} {a0 a1 a2:Int} {r:Int} (h:We n a0 a1 a2=some r):Computes cx 54 [I a0,I a1,I a2] (I r):=by
 unfold We at h
 by_cases h1:a0 < a1
 ·replace h:=Qk h h1
  obtain ⟨t2,h2,h⟩:=Qe h
  replace h:=Option.some.inj h
  subst h
  exact run (n:=100) (f:=54) (args:=[I a0,I a1,I a2]) (orc:=[.br true,.ret (I t2)]) (r:=I t2) (ob:=[Computes cx 60 [B true,I 3] (I t2),(decide (a0 < a1))=true]) (by kernel_rfl) ⟨(jB h2),(decide_eq_true h1),trivial⟩
 ·replace h:=Ql h h1
  obtain ⟨t2,h2,h⟩:=Qe h
  replace h:=Option.some.inj h
  subst h
  exact run (n:=100) (f:=54) (args:=[I a0,I a1,I a2]) (orc:=[.br false,.ret (I t2)]) (r:=I t2) (ob:=[Computes cx 60 [B (decide (a0 > a2)),I 3] (I t2),(decide (a0 < a1))=false]) (by kernel_rfl) ⟨(JP h2),(decide_eq_false h1),trivial⟩
def Wq (n:Nat) (a0:Int):Option (Int) :=
 (We n a0 1 64).bind fun t1 =>
 some t1
theorem ZW {n:Nat} {a0:Int} {r:Int} (h:Wq n a0=some r):Computes cx 33 [I a0] (I r):=by
 unfold Wq at h
 obtain ⟨t1,h1,h⟩:=Qe h
 replace h:=Option.some.inj h
 subst h
 exact run (n:=100) (f:=33) (args:=[I a0]) (orc:=[.ret (I t1)]) (r:=I t1) (ob:=[Computes cx 54 [I a0,I 1,I 64] (I t1)]) (by kernel_rfl) ⟨(GX h1),trivial⟩
def Qdc (x:Int):D:=I x
def U0 (d:D):Option (Int):=Q9 .i64 d
theorem Qm {d:D} {x:Int} (h:U0 d=some x):d=Qdc x:=QB h
def Wy (n:Nat) (a0:List D) (sa:(Int)):Option (((Int))⊕((Int)⊕(Unit))) :=
 if sa < ((a0).length:Int) then
  (el U0 a0 sa).bind fun ta2 =>
  if ta2=0 then
   if Qa (sa+1) then
   some (.inl (sa+1))
   else none
  else
  some (.inr (.inl ta2))
 else
 some (.inr (.inr ()))
noncomputable def EP (a0:List D) (sa:(Int)):List (Nat×AV):=[(0,.d (.lst false 1 a0)),(3,.d (I sa))]
noncomputable def EV (a0:List D) (sa:(Int)):List (Nat×Blk):=[]
noncomputable def EL (a0:List D) (e:(Int)⊕(Unit)):Ex:=match e with
 | (.inl e)=>.ret
 | (.inr e)=>(.exit 0)
noncomputable def XO (a0:List D) (e:(Int)⊕(Unit)):List (Nat×AV):=match e with
 | (.inl e)=>[(2,.d (I e))]
 | (.inr e)=>[]
noncomputable def XS (a0:List D) (e:(Int)⊕(Unit)):List (Nat×Blk):=match e with
 | (.inl e)=>[]
 | (.inr e)=>[]
theorem UX {n:Nat} {a0:List D} (sa:(Int)) (r) (h:Wy n a0 sa=some r):Rd cx (Qp cx.P 32 0) 19 0 false (EP a0) (EV a0) (EL a0) (XO a0) (XS a0) sa r:=by
 unfold Wy at h
 by_cases ha1:sa < ((a0).length:Int)
 ·replace h:=Qk h ha1
  obtain ⟨ta2,ha2,h⟩:=Qe h
  by_cases ha3:ta2=0
  ·replace h:=Qk h ha3
   obtain ⟨ha4,h⟩:=Qf h
   replace h:=Option.some.inj h
   subst h
   exact ⟨100,2,[.br true,.el (I ta2),.br false],[],[0,3],[],Qi (ob:=[Qa (sa+1),(ta2 != 0)=false,(0:Int)≤sa,nth (a0) (Int.toNat sa)=some (I ta2),(decide (sa < ((a0).length:Int)))=true]) (by kernel_rfl) ⟨ha4,(nef ha3),(Qw Qm ha2).1,(Qw Qm ha2).2,(decide_eq_true ha1),trivial⟩⟩
  ·replace h:=Ql h ha3
   replace h:=Option.some.inj h
   subst h
   exact ⟨⟨100,2,[.br true,.el (I ta2),.br true,.el (I ta2)],[],[2],[],Qi (ob:=[(0:Int)≤sa,nth (a0) (Int.toNat sa)=some (I ta2),(ta2 != 0)=true,(0:Int)≤sa,nth (a0) (Int.toNat sa)=some (I ta2),(decide (sa < ((a0).length:Int)))=true]) (by kernel_rfl) ⟨(Qw Qm ha2).1,(Qw Qm ha2).2,(net ha3),(Qw Qm ha2).1,(Qw Qm ha2).2,(decide_eq_true ha1),trivial⟩⟩,nofun⟩
 ·replace h:=Ql h ha1
  replace h:=Option.some.inj h
  subst h
  exact ⟨⟨100,2,[.br false],[],[],[],Qi (ob:=[(decide (sa < ((a0).length:Int)))=false]) (by kernel_rfl) ⟨(decide_eq_false ha1),trivial⟩⟩,nofun⟩
def Vm (n:Nat) (a0:List D):Option (Int) :=
 (QS (Wy n a0) n 0).bind fun t1=>match t1 with
  | (.inl t1)=>(
   some t1)
  | (.inr t1)=>(
   some 0)
theorem UA {n:Nat} {a0:List D} {r:Int} (h:Vm n a0=some r):Computes cx 32 [.lst false 1 a0] (I r):=by
 unfold Vm at h
 obtain ⟨t1,h1,h⟩:=Qe h
 rcases t1 with t1 | t1
 ·replace h:=Option.some.inj h
  subst h
  exact run (n:=100) (f:=32) (args:=[.lst false 1 a0]) (orc:=[.lp [] [0,3] [] .ret [(2,.d (I t1))] [] 27]) (r:=I t1) (ob:=[QI cx (Qp cx.P 32 0) 19 0 false [(0,.d (.lst false 1 a0)),(3,.d (I 0))] [] .ret [(2,.d (I t1))] []]) (by kernel_rfl) ⟨(Qx UX h1),trivial⟩
 ·replace h:=Option.some.inj h
  subst h
  exact run (n:=100) (f:=32) (args:=[.lst false 1 a0]) (orc:=[.lp [] [0,3] [] (.exit 0) [] [] 27]) (r:=I 0) (ob:=[QI cx (Qp cx.P 32 0) 19 0 false [(0,.d (.lst false 1 a0)),(3,.d (I 0))] [] (.exit 0) [] []]) (by kernel_rfl) ⟨(Qx UX h1),trivial⟩
def QH (x:Nat):D:=.v (.float .f32 x)
def YB (d:D):Option (Nat):=yp .f32 d
theorem QN {d:D} {x:Nat} (h:YB d=some x):d=QH x:=uV h
def Zo (n:Nat) (a0:Nat) (a1:Int):Option (Int) :=
 if ((FloatKind.format .f32).order a0 a0 != some .eq)=true then
  some 1
 else
 if ((FloatKind.format .f32).order a0 2139095039 == some .gt)=true then
  some 1
 else
 if ((FloatKind.format .f32).order a0 4286578687 == some .lt)=true then
  some 1
 else
 if ((FloatKind.format .f32).order a0 (FloatKind.nearest .f32 a1) == some .gt)=true then
  some 3
 else
 if (fop .sub .f32 0 (FloatKind.nearest .f32 a1)).isSome=true then
 if ((FloatKind.format .f32).order a0 ((fop .sub .f32 0 (FloatKind.nearest .f32 a1)).getD 0) == some .lt)=true then
  some 3
 else
 if (fop .mul .f32 1098907648 a0).isSome=true then
 if (f2i .f32 ((fop .mul .f32 1098907648 a0).getD 0) .i64).isSome=true then
 (Wd n ((FloatKind.format .f32).order (FloatKind.nearest .f32 ((f2i .f32 ((fop .mul .f32 1098907648 a0).getD 0) .i64).getD 0)) ((fop .mul .f32 1098907648 a0).getD 0) != some .eq) 3).bind fun t9 =>
 some t9
 else none
 else none
 else none
theorem XD {n:Nat} {a0:Nat} {a1:Int} {r:Int} (h:Zo n a0 a1=some r):Computes cx 61 [.v (.float .f32 a0),I a1] (I r):=by
 unfold Zo at h
 by_cases h1:((FloatKind.format .f32).order a0 a0 != some .eq)=true
 ·replace h:=Qk h h1
  replace h:=Option.some.inj h
  subst h
  exact run (n:=100) (f:=61) (args:=[.v (.float .f32 a0),I a1]) (orc:=[.br true,.no,.no]) (r:=I 1) (ob:=[((FloatKind.format .f32).order a0 a0 != some .eq)=true]) (by kernel_rfl) ⟨h1,trivial⟩
 ·replace h:=Ql h h1
  by_cases h2:((FloatKind.format .f32).order a0 2139095039 == some .gt)=true
  ·replace h:=Qk h h2
   replace h:=Option.some.inj h
   subst h
   exact run (n:=100) (f:=61) (args:=[.v (.float .f32 a0),I a1]) (orc:=[.br false,.br true,.no]) (r:=I 1) (ob:=[((FloatKind.format .f32).order a0 2139095039 == some .gt)=true,((FloatKind.format .f32).order a0 a0 != some .eq)=false]) (by kernel_rfl) ⟨h2,(Qy h1),trivial⟩
  ·replace h:=Ql h h2
   by_cases h3:((FloatKind.format .f32).order a0 4286578687 == some .lt)=true
   ·replace h:=Qk h h3
    replace h:=Option.some.inj h
    subst h
    exact run (n:=100) (f:=61) (args:=[.v (.float .f32 a0),I a1]) (orc:=[.br false,.br false,.br true]) (r:=I 1) (ob:=[((FloatKind.format .f32).order a0 4286578687 == some .lt)=true,((FloatKind.format .f32).order a0 2139095039 == some .gt)=false,((FloatKind.format .f32).order a0 a0 != some .eq)=false]) (by kernel_rfl) ⟨h3,(Qy h2),(Qy h1),trivial⟩
   ·replace h:=Ql h h3
    by_cases h4:((FloatKind.format .f32).order a0 (FloatKind.nearest .f32 a1) == some .gt)=true
    ·replace h:=Qk h h4
     replace h:=Option.some.inj h
     subst h
     exact run (n:=100) (f:=61) (args:=[.v (.float .f32 a0),I a1]) (orc:=[.br false,.br false,.br false,.br true,.no]) (r:=I 3) (ob:=[((FloatKind.format .f32).order a0 (FloatKind.nearest .f32 a1) == some .gt)=true,((FloatKind.format .f32).order a0 4286578687 == some .lt)=false,((FloatKind.format .f32).order a0 2139095039 == some .gt)=false,((FloatKind.format .f32).order a0 a0 != some .eq)=false]) (by kernel_rfl) ⟨h4,(Qy h3),(Qy h2),(Qy h1),trivial⟩
    ·replace h:=Ql h h4
     obtain ⟨h5,h⟩:=Qf h
     by_cases h6:((FloatKind.format .f32).order a0 ((fop .sub .f32 0 (FloatKind.nearest .f32 a1)).getD 0) == some .lt)=true
     ·replace h:=Qk h h6
      replace h:=Option.some.inj h
      subst h
      exact run (n:=100) (f:=61) (args:=[.v (.float .f32 a0),I a1]) (orc:=[.br false,.br false,.br false,.br false,.br true]) (r:=I 3) (ob:=[((FloatKind.format .f32).order a0 ((fop .sub .f32 0 (FloatKind.nearest .f32 a1)).getD 0) == some .lt)=true,(fop .sub .f32 0 (FloatKind.nearest .f32 a1)).isSome=true,((FloatKind.format .f32).order a0 (FloatKind.nearest .f32 a1) == some .gt)=false,((FloatKind.format .f32).order a0 4286578687 == some .lt)=false,((FloatKind.format .f32).order a0 2139095039 == some .gt)=false,((FloatKind.format .f32).order a0 a0 != some .eq)=false]) (by kernel_rfl) ⟨h6,h5,(Qy h4),(Qy h3),(Qy h2),(Qy h1),trivial⟩
     ·replace h:=Ql h h6
      obtain ⟨h7,h⟩:=Qf h
      obtain ⟨h8,h⟩:=Qf h
      obtain ⟨t9,h9,h⟩:=Qe h
      replace h:=Option.some.inj h
      subst h
      exact run (n:=100) (f:=61) (args:=[.v (.float .f32 a0),I a1]) (orc:=[.br false,.br false,.br false,.br false,.br false,.ret (I t9)]) (r:=I t9) (ob:=[Computes cx 60 [B ((FloatKind.format .f32).order (FloatKind.nearest .f32 ((f2i .f32 ((fop .mul .f32 1098907648 a0).getD 0) .i64).getD 0)) ((fop .mul .f32 1098907648 a0).getD 0) != some .eq),I 3] (I t9),(fop .mul .f32 1098907648 a0).isSome=true,(f2i .f32 ((fop .mul .f32 1098907648 a0).getD 0) .i64).isSome=true,(fop .mul .f32 1098907648 a0).isSome=true,((FloatKind.format .f32).order a0 ((fop .sub .f32 0 (FloatKind.nearest .f32 a1)).getD 0) == some .lt)=false,(fop .sub .f32 0 (FloatKind.nearest .f32 a1)).isSome=true,((FloatKind.format .f32).order a0 (FloatKind.nearest .f32 a1) == some .gt)=false,((FloatKind.format .f32).order a0 4286578687 == some .lt)=false,((FloatKind.format .f32).order a0 2139095039 == some .gt)=false,((FloatKind.format .f32).order a0 a0 != some .eq)=false]) (by kernel_rfl) ⟨(JP h9),h7,h8,h7,(Qy h6),h5,(Qy h4),(Qy h3),(Qy h2),(Qy h1),trivial⟩
def Z0 (n:Nat) (a0:Nat):Option (Int) :=
 (Zo n a0 1024).bind fun t1 =>
 some t1
theorem Yw {n:Nat} {a0:Nat} {r:Int} (h:Z0 n a0=some r):Computes cx 55 [.v (.float .f32 a0)] (I r):=by
 unfold Z0 at h
 obtain ⟨t1,h1,h⟩:=Qe h
 replace h:=Option.some.inj h
 subst h
 exact run (n:=100) (f:=55) (args:=[.v (.float .f32 a0)]) (orc:=[.ret (I t1)]) (r:=I t1) (ob:=[Computes cx 61 [.v (.float .f32 a0),I 1024] (I t1)]) (by kernel_rfl) ⟨(XD h1),trivial⟩
def QZ (n:Nat) (a0:List D) (sa:(Int)):Option (((Int))⊕((Int)⊕(Unit))) :=
 if sa < ((a0).length:Int) then
  (el YB a0 sa).bind fun ta2 =>
  (Z0 n ta2).bind fun ta3 =>
  if ta3=0 then
   if Qa (sa+1) then
   some (.inl (sa+1))
   else none
  else
  some (.inr (.inl ta3))
 else
 some (.inr (.inr ()))
noncomputable def UW (a0:List D) (sa:(Int)):List (Nat×AV):=[(0,.d (.lst false 1 a0)),(3,.d (I sa))]
noncomputable def UZ (a0:List D) (sa:(Int)):List (Nat×Blk):=[]
noncomputable def UT (a0:List D) (e:(Int)⊕(Unit)):Ex:=match e with
 | (.inl e)=>.ret
 | (.inr e)=>(.exit 0)
noncomputable def UC (a0:List D) (e:(Int)⊕(Unit)):List (Nat×AV):=match e with
 | (.inl e)=>[(2,.d (I e))]
 | (.inr e)=>[]
noncomputable def UD (a0:List D) (e:(Int)⊕(Unit)):List (Nat×Blk):=match e with
 | (.inl e)=>[]
 | (.inr e)=>[]
theorem VC {n:Nat} {a0:List D} (sa:(Int)) (r) (h:QZ n a0 sa=some r):Rd cx (Qp cx.P 34 0) 19 0 false (UW a0) (UZ a0) (UT a0) (UC a0) (UD a0) sa r:=by
 unfold QZ at h
 by_cases ha1:sa < ((a0).length:Int)
 ·replace h:=Qk h ha1
  obtain ⟨ta2,ha2,h⟩:=Qe h
  obtain ⟨ta3,ha3,h⟩:=Qe h
  by_cases ha4:ta3=0
  ·replace h:=Qk h ha4
   obtain ⟨ha5,h⟩:=Qf h
   replace h:=Option.some.inj h
   subst h
   exact ⟨100,2,[.br true,.el (.v (.float .f32 ta2)),.ret (I ta3),.br false],[],[0,3],[],Qi (ob:=[Qa (sa+1),(ta3 != 0)=false,Computes cx 55 [.v (.float .f32 ta2)] (I ta3),(0:Int)≤sa,nth (a0) (Int.toNat sa)=some (.v (.float .f32 ta2)),(decide (sa < ((a0).length:Int)))=true]) (by kernel_rfl) ⟨ha5,(nef ha4),(Yw ha3),(Qw QN ha2).1,(Qw QN ha2).2,(decide_eq_true ha1),trivial⟩⟩
  ·replace h:=Ql h ha4
   replace h:=Option.some.inj h
   subst h
   exact ⟨⟨100,2,[.br true,.el (.v (.float .f32 ta2)),.ret (I ta3),.br true],[],[2],[],Qi (ob:=[(ta3 != 0)=true,Computes cx 55 [.v (.float .f32 ta2)] (I ta3),(0:Int)≤sa,nth (a0) (Int.toNat sa)=some (.v (.float .f32 ta2)),(decide (sa < ((a0).length:Int)))=true]) (by kernel_rfl) ⟨(net ha4),(Yw ha3),(Qw QN ha2).1,(Qw QN ha2).2,(decide_eq_true ha1),trivial⟩⟩,nofun⟩
 ·replace h:=Ql h ha1
  replace h:=Option.some.inj h
  subst h
  exact ⟨⟨100,2,[.br false],[],[],[],Qi (ob:=[(decide (sa < ((a0).length:Int)))=false]) (by kernel_rfl) ⟨(decide_eq_false ha1),trivial⟩⟩,nofun⟩
def ZT (n:Nat) (a0:List D):Option (Int) :=
 (QS (QZ n a0) n 0).bind fun t1=>match t1 with
  | (.inl t1)=>(
   some t1)
  | (.inr t1)=>(
   some 0)
theorem JQ {n:Nat} {a0:List D} {r:Int} (h:ZT n a0=some r):Computes cx 34 [.lst false 1 a0] (I r):=by
 unfold ZT at h
 obtain ⟨t1,h1,h⟩:=Qe h
 rcases t1 with t1 | t1
 ·replace h:=Option.some.inj h
  subst h
  exact run (n:=100) (f:=34) (args:=[.lst false 1 a0]) (orc:=[.lp [] [0,3] [] .ret [(2,.d (I t1))] [] 28]) (r:=I t1) (ob:=[QI cx (Qp cx.P 34 0) 19 0 false [(0,.d (.lst false 1 a0)),(3,.d (I 0))] [] .ret [(2,.d (I t1))] []]) (by kernel_rfl) ⟨(Qx VC h1),trivial⟩
 ·replace h:=Option.some.inj h
  subst h
  exact run (n:=100) (f:=34) (args:=[.lst false 1 a0]) (orc:=[.lp [] [0,3] [] (.exit 0) [] [] 28]) (r:=I 0) (ob:=[QI cx (Qp cx.P 34 0) 19 0 false [(0,.d (.lst false 1 a0)),(3,.d (I 0))] [] (.exit 0) [] []]) (by kernel_rfl) ⟨(Qx VC h1),trivial⟩
def Wz (n:Nat) (a0 a1:Int) (a2:List D):Option (Int) :=
 (Wq n a0).bind fun t1 =>
 (Wq n a1).bind fun t2 =>
 (Vm n ([I t1,I t2])).bind fun t3 =>
 if t3=0 then
  if Qa (a0 * a1) then
  if ((a2).length:Int)=(a0 * a1) then
   (ZT n a2).bind fun t7 =>
   some t7
  else
  some 2
  else none
 else
 some t3
theorem V3 {n:Nat} {a0 a1:Int} {a2:List D} {r:Int} (h:Wz n a0 a1 a2=some r):Computes cx 17 [.agg [I a0,I a1,.lst false 1 a2]] (I r):=by
 unfold Wz at h
 obtain ⟨t1,h1,h⟩:=Qe h
 obtain ⟨t2,h2,h⟩:=Qe h
 obtain ⟨t3,h3,h⟩:=Qe h
 by_cases h4:t3=0
 ·replace h:=Qk h h4
  obtain ⟨h5,h⟩:=Qf h
  by_cases h6:((a2).length:Int)=(a0 * a1)
  ·replace h:=Qk h h6
   obtain ⟨t7,h7,h⟩:=Qe h
   replace h:=Option.some.inj h
   subst h
   exact run (n:=100) (f:=17) (args:=[.agg [I a0,I a1,.lst false 1 a2]]) (orc:=[.ret (I t1),.ret (I t2),.ret (I t3),.br false,.br false,.ret (I t7)]) (r:=I t7) (ob:=[Computes cx 34 [.lst false 1 a2] (I t7),(((a2).length:Int) != (a0 * a1))=false,Qa (a0 * a1),(t3 != 0)=false,Computes cx 32 [.lst true 1 [I t1,I t2]] (I t3),Computes cx 33 [I a1] (I t2),Computes cx 33 [I a0] (I t1)]) (by kernel_rfl) ⟨(JQ h7),(nef h6),h5,(nef h4),((UA h3).le (.cons (.full _ _ _) (.nil)) (.refl _)),(ZW h2),(ZW h1),trivial⟩
  ·replace h:=Ql h h6
   replace h:=Option.some.inj h
   subst h
   exact run (n:=100) (f:=17) (args:=[.agg [I a0,I a1,.lst false 1 a2]]) (orc:=[.ret (I t1),.ret (I t2),.ret (I t3),.br false,.br true]) (r:=I 2) (ob:=[(((a2).length:Int) != (a0 * a1))=true,Qa (a0 * a1),(t3 != 0)=false,Computes cx 32 [.lst true 1 [I t1,I t2]] (I t3),Computes cx 33 [I a1] (I t2),Computes cx 33 [I a0] (I t1)]) (by kernel_rfl) ⟨(net h6),h5,(nef h4),((UA h3).le (.cons (.full _ _ _) (.nil)) (.refl _)),(ZW h2),(ZW h1),trivial⟩
 ·replace h:=Ql h h4
  replace h:=Option.some.inj h
  subst h
  exact run (n:=100) (f:=17) (args:=[.agg [I a0,I a1,.lst false 1 a2]]) (orc:=[.ret (I t1),.ret (I t2),.ret (I t3),.br true]) (r:=I t3) (ob:=[(t3 != 0)=true,Computes cx 32 [.lst true 1 [I t1,I t2]] (I t3),Computes cx 33 [I a1] (I t2),Computes cx 33 [I a0] (I t1)]) (by kernel_rfl) ⟨(net h4),((UA h3).le (.cons (.full _ _ _) (.nil)) (.refl _)),(ZW h2),(ZW h1),trivial⟩
def Zk (n:Nat) (a2:List D) (a4:Nat) (sa:(Int)):Option (((Int))⊕((Unit)⊕(Unit))) :=
 if sa < ((a2).length:Int) then
  (el YB a2 sa).bind fun ta2 =>
  if ((FloatKind.format .f32).order ta2 a4 == some .gt)=true then
   some (.inr (.inl ()))
  else
  if ((FloatKind.format .f32).order ta2 (Op.negFloat .f32 a4) == some .lt)=true then
   some (.inr (.inl ()))
  else
  if Qa (sa+1) then
  some (.inl (sa+1))
  else none
 else
 some (.inr (.inr ()))
noncomputable def Gp (a2:List D) (a4:Nat) (sa:(Int)):List (Nat×AV):=[(2,.d (.v (.float .f32 a4))),(20,.d (.lst false 1 a2)),(21,.d (I ((a2).length:Int))),(22,.d (I sa))]
noncomputable def Gu (a2:List D) (a4:Nat) (sa:(Int)):List (Nat×Blk):=[]
noncomputable def Gl (a2:List D) (a4:Nat) (e:(Unit)⊕(Unit)):Ex:=match e with
 | (.inl e)=>.ret
 | (.inr e)=>(.exit 0)
noncomputable def JU (a2:List D) (a4:Nat) (e:(Unit)⊕(Unit)):List (Nat×AV):=match e with
 | (.inl e)=>[(6,.d (B false))]
 | (.inr e)=>[]
noncomputable def JX (a2:List D) (a4:Nat) (e:(Unit)⊕(Unit)):List (Nat×Blk):=match e with
 | (.inl e)=>[]
 | (.inr e)=>[]
theorem Yy {n:Nat} {a2:List D} {a4:Nat} (sa:(Int)) (r) (h:Zk n a2 a4 sa=some r):Rd cx (Qp cx.P 4 0) 36 0 false (Gp a2 a4) (Gu a2 a4) (Gl a2 a4) (JU a2 a4) (JX a2 a4) sa r:=by
 unfold Zk at h
 by_cases ha1:sa < ((a2).length:Int)
 ·replace h:=Qk h ha1
  obtain ⟨ta2,ha2,h⟩:=Qe h
  by_cases ha3:((FloatKind.format .f32).order ta2 a4 == some .gt)=true
  ·replace h:=Qk h ha3
   replace h:=Option.some.inj h
   subst h
   exact ⟨⟨100,16,[.br true,.el (.v (.float .f32 ta2)),.br true,.no],[],[6],[],Qi (ob:=[((FloatKind.format .f32).order ta2 a4 == some .gt)=true,(0:Int)≤sa,nth (a2) (Int.toNat sa)=some (.v (.float .f32 ta2)),(decide (sa < ((a2).length:Int)))=true]) (by kernel_rfl) ⟨ha3,(Qw QN ha2).1,(Qw QN ha2).2,(decide_eq_true ha1),trivial⟩⟩,nofun⟩
  ·replace h:=Ql h ha3
   by_cases ha4:((FloatKind.format .f32).order ta2 (Op.negFloat .f32 a4) == some .lt)=true
   ·replace h:=Qk h ha4
    replace h:=Option.some.inj h
    subst h
    exact ⟨⟨100,16,[.br true,.el (.v (.float .f32 ta2)),.br false,.br true],[],[6],[],Qi (ob:=[((FloatKind.format .f32).order ta2 (Op.negFloat .f32 a4) == some .lt)=true,((FloatKind.format .f32).order ta2 a4 == some .gt)=false,(0:Int)≤sa,nth (a2) (Int.toNat sa)=some (.v (.float .f32 ta2)),(decide (sa < ((a2).length:Int)))=true]) (by kernel_rfl) ⟨ha4,(Qy ha3),(Qw QN ha2).1,(Qw QN ha2).2,(decide_eq_true ha1),trivial⟩⟩,nofun⟩
   ·replace h:=Ql h ha4
    obtain ⟨ha5,h⟩:=Qf h
    replace h:=Option.some.inj h
    subst h
    exact ⟨100,16,[.br true,.el (.v (.float .f32 ta2)),.br false,.br false],[],[2,20,21,22],[],Qi (ob:=[Qa (sa+1),((FloatKind.format .f32).order ta2 (Op.negFloat .f32 a4) == some .lt)=false,((FloatKind.format .f32).order ta2 a4 == some .gt)=false,(0:Int)≤sa,nth (a2) (Int.toNat sa)=some (.v (.float .f32 ta2)),(decide (sa < ((a2).length:Int)))=true]) (by kernel_rfl) ⟨ha5,(Qy ha4),(Qy ha3),(Qw QN ha2).1,(Qw QN ha2).2,(decide_eq_true ha1),trivial⟩⟩
 ·replace h:=Ql h ha1
  replace h:=Option.some.inj h
  subst h
  exact ⟨⟨100,16,[.br false],[],[],[],Qi (ob:=[(decide (sa < ((a2).length:Int)))=false]) (by kernel_rfl) ⟨(decide_eq_false ha1),trivial⟩⟩,nofun⟩
def Wx (n:Nat) (a0 a1:Int) (a2:List D) (a3:Int) (a4:Nat):Option (Bool) :=
 if ((a2).length:Int) > a3 then
  some false
 else
 (Wz n a0 a1 a2).bind fun t2 =>
 if t2=0 then
  (QS (Zk n a2 a4) n 0).bind fun t4=>match t4 with
   | (.inl t4)=>(
    some false)
   | (.inr t4)=>(
    some true)
 else
 some false
theorem Ww {n:Nat} {a0 a1:Int} {a2:List D} {a3:Int} {a4:Nat} {r:Bool} (h:Wx n a0 a1 a2 a3 a4=some r):Computes cx 4 [.agg [I a0,I a1,.lst false 1 a2],I a3,.v (.float .f32 a4)] (B r):=by
 unfold Wx at h
 by_cases h1:((a2).length:Int) > a3
 ·replace h:=Qk h h1
  replace h:=Option.some.inj h
  subst h
  exact run (n:=100) (f:=4) (args:=[.agg [I a0,I a1,.lst false 1 a2],I a3,.v (.float .f32 a4)]) (orc:=[.br true,.no]) (r:=B false) (ob:=[(decide (((a2).length:Int) > a3))=true]) (by kernel_rfl) ⟨(decide_eq_true h1),trivial⟩
 ·replace h:=Ql h h1
  obtain ⟨t2,h2,h⟩:=Qe h
  by_cases h3:t2=0
  ·replace h:=Qk h h3
   obtain ⟨t4,h4,h⟩:=Qe h
   rcases t4 with t4 | t4
   ·replace h:=Option.some.inj h
    subst h
    exact run (n:=100) (f:=4) (args:=[.agg [I a0,I a1,.lst false 1 a2],I a3,.v (.float .f32 a4)]) (orc:=[.br false,.ret (I t2),.br false,.lp [] [2,20,21,22] [] .ret [(6,.d (B false))] [] 42]) (r:=B false) (ob:=[QI cx (Qp cx.P 4 0) 36 0 false [(2,.d (.v (.float .f32 a4))),(20,.d (.lst false 1 a2)),(21,.d (I ((a2).length:Int))),(22,.d (I 0))] [] .ret [(6,.d (B false))] [],(t2 != 0)=false,Computes cx 17 [.agg [I a0,I a1,.lst false 1 a2]] (I t2),(decide (((a2).length:Int) > a3))=false]) (by kernel_rfl) ⟨(Qx Yy h4),(nef h3),(V3 h2),(decide_eq_false h1),trivial⟩
   ·replace h:=Option.some.inj h
    subst h
    exact run (n:=100) (f:=4) (args:=[.agg [I a0,I a1,.lst false 1 a2],I a3,.v (.float .f32 a4)]) (orc:=[.br false,.ret (I t2),.br false,.lp [] [2,20,21,22] [] (.exit 0) [] [] 42]) (r:=B true) (ob:=[QI cx (Qp cx.P 4 0) 36 0 false [(2,.d (.v (.float .f32 a4))),(20,.d (.lst false 1 a2)),(21,.d (I ((a2).length:Int))),(22,.d (I 0))] [] (.exit 0) [] [],(t2 != 0)=false,Computes cx 17 [.agg [I a0,I a1,.lst false 1 a2]] (I t2),(decide (((a2).length:Int) > a3))=false]) (by kernel_rfl) ⟨(Qx Yy h4),(nef h3),(V3 h2),(decide_eq_false h1),trivial⟩
  ·replace h:=Ql h h3
   replace h:=Option.some.inj h
   subst h
   exact run (n:=100) (f:=4) (args:=[.agg [I a0,I a1,.lst false 1 a2],I a3,.v (.float .f32 a4)]) (orc:=[.br false,.ret (I t2),.br true]) (r:=B false) (ob:=[(t2 != 0)=true,Computes cx 17 [.agg [I a0,I a1,.lst false 1 a2]] (I t2),(decide (((a2).length:Int) > a3))=false]) (by kernel_rfl) ⟨(net h3),(V3 h2),(decide_eq_false h1),trivial⟩
def ZK (n:Nat) (a0:Nat):Option (Int) :=
 if (fop .mul .f32 1098907648 a0).isSome=true then
 if (f2i .f32 ((fop .mul .f32 1098907648 a0).getD 0) .i64).isSome=true then
 some ((f2i .f32 ((fop .mul .f32 1098907648 a0).getD 0) .i64).getD 0)
 else none
 else none
theorem GW {n:Nat} {a0:Nat} {r:Int} (h:ZK n a0=some r):Computes cx 21 [.v (.float .f32 a0)] (I r):=by
 unfold ZK at h
 obtain ⟨h1,h⟩:=Qf h
 obtain ⟨h2,h⟩:=Qf h
 replace h:=Option.some.inj h
 subst h
 exact run (n:=100) (f:=21) (args:=[.v (.float .f32 a0)]) (orc:=[]) (r:=I ((f2i .f32 ((fop .mul .f32 1098907648 a0).getD 0) .i64).getD 0)) (ob:=[(f2i .f32 ((fop .mul .f32 1098907648 a0).getD 0) .i64).isSome=true,(fop .mul .f32 1098907648 a0).isSome=true]) (by kernel_rfl) ⟨h2,h1,trivial⟩
def Vf (n:Nat)  : Option (Int) :=
 some 3
theorem Km {n:Nat}  {r:Int} (h:Vf n =some r):Computes cx 46 [B true,I 3] (I r):=by
 unfold Vf at h
 replace h:=Option.some.inj h
 subst h
 exact run (n:=100) (f:=46) (args:=[B true,I 3]) (orc:=[.no]) (r:=I 3) (ob:=[]) (by kernel_rfl) trivial
def Q6 (n:Nat) (a0:Bool) (a1:Int):Option (Int) :=
 if a0=true then
  some a1
 else
 some 0
theorem QK {n:Nat} {a0:Bool} {a1:Int} {r:Int} (h:Q6 n a0 a1=some r):Computes cx 46 [B a0,I a1] (I r):=by
 unfold Q6 at h
 by_cases h1:a0=true
 ·replace h:=Qk h h1
  replace h:=Option.some.inj h
  subst h
  exact run (n:=100) (f:=46) (args:=[B a0,I a1]) (orc:=[.br true]) (r:=I a1) (ob:=[a0=true]) (by kernel_rfl) ⟨h1,trivial⟩
 ·replace h:=Ql h h1
  replace h:=Option.some.inj h
  subst h
  exact run (n:=100) (f:=46) (args:=[B a0,I a1]) (orc:=[.br false]) (r:=I 0) (ob:=[a0=false]) (by kernel_rfl) ⟨(Qy h1),trivial⟩
def Q0 (n:Nat) (a0 a1 a2:Int):Option (Int) :=
 if a0 < a1 then
  (Vf n).bind fun t2 =>
  some t2
 else
 (Q6 n (decide (a0 > a2)) 3).bind fun t2 =>
 some t2
theorem QP {n:Nat} {a0 a1 a2:Int} {r:Int} (h:Q0 n a0 a1 a2=some r):Computes cx 27 [I a0,I a1,I a2] (I r):=by
 unfold Q0 at h
 by_cases h1:a0 < a1
 ·replace h:=Qk h h1
  obtain ⟨t2,h2,h⟩:=Qe h
  replace h:=Option.some.inj h
  subst h
  exact run (n:=100) (f:=27) (args:=[I a0,I a1,I a2]) (orc:=[.br true,.ret (I t2)]) (r:=I t2) (ob:=[Computes cx 46 [B true,I 3] (I t2),(decide (a0 < a1))=true]) (by kernel_rfl) ⟨(Km h2),(decide_eq_true h1),trivial⟩
 ·replace h:=Ql h h1
  obtain ⟨t2,h2,h⟩:=Qe h
  replace h:=Option.some.inj h
  subst h
  exact run (n:=100) (f:=27) (args:=[I a0,I a1,I a2]) (orc:=[.br false,.ret (I t2)]) (r:=I t2) (ob:=[Computes cx 46 [B (decide (a0 > a2)),I 3] (I t2),(decide (a0 < a1))=false]) (by kernel_rfl) ⟨(QK h2),(decide_eq_false h1),trivial⟩
def WB (n:Nat) (a0:List D) (sa:(Int)):Option (((Int))⊕((Int)⊕(Unit))) :=
 if sa < ((a0).length:Int) then
  (el U0 a0 sa).bind fun ta2 =>
  if ta2=0 then
   if Qa (sa+1) then
   some (.inl (sa+1))
   else none
  else
  some (.inr (.inl ta2))
 else
 some (.inr (.inr ()))
noncomputable def EQ (a0:List D) (sa:(Int)):List (Nat×AV):=[(5,.d (.lst false 1 a0)),(6,.d (I ((a0).length:Int))),(7,.d (I sa))]
noncomputable def EW (a0:List D) (sa:(Int)):List (Nat×Blk):=[]
noncomputable def EM (a0:List D) (e:(Int)⊕(Unit)):Ex:=match e with
 | (.inl e)=>.ret
 | (.inr e)=>(.exit 0)
noncomputable def XP (a0:List D) (e:(Int)⊕(Unit)):List (Nat×AV):=match e with
 | (.inl e)=>[(2,.d (I e))]
 | (.inr e)=>[]
noncomputable def XU (a0:List D) (e:(Int)⊕(Unit)):List (Nat×Blk):=match e with
 | (.inl e)=>[]
 | (.inr e)=>[]
theorem UY {n:Nat} {a0:List D} (sa:(Int)) (r) (h:WB n a0 sa=some r):Rd cx (Qp cx.P 25 0) 15 0 false (EQ a0) (EW a0) (EM a0) (XP a0) (XU a0) sa r:=by
 unfold WB at h
 by_cases ha1:sa < ((a0).length:Int)
 ·replace h:=Qk h ha1
  obtain ⟨ta2,ha2,h⟩:=Qe h
  by_cases ha3:ta2=0
  ·replace h:=Qk h ha3
   obtain ⟨ha4,h⟩:=Qf h
   replace h:=Option.some.inj h
   subst h
   exact ⟨100,4,[.br true,.el (I ta2),.br false],[],[5,6,7],[],Qi (ob:=[Qa (sa+1),(ta2 != 0)=false,(0:Int)≤sa,nth (a0) (Int.toNat sa)=some (I ta2),(decide (sa < ((a0).length:Int)))=true]) (by kernel_rfl) ⟨ha4,(nef ha3),(Qw Qm ha2).1,(Qw Qm ha2).2,(decide_eq_true ha1),trivial⟩⟩
  ·replace h:=Ql h ha3
   replace h:=Option.some.inj h
   subst h
   exact ⟨⟨100,4,[.br true,.el (I ta2),.br true],[],[2],[],Qi (ob:=[(ta2 != 0)=true,(0:Int)≤sa,nth (a0) (Int.toNat sa)=some (I ta2),(decide (sa < ((a0).length:Int)))=true]) (by kernel_rfl) ⟨(net ha3),(Qw Qm ha2).1,(Qw Qm ha2).2,(decide_eq_true ha1),trivial⟩⟩,nofun⟩
 ·replace h:=Ql h ha1
  replace h:=Option.some.inj h
  subst h
  exact ⟨⟨100,4,[.br false],[],[],[],Qi (ob:=[(decide (sa < ((a0).length:Int)))=false]) (by kernel_rfl) ⟨(decide_eq_false ha1),trivial⟩⟩,nofun⟩
def QJ (n:Nat) (a0:List D):Option (Int) :=
 (QS (WB n a0) n 0).bind fun t1=>match t1 with
  | (.inl t1)=>(
   some t1)
  | (.inr t1)=>(
   some 0)
theorem Qt {n:Nat} {a0:List D} {r:Int} (h:QJ n a0=some r):Computes cx 25 [.lst false 1 a0] (I r):=by
 unfold QJ at h
 obtain ⟨t1,h1,h⟩:=Qe h
 rcases t1 with t1 | t1
 ·replace h:=Option.some.inj h
  subst h
  exact run (n:=100) (f:=25) (args:=[.lst false 1 a0]) (orc:=[.lp [] [5,6,7] [] .ret [(2,.d (I t1))] [] 23]) (r:=I t1) (ob:=[QI cx (Qp cx.P 25 0) 15 0 false [(5,.d (.lst false 1 a0)),(6,.d (I ((a0).length:Int))),(7,.d (I 0))] [] .ret [(2,.d (I t1))] []]) (by kernel_rfl) ⟨(Qx UY h1),trivial⟩
 ·replace h:=Option.some.inj h
  subst h
  exact run (n:=100) (f:=25) (args:=[.lst false 1 a0]) (orc:=[.lp [] [5,6,7] [] (.exit 0) [] [] 23]) (r:=I 0) (ob:=[QI cx (Qp cx.P 25 0) 15 0 false [(5,.d (.lst false 1 a0)),(6,.d (I ((a0).length:Int))),(7,.d (I 0))] [] (.exit 0) [] []]) (by kernel_rfl) ⟨(Qx UY h1),trivial⟩
def QM (n:Nat) (a0 a1 a2:Int):Option (Int) :=
 (Q0 n a0 (-1048576) 1048576).bind fun t1 =>
 (Q0 n a1 (-1048576) 1048576).bind fun t2 =>
 (Q0 n a2 (-1048576) 1048576).bind fun t3 =>
 (QJ n ([I t1,I t2,I t3])).bind fun t4 =>
 some t4
theorem QD {n:Nat} {a0 a1 a2:Int} {r:Int} (h:QM n a0 a1 a2=some r):Computes cx 42 [.agg [I a0,I a1,I a2]] (I r):=by
 unfold QM at h
 obtain ⟨t1,h1,h⟩:=Qe h
 obtain ⟨t2,h2,h⟩:=Qe h
 obtain ⟨t3,h3,h⟩:=Qe h
 obtain ⟨t4,h4,h⟩:=Qe h
 replace h:=Option.some.inj h
 subst h
 exact run (n:=100) (f:=42) (args:=[.agg [I a0,I a1,I a2]]) (orc:=[.ret (I t1),.ret (I t2),.ret (I t3),.ret (I t4)]) (r:=I t4) (ob:=[Computes cx 25 [.lst true 1 [I t1,I t2,I t3]] (I t4),Computes cx 27 [I a2,I (-1048576),I 1048576] (I t3),Computes cx 27 [I a1,I (-1048576),I 1048576] (I t2),Computes cx 27 [I a0,I (-1048576),I 1048576] (I t1)]) (by kernel_rfl) ⟨((Qt h4).le (.cons (.full _ _ _) (.nil)) (.refl _)),(QP h3),(QP h2),(QP h1),trivial⟩
def Zu (n:Nat) (a0 a1 a2 a3 a4 a5:Int):Option (Int) :=
 (Q0 n a0 0 255).bind fun t1 =>
 (Q0 n a1 0 65535).bind fun t2 =>
 (Q0 n a2 0 255).bind fun t3 =>
 (QM n a3 a4 a5).bind fun t4 =>
 (QJ n ([I t1,I t2,I t3,I t4])).bind fun t5 =>
 some t5
theorem WR {n:Nat} {a0 a1 a2 a3 a4 a5:Int} {r:Int} (h:Zu n a0 a1 a2 a3 a4 a5=some r):Computes cx 22 [.agg [I a0,I a1,I a2,I a3,I a4,I a5]] (I r):=by
 unfold Zu at h
 obtain ⟨t1,h1,h⟩:=Qe h
 obtain ⟨t2,h2,h⟩:=Qe h
 obtain ⟨t3,h3,h⟩:=Qe h
 obtain ⟨t4,h4,h⟩:=Qe h
 obtain ⟨t5,h5,h⟩:=Qe h
 replace h:=Option.some.inj h
 subst h
 exact run (n:=100) (f:=22) (args:=[.agg [I a0,I a1,I a2,I a3,I a4,I a5]]) (orc:=[.ret (I t1),.ret (I t2),.ret (I t3),.ret (I t4),.ret (I t5)]) (r:=I t5) (ob:=[Computes cx 25 [.lst true 1 [I t1,I t2,I t3,I t4]] (I t5),Computes cx 42 [.agg [I a3,I a4,I a5]] (I t4),Computes cx 27 [I a2,I 0,I 255] (I t3),Computes cx 27 [I a1,I 0,I 65535] (I t2),Computes cx 27 [I a0,I 0,I 255] (I t1)]) (by kernel_rfl) ⟨((Qt h5).le (.cons (.full _ _ _) (.nil)) (.refl _)),(QD h4),(QP h3),(QP h2),(QP h1),trivial⟩
def Qcc (x:Int):D:=.v (.int .u8 x)
def wW (d:D):Option (Int):=Q9 .u8 d
theorem J4 {d:D} {x:Int} (h:wW d=some x):d=Qcc x:=QB h
def Zl (n:Nat) (a0:List D) (sa:(Int×Int)):Option (((Int×Int))⊕((Int))) :=
 if sa.2 < ((a0).length:Int) then
  (el wW a0 sa.2).bind fun ta2 =>
  if Qa (277 * sa.1) then
  if Qa ((277 * sa.1)+(IntKind.wrap .i64 ta2)) then
  if Qa (sa.2+1) then
  some (.inl ((Int.tmod ((277 * sa.1)+(IntKind.wrap .i64 ta2)) 16777199),(sa.2+1)))
  else none
  else none
  else none
 else
 some (.inr sa.1)
noncomputable def Gr (a0:List D) (sa:(Int×Int)):List (Nat×AV):=[(3,.d (I sa.1)),(6,.d (.lst false 1 a0)),(7,.d (I ((a0).length:Int))),(8,.d (I sa.2))]
noncomputable def Gw (a0:List D) (sa:(Int×Int)):List (Nat×Blk):=[]
noncomputable def Gn (a0:List D) (e:(Int)):Ex:=(.exit 0)
noncomputable def JW (a0:List D) (e:(Int)):List (Nat×AV):=[(3,.d (I e))]
noncomputable def JZ (a0:List D) (e:(Int)):List (Nat×Blk):=[]
theorem Gt {n:Nat} {a0:List D} (sa:(Int×Int)) (r) (h:Zl n a0 sa=some r):Rd cx (Qp cx.P 57 0) 20 0 false (Gr a0) (Gw a0) (Gn a0) (JW a0) (JZ a0) sa r:=by
 unfold Zl at h
 by_cases ha1:sa.2 < ((a0).length:Int)
 ·replace h:=Qk h ha1
  obtain ⟨ta2,ha2,h⟩:=Qe h
  obtain ⟨ha3,h⟩:=Qf h
  obtain ⟨ha4,h⟩:=Qf h
  obtain ⟨ha5,h⟩:=Qf h
  replace h:=Option.some.inj h
  subst h
  exact ⟨100,5,[.br true,.el (.v (.int .u8 ta2))],[],[3,6,7,8],[],Qi (ob:=[Qa (sa.2+1),(16777199:Int)≠0,Qa ((277 * sa.1)+(IntKind.wrap .i64 ta2)),Qa (277 * sa.1),(0:Int)≤sa.2,nth (a0) (Int.toNat sa.2)=some (.v (.int .u8 ta2)),(decide (sa.2 < ((a0).length:Int)))=true]) (by kernel_rfl) ⟨ha5,(by decide),ha4,ha3,(Qw J4 ha2).1,(Qw J4 ha2).2,(decide_eq_true ha1),trivial⟩⟩
 ·replace h:=Ql h ha1
  replace h:=Option.some.inj h
  subst h
  exact ⟨⟨100,5,[.br false],[],[3],[],Qi (ob:=[(decide (sa.2 < ((a0).length:Int)))=false]) (by kernel_rfl) ⟨(decide_eq_false ha1),trivial⟩⟩,nofun⟩
def ZB (n:Nat) (a0:List D):Option (Int) :=
 (QS (Zl n a0) n (1,0)).bind fun t1 =>
 some t1
theorem UO {n:Nat} {a0:List D} {r:Int} (h:ZB n a0=some r):Computes cx 57 [.lst false 1 a0] (I r):=by
 unfold ZB at h
 obtain ⟨t1,h1,h⟩:=Qe h
 replace h:=Option.some.inj h
 subst h
 exact run (n:=100) (f:=57) (args:=[.lst false 1 a0]) (orc:=[.lp [] [3,6,7,8] [] (.exit 0) [(3,.d (I t1))] [] 29]) (r:=I t1) (ob:=[QI cx (Qp cx.P 57 0) 20 0 false [(3,.d (I 1)),(6,.d (.lst false 1 a0)),(7,.d (I ((a0).length:Int))),(8,.d (I 0))] [] (.exit 0) [(3,.d (I t1))] []]) (by kernel_rfl) ⟨(Qx Gt h1),trivial⟩
def ZU (n:Nat) (a0 a1 a2 a3 a4 a5:Int):Option (Int×Int×Int×Int×Int×Int×Int×Int×Int×Int×Int×Int×Int×Int×Int×Int×Int×Int×Int×Int×Int×Int×Int×Int×Int) :=
 (Zu n a0 a1 a2 a3 a4 a5).bind fun t1 =>
 if t1=0 then
  if Qa (a3+1048576) then
  if Qa (a4+1048576) then
  if Qa (a5+1048576) then
  (ZB n ([.v (.int .u8 77),.v (.int .u8 (IntKind.wrap .u8 (Int.fdiv a0 (2 ^ 0)))),.v (.int .u8 (IntKind.wrap .u8 (Int.fdiv a1 (2 ^ 8)))),.v (.int .u8 (IntKind.wrap .u8 (Int.fdiv a1 (2 ^ 0)))),.v (.int .u8 (IntKind.wrap .u8 (Int.fdiv a2 (2 ^ 0)))),.v (.int .u8 (IntKind.wrap .u8 (Int.fdiv (a3+1048576) (2 ^ 24)))),.v (.int .u8 (IntKind.wrap .u8 (Int.fdiv (a3+1048576) (2 ^ 16)))),.v (.int .u8 (IntKind.wrap .u8 (Int.fdiv (a3+1048576) (2 ^ 8)))),.v (.int .u8 (IntKind.wrap .u8 (Int.fdiv (a3+1048576) (2 ^ 0)))),.v (.int .u8 (IntKind.wrap .u8 (Int.fdiv (a4+1048576) (2 ^ 24)))),.v (.int .u8 (IntKind.wrap .u8 (Int.fdiv (a4+1048576) (2 ^ 16)))),.v (.int .u8 (IntKind.wrap .u8 (Int.fdiv (a4+1048576) (2 ^ 8)))),.v (.int .u8 (IntKind.wrap .u8 (Int.fdiv (a4+1048576) (2 ^ 0)))),.v (.int .u8 (IntKind.wrap .u8 (Int.fdiv (a5+1048576) (2 ^ 24)))),.v (.int .u8 (IntKind.wrap .u8 (Int.fdiv (a5+1048576) (2 ^ 16)))),.v (.int .u8 (IntKind.wrap .u8 (Int.fdiv (a5+1048576) (2 ^ 8)))),.v (.int .u8 (IntKind.wrap .u8 (Int.fdiv (a5+1048576) (2 ^ 0)))),.v (.int .u8 (IntKind.wrap .u8 (255 - (IntKind.wrap .u8 (Int.fdiv a0 (2 ^ 0)))))),.v (.int .u8 (IntKind.wrap .u8 (255 - (IntKind.wrap .u8 (Int.fdiv a1 (2 ^ 8)))))),.v (.int .u8 (IntKind.wrap .u8 (255 - (IntKind.wrap .u8 (Int.fdiv a1 (2 ^ 0))))))])).bind fun t6 =>
  some (77,(IntKind.wrap .u8 (Int.fdiv a0 (2 ^ 0))),(IntKind.wrap .u8 (Int.fdiv a1 (2 ^ 8))),(IntKind.wrap .u8 (Int.fdiv a1 (2 ^ 0))),(IntKind.wrap .u8 (Int.fdiv a2 (2 ^ 0))),(IntKind.wrap .u8 (Int.fdiv (a3+1048576) (2 ^ 24))),(IntKind.wrap .u8 (Int.fdiv (a3+1048576) (2 ^ 16))),(IntKind.wrap .u8 (Int.fdiv (a3+1048576) (2 ^ 8))),(IntKind.wrap .u8 (Int.fdiv (a3+1048576) (2 ^ 0))),(IntKind.wrap .u8 (Int.fdiv (a4+1048576) (2 ^ 24))),(IntKind.wrap .u8 (Int.fdiv (a4+1048576) (2 ^ 16))),(IntKind.wrap .u8 (Int.fdiv (a4+1048576) (2 ^ 8))),(IntKind.wrap .u8 (Int.fdiv (a4+1048576) (2 ^ 0))),(IntKind.wrap .u8 (Int.fdiv (a5+1048576) (2 ^ 24))),(IntKind.wrap .u8 (Int.fdiv (a5+1048576) (2 ^ 16))),(IntKind.wrap .u8 (Int.fdiv (a5+1048576) (2 ^ 8))),(IntKind.wrap .u8 (Int.fdiv (a5+1048576) (2 ^ 0))),(IntKind.wrap .u8 (255 - (IntKind.wrap .u8 (Int.fdiv a0 (2 ^ 0))))),(IntKind.wrap .u8 (255 - (IntKind.wrap .u8 (Int.fdiv a1 (2 ^ 8))))),(IntKind.wrap .u8 (255 - (IntKind.wrap .u8 (Int.fdiv a1 (2 ^ 0))))),(IntKind.wrap .u8 (Int.fdiv t6 (2 ^ 24))),(IntKind.wrap .u8 (Int.fdiv t6 (2 ^ 16))),(IntKind.wrap .u8 (Int.fdiv t6 (2 ^ 8))),(IntKind.wrap .u8 (Int.fdiv t6 (2 ^ 0))),0)
  else none
  else none
  else none
 else
 some (0,0,0,0,0,0,0,0,0,0,0,0,0,0,0,0,0,0,0,0,0,0,0,0,t1)
theorem VM {n:Nat} {a0 a1 a2 a3 a4 a5:Int} {r:Int×Int×Int×Int×Int×Int×Int×Int×Int×Int×Int×Int×Int×Int×Int×Int×Int×Int×Int×Int×Int×Int×Int×Int×Int} (h:ZU n a0 a1 a2 a3 a4 a5=some r):Computes cx 7 [.agg [I a0,I a1,I a2,I a3,I a4,I a5]] (.tup [.agg [.v (.int .u8 r.1),.v (.int .u8 r.2.1),.v (.int .u8 r.2.2.1),.v (.int .u8 r.2.2.2.1),.v (.int .u8 r.2.2.2.2.1),.v (.int .u8 r.2.2.2.2.2.1),.v (.int .u8 r.2.2.2.2.2.2.1),.v (.int .u8 r.2.2.2.2.2.2.2.1),.v (.int .u8 r.2.2.2.2.2.2.2.2.1),.v (.int .u8 r.2.2.2.2.2.2.2.2.2.1),.v (.int .u8 r.2.2.2.2.2.2.2.2.2.2.1),.v (.int .u8 r.2.2.2.2.2.2.2.2.2.2.2.1),.v (.int .u8 r.2.2.2.2.2.2.2.2.2.2.2.2.1),.v (.int .u8 r.2.2.2.2.2.2.2.2.2.2.2.2.2.1),.v (.int .u8 r.2.2.2.2.2.2.2.2.2.2.2.2.2.2.1),.v (.int .u8 r.2.2.2.2.2.2.2.2.2.2.2.2.2.2.2.1),.v (.int .u8 r.2.2.2.2.2.2.2.2.2.2.2.2.2.2.2.2.1),.v (.int .u8 r.2.2.2.2.2.2.2.2.2.2.2.2.2.2.2.2.2.1),.v (.int .u8 r.2.2.2.2.2.2.2.2.2.2.2.2.2.2.2.2.2.2.1),.v (.int .u8 r.2.2.2.2.2.2.2.2.2.2.2.2.2.2.2.2.2.2.2.1),.v (.int .u8 r.2.2.2.2.2.2.2.2.2.2.2.2.2.2.2.2.2.2.2.2.1),.v (.int .u8 r.2.2.2.2.2.2.2.2.2.2.2.2.2.2.2.2.2.2.2.2.2.1),.v (.int .u8 r.2.2.2.2.2.2.2.2.2.2.2.2.2.2.2.2.2.2.2.2.2.2.1),.v (.int .u8 r.2.2.2.2.2.2.2.2.2.2.2.2.2.2.2.2.2.2.2.2.2.2.2.1)],I r.2.2.2.2.2.2.2.2.2.2.2.2.2.2.2.2.2.2.2.2.2.2.2.2]):=by
 unfold ZU at h
 obtain ⟨t1,h1,h⟩:=Qe h
 by_cases h2:t1=0
 ·replace h:=Qk h h2
  obtain ⟨h3,h⟩:=Qf h
  obtain ⟨h4,h⟩:=Qf h
  obtain ⟨h5,h⟩:=Qf h
  obtain ⟨t6,h6,h⟩:=Qe h
  replace h:=Option.some.inj h
  subst h
  exact run (n:=100) (f:=7) (args:=[.agg [I a0,I a1,I a2,I a3,I a4,I a5]]) (orc:=[.ret (I t1),.br false,.br true,.br true,.no,.no,.no,.no,.no,.no,.no,.no,.no,.br true,.no,.no,.no,.no,.no,.no,.no,.no,.no,.no,.no,.no,.br true,.no,.no,.no,.no,.no,.no,.no,.no,.no,.no,.br true,.no,.no,.no,.no,.no,.no,.no,.no,.no,.no,.no,.no,.no,.no,.no,.no,.no,.no,.no,.no,.no,.no,.br true,.no,.no,.no,.no,.no,.no,.no,.no,.no,.no,.no,.no,.no,.no,.no,.no,.no,.no,.no,.no,.no,.no,.br true,.no,.no,.no,.no,.no,.no,.no,.no,.no,.no,.no,.no,.no,.no,.no,.no,.no,.no,.no,.no,.no,.no,.no,.no,.no,.no,.no,.no,.no,.br true,.ix 0,.ret (I t6),.br true,.no,.no,.no,.no,.no,.no,.no,.no,.no,.no,.no,.no,.no,.no,.no,.no,.no,.no,.no,.no,.no]) (r:=.tup [.agg [.v (.int .u8 77),.v (.int .u8 (IntKind.wrap .u8 (Int.fdiv a0 (2 ^ 0)))),.v (.int .u8 (IntKind.wrap .u8 (Int.fdiv a1 (2 ^ 8)))),.v (.int .u8 (IntKind.wrap .u8 (Int.fdiv a1 (2 ^ 0)))),.v (.int .u8 (IntKind.wrap .u8 (Int.fdiv a2 (2 ^ 0)))),.v (.int .u8 (IntKind.wrap .u8 (Int.fdiv (a3+1048576) (2 ^ 24)))),.v (.int .u8 (IntKind.wrap .u8 (Int.fdiv (a3+1048576) (2 ^ 16)))),.v (.int .u8 (IntKind.wrap .u8 (Int.fdiv (a3+1048576) (2 ^ 8)))),.v (.int .u8 (IntKind.wrap .u8 (Int.fdiv (a3+1048576) (2 ^ 0)))),.v (.int .u8 (IntKind.wrap .u8 (Int.fdiv (a4+1048576) (2 ^ 24)))),.v (.int .u8 (IntKind.wrap .u8 (Int.fdiv (a4+1048576) (2 ^ 16)))),.v (.int .u8 (IntKind.wrap .u8 (Int.fdiv (a4+1048576) (2 ^ 8)))),.v (.int .u8 (IntKind.wrap .u8 (Int.fdiv (a4+1048576) (2 ^ 0)))),.v (.int .u8 (IntKind.wrap .u8 (Int.fdiv (a5+1048576) (2 ^ 24)))),.v (.int .u8 (IntKind.wrap .u8 (Int.fdiv (a5+1048576) (2 ^ 16)))),.v (.int .u8 (IntKind.wrap .u8 (Int.fdiv (a5+1048576) (2 ^ 8)))),.v (.int .u8 (IntKind.wrap .u8 (Int.fdiv (a5+1048576) (2 ^ 0)))),.v (.int .u8 (IntKind.wrap .u8 (255 - (IntKind.wrap .u8 (Int.fdiv a0 (2 ^ 0)))))),.v (.int .u8 (IntKind.wrap .u8 (255 - (IntKind.wrap .u8 (Int.fdiv a1 (2 ^ 8)))))),.v (.int .u8 (IntKind.wrap .u8 (255 - (IntKind.wrap .u8 (Int.fdiv a1 (2 ^ 0)))))),.v (.int .u8 (IntKind.wrap .u8 (Int.fdiv t6 (2 ^ 24)))),.v (.int .u8 (IntKind.wrap .u8 (Int.fdiv t6 (2 ^ 16)))),.v (.int .u8 (IntKind.wrap .u8 (Int.fdiv t6 (2 ^ 8)))),.v (.int .u8 (IntKind.wrap .u8 (Int.fdiv t6 (2 ^ 0))))],I 0]) (ob:=[Qa 4,Qa 24,Qa 0,Qa 3,Qa 3,Qa 16,Qa 1,Qa 3,Qa 2,Qa 8,Qa 2,Qa 3,Qa 1,Qa 0,Qa 3,Qa 3,Computes cx 57 [.lst false 1 [.v (.int .u8 77),.v (.int .u8 (IntKind.wrap .u8 (Int.fdiv a0 (2 ^ 0)))),.v (.int .u8 (IntKind.wrap .u8 (Int.fdiv a1 (2 ^ 8)))),.v (.int .u8 (IntKind.wrap .u8 (Int.fdiv a1 (2 ^ 0)))),.v (.int .u8 (IntKind.wrap .u8 (Int.fdiv a2 (2 ^ 0)))),.v (.int .u8 (IntKind.wrap .u8 (Int.fdiv (a3+1048576) (2 ^ 24)))),.v (.int .u8 (IntKind.wrap .u8 (Int.fdiv (a3+1048576) (2 ^ 16)))),.v (.int .u8 (IntKind.wrap .u8 (Int.fdiv (a3+1048576) (2 ^ 8)))),.v (.int .u8 (IntKind.wrap .u8 (Int.fdiv (a3+1048576) (2 ^ 0)))),.v (.int .u8 (IntKind.wrap .u8 (Int.fdiv (a4+1048576) (2 ^ 24)))),.v (.int .u8 (IntKind.wrap .u8 (Int.fdiv (a4+1048576) (2 ^ 16)))),.v (.int .u8 (IntKind.wrap .u8 (Int.fdiv (a4+1048576) (2 ^ 8)))),.v (.int .u8 (IntKind.wrap .u8 (Int.fdiv (a4+1048576) (2 ^ 0)))),.v (.int .u8 (IntKind.wrap .u8 (Int.fdiv (a5+1048576) (2 ^ 24)))),.v (.int .u8 (IntKind.wrap .u8 (Int.fdiv (a5+1048576) (2 ^ 16)))),.v (.int .u8 (IntKind.wrap .u8 (Int.fdiv (a5+1048576) (2 ^ 8)))),.v (.int .u8 (IntKind.wrap .u8 (Int.fdiv (a5+1048576) (2 ^ 0)))),.v (.int .u8 (IntKind.wrap .u8 (255 - (IntKind.wrap .u8 (Int.fdiv a0 (2 ^ 0)))))),.v (.int .u8 (IntKind.wrap .u8 (255 - (IntKind.wrap .u8 (Int.fdiv a1 (2 ^ 8)))))),.v (.int .u8 (IntKind.wrap .u8 (255 - (IntKind.wrap .u8 (Int.fdiv a1 (2 ^ 0))))))]] (I t6),Qa 3,Qa 4,Qa 24,Qa 0,Qa 3,Qa 3,Qa 16,Qa 1,Qa 3,Qa 2,Qa 8,Qa 2,Qa 3,Qa 1,Qa 0,Qa 3,Qa 3,Qa (a5+1048576),Qa 2,Qa 4,Qa 24,Qa 0,Qa 3,Qa 3,Qa 16,Qa 1,Qa 3,Qa 2,Qa 8,Qa 2,Qa 3,Qa 1,Qa 0,Qa 3,Qa 3,Qa (a4+1048576),Qa 1,Qa 4,Qa 24,Qa 0,Qa 3,Qa 3,Qa 16,Qa 1,Qa 3,Qa 2,Qa 8,Qa 2,Qa 3,Qa 1,Qa 0,Qa 3,Qa 3,Qa (a3+1048576),Qa 1,Qa 0,Qa 0,Qa 0,Qa 2,Qa 8,Qa 0,Qa 1,Qa 1,Qa 0,Qa 1,Qa 1,Qa 1,Qa 0,Qa 0,Qa 0,(t1 != 0)=false,Computes cx 22 [.agg [I a0,I a1,I a2,I a3,I a4,I a5]] (I t1)]) (by kernel_rfl) ⟨(by unfold Qa;omega),(by unfold Qa;omega),(by unfold Qa;omega),(by unfold Qa;omega),(by unfold Qa;omega),(by unfold Qa;omega),(by unfold Qa;omega),(by unfold Qa;omega),(by unfold Qa;omega),(by unfold Qa;omega),(by unfold Qa;omega),(by unfold Qa;omega),(by unfold Qa;omega),(by unfold Qa;omega),(by unfold Qa;omega),(by unfold Qa;omega),(UO h6),(by unfold Qa;omega),(by unfold Qa;omega),(by unfold Qa;omega),(by unfold Qa;omega),(by unfold Qa;omega),(by unfold Qa;omega),(by unfold Qa;omega),(by unfold Qa;omega),(by unfold Qa;omega),(by unfold Qa;omega),(by unfold Qa;omega),(by unfold Qa;omega),(by unfold Qa;omega),(by unfold Qa;omega),(by unfold Qa;omega),(by unfold Qa;omega),(by unfold Qa;omega),h5,(by unfold Qa;omega),(by unfold Qa;omega),(by unfold Qa;omega),(by unfold Qa;omega),(by unfold Qa;omega),(by unfold Qa;omega),(by unfold Qa;omega),(by unfold Qa;omega),(by unfold Qa;omega),(by unfold Qa;omega),(by unfold Qa;omega),(by unfold Qa;omega),(by unfold Qa;omega),(by unfold Qa;omega),(by unfold Qa;omega),(by unfold Qa;omega),(by unfold Qa;omega),h4,(by unfold Qa;omega),(by unfold Qa;omega),(by unfold Qa;omega),(by unfold Qa;omega),(by unfold Qa;omega),(by unfold Qa;omega),(by unfold Qa;omega),(by unfold Qa;omega),(by unfold Qa;omega),(by unfold Qa;omega),(by unfold Qa;omega),(by unfold Qa;omega),(by unfold Qa;omega),(by unfold Qa;omega),(by unfold Qa;omega),(by unfold Qa;omega),(by unfold Qa;omega),h3,(by unfold Qa;omega),(by unfold Qa;omega),(by unfold Qa;omega),(by unfold Qa;omega),(by unfold Qa;omega),(by unfold Qa;omega),(by unfold Qa;omega),(by unfold Qa;omega),(by unfold Qa;omega),(by unfold Qa;omega),(by unfold Qa;omega),(by unfold Qa;omega),(by unfold Qa;omega),(by unfold Qa;omega),(by unfold Qa;omega),(by unfold Qa;omega),(nef h2),(WR h1),trivial⟩
 ·replace h:=Ql h h2
  replace h:=Option.some.inj h
  subst h
  exact run (n:=100) (f:=7) (args:=[.agg [I a0,I a1,I a2,I a3,I a4,I a5]]) (orc:=[.ret (I t1),.br true]) (r:=.tup [.agg [.v (.int .u8 0),.v (.int .u8 0),.v (.int .u8 0),.v (.int .u8 0),.v (.int .u8 0),.v (.int .u8 0),.v (.int .u8 0),.v (.int .u8 0),.v (.int .u8 0),.v (.int .u8 0),.v (.int .u8 0),.v (.int .u8 0),.v (.int .u8 0),.v (.int .u8 0),.v (.int .u8 0),.v (.int .u8 0),.v (.int .u8 0),.v (.int .u8 0),.v (.int .u8 0),.v (.int .u8 0),.v (.int .u8 0),.v (.int .u8 0),.v (.int .u8 0),.v (.int .u8 0)],I t1]) (ob:=[(t1 != 0)=true,Computes cx 22 [.agg [I a0,I a1,I a2,I a3,I a4,I a5]] (I t1)]) (by kernel_rfl) ⟨(net h2),(WR h1),trivial⟩
def V4 (n:Nat)  : Option (List D×List D×Int) :=
 some ([],[],0)
theorem UP {n:Nat}  {r:List D×List D×Int} (h:V4 n =some r):Computes cx 8 [.lst true 1 []] (.tup [.lst false 6 r.1,.lst false 2 r.2.1,I r.2.2]):=by
 unfold V4 at h
 replace h:=Option.some.inj h
 subst h
 exact (run (n:=100) (f:=8) (args:=[.lst true 1 []]) (orc:=[.no,.no,.no]) (r:=.tup [.lst true 0 [],.lst true 0 [],I 0]) (ob:=[]) (by kernel_rfl) trivial).le (LEs.refl _) (.tups (.cons (.nilF) (.cons (.nilF) (.cons (.refl _) (.nil)))))
def QbC (x:Int×Int×Int×Int×Int×Int):D:=.agg [I x.1,I x.2.1,I x.2.2.1,I x.2.2.2.1,I x.2.2.2.2.1,I x.2.2.2.2.2]
def U1:D→Option (Int×Int×Int×Int×Int×Int)
 | .agg [c0,c1,c2,c3,c4,c5]=>(Q9 .i64 c0).bind fun y0=>(Q9 .i64 c1).bind fun y1=>(Q9 .i64 c2).bind fun y2=>(Q9 .i64 c3).bind fun y3=>(Q9 .i64 c4).bind fun y4=>(Q9 .i64 c5).bind fun y5=>some (y0,y1,y2,y3,y4,y5)
 | _=>none
theorem Qq {d:D} {x:Int×Int×Int×Int×Int×Int} (h:U1 d=some x):d=QbC x:=by
 unfold U1 at h
 split at h
 case h_2=>cases h
 obtain ⟨y0,h0,h⟩:=Qe h
 obtain ⟨y1,h1,h⟩:=Qe h
 obtain ⟨y2,h2,h⟩:=Qe h
 obtain ⟨y3,h3,h⟩:=Qe h
 obtain ⟨y4,h4,h⟩:=Qe h
 obtain ⟨y5,h5,h⟩:=Qe h
 cases h
 have e0:=QB h0
 have e1:=QB h1
 have e2:=QB h2
 have e3:=QB h3
 have e4:=QB h4
 have e5:=QB h5
 rw [e0,e1,e2,e3,e4,e5];rfl
def Qdd (x:Bool):D:=B x
def un_b (d:D):Option (Bool):=wY d
theorem ZD {d:D} {x:Bool} (h:un_b d=some x):d=Qdd x:=yq h
def QG (n:Nat) (a0:Int):Option (Nat) :=
 if (fop .quo .f32 (FloatKind.nearest .f32 a0) 1098907648).isSome=true then
 some ((fop .quo .f32 (FloatKind.nearest .f32 a0) 1098907648).getD 0)
 else none
theorem Qv {n:Nat} {a0:Int} {r:Nat} (h:QG n a0=some r):Computes cx 10 [I a0] (.v (.float .f32 r)):=by
 unfold QG at h
 obtain ⟨h1,h⟩:=Qf h
 replace h:=Option.some.inj h
 subst h
 exact run (n:=100) (f:=10) (args:=[I a0]) (orc:=[]) (r:=.v (.float .f32 ((fop .quo .f32 (FloatKind.nearest .f32 a0) 1098907648).getD 0))) (ob:=[(fop .quo .f32 (FloatKind.nearest .f32 a0) 1098907648).isSome=true]) (by kernel_rfl) ⟨h1,trivial⟩
def Zt (n:Nat) (a0:List D) (sa:(Int×List D)):Option (((Int×List D))⊕((List D))) :=
 if sa.1 < ((a0).length:Int) then
  (el U1 a0 sa.1).bind fun ta2 =>
  (Zu n ta2.1 ta2.2.1 ta2.2.2.1 ta2.2.2.2.1 ta2.2.2.2.2.1 ta2.2.2.2.2.2).bind fun ta3 =>
  if Q5 8 ((sa.2).length+1) then
  if Qa (sa.1+1) then
  some (.inl ((sa.1+1),(sa.2++([I ta3]:List D))))
  else none
  else none
 else
 some (.inr sa.2)
noncomputable def Je (a0:List D) (sa:(Int×List D)):List (Nat×AV):=[(1,.d (.fn (.func 22) [] [])),(5,.own 5 0),(8,.d (.lst false 6 a0)),(9,.d (I ((a0).length:Int))),(10,.d (I sa.1))]
noncomputable def Jt (a0:List D) (sa:(Int×List D)):List (Nat×Blk):=[(5,.row 0 1 sa.2)]
noncomputable def KZ (a0:List D) (e:(List D)):Ex:=(.exit 0)
noncomputable def Kx (a0:List D) (e:(List D)):List (Nat×AV):=[(5,.own 5 0)]
noncomputable def KH (a0:List D) (e:(List D)):List (Nat×Blk):=[(5,.row 0 1 e)]
theorem Jj {n:Nat} {a0:List D} (sa:(Int×List D)) (r) (h:Zt n a0 sa=some r):Rd cx (Qp cx.P 26 0) 22 0 false (Je a0) (Jt a0) (KZ a0) (Kx a0) (KH a0) sa r:=by
 unfold Zt at h
 by_cases ha1:sa.1 < ((a0).length:Int)
 ·replace h:=Qk h ha1
  obtain ⟨ta2,ha2,h⟩:=Qe h
  obtain ⟨ta3,ha3,h⟩:=Qe h
  obtain ⟨ha4,h⟩:=Qf h
  obtain ⟨ha5,h⟩:=Qf h
  replace h:=Option.some.inj h
  subst h
  exact ⟨100,6,[.br true,.el (.agg [I ta2.1,I ta2.2.1,I ta2.2.2.1,I ta2.2.2.2.1,I ta2.2.2.2.2.1,I ta2.2.2.2.2.2]),.ret (I ta3),.br true],[],[1,5,8,9,10],[5],Qi (ob:=[Qa (sa.1+1),room cx 37 ((sa.2).length+1),Computes cx 22 [.agg [I ta2.1,I ta2.2.1,I ta2.2.2.1,I ta2.2.2.2.1,I ta2.2.2.2.2.1,I ta2.2.2.2.2.2]] (I ta3),(0:Int)≤sa.1,nth (a0) (Int.toNat sa.1)=some (.agg [I ta2.1,I ta2.2.1,I ta2.2.2.1,I ta2.2.2.2.1,I ta2.2.2.2.2.1,I ta2.2.2.2.2.2]),(decide (sa.1 < ((a0).length:Int)))=true]) (by kernel_rfl) ⟨ha5,(Qz (b:=8) (by kernel_rfl) (by decide) ha4),(WR ha3),(Qw Qq ha2).1,(Qw Qq ha2).2,(decide_eq_true ha1),trivial⟩⟩
 ·replace h:=Ql h ha1
  replace h:=Option.some.inj h
  subst h
  exact ⟨⟨100,6,[.br false],[],[5],[5],Qi (ob:=[(decide (sa.1 < ((a0).length:Int)))=false]) (by kernel_rfl) ⟨(decide_eq_false ha1),trivial⟩⟩,nofun⟩
def Wg (n:Nat) (a0:List D):Option (List D) :=
 (QS (Zt n a0) n (0,[])).bind fun t1 =>
 some t1
theorem Vr {n:Nat} {a0:List D} {r:List D} (h:Wg n a0=some r):Computes cx 26 [.lst false 6 a0,.fn (.func 22) [] []] (.lst false 1 r):=by
 unfold Wg at h
 obtain ⟨t1,h1,h⟩:=Qe h
 replace h:=Option.some.inj h
 subst h
 exact run (n:=100) (f:=26) (args:=[.lst false 6 a0,.fn (.func 22) [] []]) (orc:=[.lp [5,1] [1,5,8,9,10] [5] (.exit 0) [(5,.own 5 0)] [(5,.row 0 1 t1)] 31]) (r:=.lst false 1 t1) (ob:=[QI cx (Qp cx.P 26 0) 22 0 false [(1,.d (.fn (.func 22) [] [])),(5,.own 5 0),(8,.d (.lst false 6 a0)),(9,.d (I ((a0).length:Int))),(10,.d (I 0))] [(5,.row 0 1 [])] (.exit 0) [(5,.own 5 0)] [(5,.row 0 1 t1)]]) (by kernel_rfl) ⟨(Qx Jj h1),trivial⟩
def ZX (n:Nat) (a0:List D) (a1:Int) (sa:Int×Int×List D) (ta2:Int×Int×Int×Int×Int×Int) (sb:(Int×List D)):Option (((Int×List D))⊕((List D)⊕(List D))) :=
 if sb.1=ta2.2.1 then
  some (.inr (.inl sb.2))
 else
 if ((sb.2).length:Int)=256 then
  some (.inr (.inr sb.2))
 else
 if Q5 8 ((sb.2).length+1) then
 if Qa (sb.1+1) then
 some (.inl ((Int.tmod (sb.1+1) 65536),(sb.2++([I sb.1]:List D))))
 else none
 else none
noncomputable def XZ (a0:List D) (a1:Int) (sa:Int×Int×List D) (ta2:Int×Int×Int×Int×Int×Int) (sb:(Int×List D)):List (Nat×AV):=[(1,.d (I a1)),(7,.own 21 0),(9,.d (B false)),(11,.ptr 25 0 0 0 0),(12,.d (I sb.1)),(26,.d (.lst false 6 a0)),(27,.d (I ((a0).length:Int))),(28,.d (I sa.2.1))]
noncomputable def X3 (a0:List D) (a1:Int) (sa:Int×Int×List D) (ta2:Int×Int×Int×Int×Int×Int) (sb:(Int×List D)):List (Nat×Blk):=[(21,.row 0 1 sb.2),(25,.box (.d (.agg [I ta2.1,I ta2.2.1,I ta2.2.2.1,I ta2.2.2.2.1,I ta2.2.2.2.2.1,I ta2.2.2.2.2.2])))]
noncomputable def XN (a0:List D) (a1:Int) (sa:Int×Int×List D) (ta2:Int×Int×Int×Int×Int×Int) (e:(List D)⊕(List D)):Ex:=match e with
 | (.inl e)=>(.exit 2)
 | (.inr e)=>(.exit 0)
noncomputable def G2 (a0:List D) (a1:Int) (sa:Int×Int×List D) (ta2:Int×Int×Int×Int×Int×Int) (e:(List D)⊕(List D)):List (Nat×AV):=match e with
 | (.inl e)=>[(1,.d (I a1)),(7,.own 21 0),(9,.d (B false)),(11,.ptr 25 0 0 0 0),(26,.d (.lst false 6 a0)),(27,.d (I ((a0).length:Int))),(28,.d (I sa.2.1))]
 | (.inr e)=>[(7,.own 21 0),(9,.d (B true))]
noncomputable def G5 (a0:List D) (a1:Int) (sa:Int×Int×List D) (ta2:Int×Int×Int×Int×Int×Int) (e:(List D)⊕(List D)):List (Nat×Blk):=match e with
 | (.inl e)=>[(21,.row 0 1 e),(25,.box (.d (.agg [I ta2.1,I ta2.2.1,I ta2.2.2.1,I ta2.2.2.2.1,I ta2.2.2.2.2.1,I ta2.2.2.2.2.2])))]
 | (.inr e)=>[(21,.row 0 1 e)]
theorem Uv {n:Nat} {a0:List D} {a1:Int} {sa:Int×Int×List D} {ta2:Int×Int×Int×Int×Int×Int} (sb:(Int×List D)) (r) (h:ZX n a0 a1 sa ta2 sb=some r):Rd cx (Qp cx.P 11 1) 60 0 false (XZ a0 a1 sa ta2) (X3 a0 a1 sa ta2) (XN a0 a1 sa ta2) (G2 a0 a1 sa ta2) (G5 a0 a1 sa ta2) sb r:=by
 unfold ZX at h
 by_cases hb1:sb.1=ta2.2.1
 ·replace h:=Qk h hb1
  replace h:=Option.some.inj h
  subst h
  exact ⟨⟨100,37,[.br false],[],[1,7,9,11,26,27,28],[21,25],Qi (ob:=[(sb.1 != ta2.2.1)=false]) (by kernel_rfl) ⟨(nef hb1),trivial⟩⟩,nofun⟩
 ·replace h:=Ql h hb1
  by_cases hb2:((sb.2).length:Int)=256
  ·replace h:=Qk h hb2
   replace h:=Option.some.inj h
   subst h
   exact ⟨⟨100,37,[.br true,.br true],[],[7,9],[21],Qi (ob:=[(((sb.2).length:Int) == 256)=true,(sb.1 != ta2.2.1)=true]) (by kernel_rfl) ⟨(eqt hb2),(net hb1),trivial⟩⟩,nofun⟩
  ·replace h:=Ql h hb2
   obtain ⟨hb3,h⟩:=Qf h
   obtain ⟨hb4,h⟩:=Qf h
   replace h:=Option.some.inj h
   subst h
   exact ⟨100,37,[.br true,.br false,.br true],[],[1,7,9,11,12,26,27,28],[21,25],Qi (ob:=[(65536:Int)≠0,Qa (sb.1+1),room cx 3 ((sb.2).length+1),(((sb.2).length:Int) == 256)=false,(sb.1 != ta2.2.1)=true]) (by kernel_rfl) ⟨(by decide),hb4,(Qz (b:=8) (by kernel_rfl) (by decide) hb3),(eqf hb2),(net hb1),trivial⟩⟩
def QO (n:Nat) (a0:List D) (a1:Int) (sa:(Int×Int×List D)):Option (((Int×Int×List D))⊕((Bool×List D))) :=
 if sa.2.1 < ((a0).length:Int) then
  (el U1 a0 sa.2.1).bind fun ta2 =>
  if ta2.1=a1 then
   if sa.1 ≥ 0 then
    if Qa (sa.1+1) then
    (QS (ZX n a0 a1 sa ta2) n ((Int.tmod (sa.1+1) 65536),sa.2.2)).bind fun ta6=>match ta6 with
     | (.inl ta6)=>(
      if Qa (sa.2.1+1) then
      some (.inl (ta2.2.1,(sa.2.1+1),ta6))
      else none)
     | (.inr ta6)=>(
      some (.inr (true,ta6)))
    else none
   else
   if Qa (sa.2.1+1) then
   some (.inl (ta2.2.1,(sa.2.1+1),sa.2.2))
   else none
  else
  if Qa (sa.2.1+1) then
  some (.inl (sa.1,(sa.2.1+1),sa.2.2))
  else none
 else
 some (.inr (false,sa.2.2))
noncomputable def XY (a0:List D) (a1:Int) (sa:(Int×Int×List D)):List (Nat×AV):=[(1,.d (I a1)),(7,.own 21 0),(8,.d (I sa.1)),(9,.d (B false)),(26,.d (.lst false 6 a0)),(27,.d (I ((a0).length:Int))),(28,.d (I sa.2.1))]
noncomputable def X2 (a0:List D) (a1:Int) (sa:(Int×Int×List D)):List (Nat×Blk):=[(21,.row 0 1 sa.2.2)]
noncomputable def XM (a0:List D) (a1:Int) (e:(Bool×List D)):Ex:=(.exit 0)
noncomputable def G1 (a0:List D) (a1:Int) (e:(Bool×List D)):List (Nat×AV):=[(7,.own 21 0),(9,.d (B e.1))]
noncomputable def G4 (a0:List D) (a1:Int) (e:(Bool×List D)):List (Nat×Blk):=[(21,.row 0 1 e.2)]
theorem Uu {n:Nat} {a0:List D} {a1:Int} (sa:(Int×Int×List D)) (r) (h:QO n a0 a1 sa=some r):Rd cx (Qp cx.P 11 0) 60 0 false (XY a0 a1) (X2 a0 a1) (XM a0 a1) (G1 a0 a1) (G4 a0 a1) sa r:=by
 unfold QO at h
 by_cases ha1:sa.2.1 < ((a0).length:Int)
 ·replace h:=Qk h ha1
  obtain ⟨ta2,ha2,h⟩:=Qe h
  by_cases ha3:ta2.1=a1
  ·replace h:=Qk h ha3
   by_cases ha4:sa.1 ≥ 0
   ·replace h:=Qk h ha4
    obtain ⟨ha5,h⟩:=Qf h
    obtain ⟨ta6,ha6,h⟩:=Qe h
    rcases ta6 with ta6 | ta6
    ·obtain ⟨ha7,h⟩:=Qf h
     replace h:=Option.some.inj h
     subst h
     exact ⟨100,22,[.br true,.el (.agg [I ta2.1,I ta2.2.1,I ta2.2.2.1,I ta2.2.2.2.1,I ta2.2.2.2.2.1,I ta2.2.2.2.2.2]),.br false,.br true,.lp [] [1,7,9,11,12,26,27,28] [21,25] (.exit 2) [(1,.d (I a1)),(7,.own 21 0),(9,.d (B false)),(11,.ptr 25 0 0 0 0),(26,.d (.lst false 6 a0)),(27,.d (I ((a0).length:Int))),(28,.d (I sa.2.1))] [(21,.row 0 1 ta6),(25,.box (.d (.agg [I ta2.1,I ta2.2.1,I ta2.2.2.1,I ta2.2.2.2.1,I ta2.2.2.2.2.1,I ta2.2.2.2.2.2])))] 64],[],[1,7,8,9,26,27,28],[21],Qi (ob:=[Qa (sa.2.1+1),QI cx (Qp cx.P 11 1) 60 0 false [(1,.d (I a1)),(7,.own 21 0),(9,.d (B false)),(11,.ptr 25 0 0 0 0),(12,.d (I (Int.tmod (sa.1+1) 65536))),(26,.d (.lst false 6 a0)),(27,.d (I ((a0).length:Int))),(28,.d (I sa.2.1))] [(21,.row 0 1 sa.2.2),(25,.box (.d (.agg [I ta2.1,I ta2.2.1,I ta2.2.2.1,I ta2.2.2.2.1,I ta2.2.2.2.2.1,I ta2.2.2.2.2.2])))] (.exit 2) [(1,.d (I a1)),(7,.own 21 0),(9,.d (B false)),(11,.ptr 25 0 0 0 0),(26,.d (.lst false 6 a0)),(27,.d (I ((a0).length:Int))),(28,.d (I sa.2.1))] [(21,.row 0 1 ta6),(25,.box (.d (.agg [I ta2.1,I ta2.2.1,I ta2.2.2.1,I ta2.2.2.2.1,I ta2.2.2.2.2.1,I ta2.2.2.2.2.2])))],(65536:Int)≠0,Qa (sa.1+1),(decide (sa.1 ≥ 0))=true,(ta2.1 != a1)=false,(0:Int)≤sa.2.1,nth (a0) (Int.toNat sa.2.1)=some (.agg [I ta2.1,I ta2.2.1,I ta2.2.2.1,I ta2.2.2.2.1,I ta2.2.2.2.2.1,I ta2.2.2.2.2.2]),(decide (sa.2.1 < ((a0).length:Int)))=true]) (by kernel_rfl) ⟨ha7,(Qx Uv ha6),(by decide),ha5,(decide_eq_true ha4),(nef ha3),(Qw Qq ha2).1,(Qw Qq ha2).2,(decide_eq_true ha1),trivial⟩⟩
    ·replace h:=Option.some.inj h
     subst h
     exact ⟨⟨100,22,[.br true,.el (.agg [I ta2.1,I ta2.2.1,I ta2.2.2.1,I ta2.2.2.2.1,I ta2.2.2.2.2.1,I ta2.2.2.2.2.2]),.br false,.br true,.lp [] [1,7,9,11,12,26,27,28] [21,25] (.exit 0) [(7,.own 21 0),(9,.d (B true))] [(21,.row 0 1 ta6)] 64],[],[7,9],[21],Qi (ob:=[QI cx (Qp cx.P 11 1) 60 0 false [(1,.d (I a1)),(7,.own 21 0),(9,.d (B false)),(11,.ptr 25 0 0 0 0),(12,.d (I (Int.tmod (sa.1+1) 65536))),(26,.d (.lst false 6 a0)),(27,.d (I ((a0).length:Int))),(28,.d (I sa.2.1))] [(21,.row 0 1 sa.2.2),(25,.box (.d (.agg [I ta2.1,I ta2.2.1,I ta2.2.2.1,I ta2.2.2.2.1,I ta2.2.2.2.2.1,I ta2.2.2.2.2.2])))] (.exit 0) [(7,.own 21 0),(9,.d (B true))] [(21,.row 0 1 ta6)],(65536:Int)≠0,Qa (sa.1+1),(decide (sa.1 ≥ 0))=true,(ta2.1 != a1)=false,(0:Int)≤sa.2.1,nth (a0) (Int.toNat sa.2.1)=some (.agg [I ta2.1,I ta2.2.1,I ta2.2.2.1,I ta2.2.2.2.1,I ta2.2.2.2.2.1,I ta2.2.2.2.2.2]),(decide (sa.2.1 < ((a0).length:Int)))=true]) (by kernel_rfl) ⟨(Qx Uv ha6),(by decide),ha5,(decide_eq_true ha4),(nef ha3),(Qw Qq ha2).1,(Qw Qq ha2).2,(decide_eq_true ha1),trivial⟩⟩,nofun⟩
   ·replace h:=Ql h ha4
    obtain ⟨ha5,h⟩:=Qf h
    replace h:=Option.some.inj h
    subst h
    exact ⟨100,22,[.br true,.el (.agg [I ta2.1,I ta2.2.1,I ta2.2.2.1,I ta2.2.2.2.1,I ta2.2.2.2.2.1,I ta2.2.2.2.2.2]),.br false,.br false],[],[1,7,8,9,26,27,28],[21],Qi (ob:=[Qa (sa.2.1+1),(decide (sa.1 ≥ 0))=false,(ta2.1 != a1)=false,(0:Int)≤sa.2.1,nth (a0) (Int.toNat sa.2.1)=some (.agg [I ta2.1,I ta2.2.1,I ta2.2.2.1,I ta2.2.2.2.1,I ta2.2.2.2.2.1,I ta2.2.2.2.2.2]),(decide (sa.2.1 < ((a0).length:Int)))=true]) (by kernel_rfl) ⟨ha5,(decide_eq_false ha4),(nef ha3),(Qw Qq ha2).1,(Qw Qq ha2).2,(decide_eq_true ha1),trivial⟩⟩
  ·replace h:=Ql h ha3
   obtain ⟨ha4,h⟩:=Qf h
   replace h:=Option.some.inj h
   subst h
   exact ⟨100,22,[.br true,.el (.agg [I ta2.1,I ta2.2.1,I ta2.2.2.1,I ta2.2.2.2.1,I ta2.2.2.2.2.1,I ta2.2.2.2.2.2]),.br true],[],[1,7,8,9,26,27,28],[21],Qi (ob:=[Qa (sa.2.1+1),(ta2.1 != a1)=true,(0:Int)≤sa.2.1,nth (a0) (Int.toNat sa.2.1)=some (.agg [I ta2.1,I ta2.2.1,I ta2.2.2.1,I ta2.2.2.2.1,I ta2.2.2.2.2.1,I ta2.2.2.2.2.2]),(decide (sa.2.1 < ((a0).length:Int)))=true]) (by kernel_rfl) ⟨ha4,(net ha3),(Qw Qq ha2).1,(Qw Qq ha2).2,(decide_eq_true ha1),trivial⟩⟩
 ·replace h:=Ql h ha1
  replace h:=Option.some.inj h
  subst h
  exact ⟨⟨100,22,[.br false],[],[7,9],[21],Qi (ob:=[(decide (sa.2.1 < ((a0).length:Int)))=false]) (by kernel_rfl) ⟨(decide_eq_false ha1),trivial⟩⟩,nofun⟩
def Q1 (n:Nat) (a0:List D) (a1:Int):Option (List D×Int) :=
 if ((a0).length:Int) > 512 then
  some ([],5)
 else
 (Wg n a0).bind fun t2 =>
 (QJ n t2).bind fun t3 =>
 (Q0 n a1 0 255).bind fun t4 =>
 (QJ n ([I t3,I t4])).bind fun t5 =>
 if t5=0 then
  (QS (QO n a0 a1) n ((-1),0,[])).bind fun t7 =>
  if t7.1=true then
   some ([],5)
  else
  some (t7.2,0)
 else
 some ([],t5)
theorem ZR {n:Nat} {a0:List D} {a1:Int} {r:List D×Int} (h:Q1 n a0 a1=some r):Computes cx 11 [.lst false 6 a0,I a1] (.tup [.lst false 1 r.1,I r.2]):=by
 unfold Q1 at h
 by_cases h1:((a0).length:Int) > 512
 ·replace h:=Qk h h1
  replace h:=Option.some.inj h
  subst h
  exact (run (n:=100) (f:=11) (args:=[.lst false 6 a0,I a1]) (orc:=[.br true]) (r:=.tup [.lst true 0 [],I 5]) (ob:=[(decide (((a0).length:Int) > 512))=true]) (by kernel_rfl) ⟨(decide_eq_true h1),trivial⟩).le (LEs.refl _) (.tups (.cons (.nilF) (.cons (.refl _) (.nil))))
 ·replace h:=Ql h h1
  obtain ⟨t2,h2,h⟩:=Qe h
  obtain ⟨t3,h3,h⟩:=Qe h
  obtain ⟨t4,h4,h⟩:=Qe h
  obtain ⟨t5,h5,h⟩:=Qe h
  by_cases h6:t5=0
  ·replace h:=Qk h h6
   obtain ⟨t7,h7,h⟩:=Qe h
   by_cases h8:t7.1=true
   ·replace h:=Qk h h8
    replace h:=Option.some.inj h
    subst h
    exact (run (n:=100) (f:=11) (args:=[.lst false 6 a0,I a1]) (orc:=[.br false,.ret (.lst false 1 t2),.ret (I t3),.ret (I t4),.ret (I t5),.br false,.lp [7,1] [1,7,8,9,26,27,28] [21] (.exit 0) [(7,.own 21 0),(9,.d (B t7.1))] [(21,.row 0 1 t7.2)] 80,.br true]) (r:=.tup [.lst true 0 [],I 5]) (ob:=[t7.1=true,QI cx (Qp cx.P 11 0) 60 0 false [(1,.d (I a1)),(7,.own 21 0),(8,.d (I (-1))),(9,.d (B false)),(26,.d (.lst false 6 a0)),(27,.d (I ((a0).length:Int))),(28,.d (I 0))] [(21,.row 0 1 [])] (.exit 0) [(7,.own 21 0),(9,.d (B t7.1))] [(21,.row 0 1 t7.2)],(t5 != 0)=false,Computes cx 25 [.lst true 1 [I t3,I t4]] (I t5),Computes cx 27 [I a1,I 0,I 255] (I t4),Computes cx 25 [.lst false 1 t2] (I t3),Computes cx 26 [.lst false 6 a0,.fn (.func 22) [] []] (.lst false 1 t2),(decide (((a0).length:Int) > 512))=false]) (by kernel_rfl) ⟨h8,(Qx Uu h7),(nef h6),((Qt h5).le (.cons (.full _ _ _) (.nil)) (.refl _)),(QP h4),(Qt h3),(Vr h2),(decide_eq_false h1),trivial⟩).le (LEs.refl _) (.tups (.cons (.nilF) (.cons (.refl _) (.nil))))
   ·replace h:=Ql h h8
    replace h:=Option.some.inj h
    subst h
    exact run (n:=100) (f:=11) (args:=[.lst false 6 a0,I a1]) (orc:=[.br false,.ret (.lst false 1 t2),.ret (I t3),.ret (I t4),.ret (I t5),.br false,.lp [7,1] [1,7,8,9,26,27,28] [21] (.exit 0) [(7,.own 21 0),(9,.d (B t7.1))] [(21,.row 0 1 t7.2)] 80,.br false]) (r:=.tup [.lst false 1 t7.2,I 0]) (ob:=[t7.1=false,QI cx (Qp cx.P 11 0) 60 0 false [(1,.d (I a1)),(7,.own 21 0),(8,.d (I (-1))),(9,.d (B false)),(26,.d (.lst false 6 a0)),(27,.d (I ((a0).length:Int))),(28,.d (I 0))] [(21,.row 0 1 [])] (.exit 0) [(7,.own 21 0),(9,.d (B t7.1))] [(21,.row 0 1 t7.2)],(t5 != 0)=false,Computes cx 25 [.lst true 1 [I t3,I t4]] (I t5),Computes cx 27 [I a1,I 0,I 255] (I t4),Computes cx 25 [.lst false 1 t2] (I t3),Computes cx 26 [.lst false 6 a0,.fn (.func 22) [] []] (.lst false 1 t2),(decide (((a0).length:Int) > 512))=false]) (by kernel_rfl) ⟨(Qy h8),(Qx Uu h7),(nef h6),((Qt h5).le (.cons (.full _ _ _) (.nil)) (.refl _)),(QP h4),(Qt h3),(Vr h2),(decide_eq_false h1),trivial⟩
  ·replace h:=Ql h h6
   replace h:=Option.some.inj h
   subst h
   exact (run (n:=100) (f:=11) (args:=[.lst false 6 a0,I a1]) (orc:=[.br false,.ret (.lst false 1 t2),.ret (I t3),.ret (I t4),.ret (I t5),.br true]) (r:=.tup [.lst true 0 [],I t5]) (ob:=[(t5 != 0)=true,Computes cx 25 [.lst true 1 [I t3,I t4]] (I t5),Computes cx 27 [I a1,I 0,I 255] (I t4),Computes cx 25 [.lst false 1 t2] (I t3),Computes cx 26 [.lst false 6 a0,.fn (.func 22) [] []] (.lst false 1 t2),(decide (((a0).length:Int) > 512))=false]) (by kernel_rfl) ⟨(net h6),((Qt h5).le (.cons (.full _ _ _) (.nil)) (.refl _)),(QP h4),(Qt h3),(Vr h2),(decide_eq_false h1),trivial⟩).le (LEs.refl _) (.tups (.cons (.nilF) (.cons (.refl _) (.nil))))
def YM (n:Nat) (a0:Nat):Option (Bool) :=
 some ((FloatKind.format .f64).order a0 a0 != some .eq)
theorem XE {n:Nat} {a0:Nat} {r:Bool} (h:YM n a0=some r):Computes cx 62 [.v (.float .f64 a0)] (B r):=by
 unfold YM at h
 replace h:=Option.some.inj h
 subst h
 exact run (n:=100) (f:=62) (args:=[.v (.float .f64 a0)]) (orc:=[]) (r:=B ((FloatKind.format .f64).order a0 a0 != some .eq)) (ob:=[]) (by kernel_rfl) trivial
def YN (n:Nat) (a0:Nat) (a1:Int):Option (Bool) :=
 if a1=0 then
  (G6 n a0).bind fun t2 =>
  some ((FloatKind.format .f64).order t2 9218868437227405311 == some .gt)
 else
 if a1 < 0 then
  some ((FloatKind.format .f64).order (Op.negFloat .f64 a0) 9218868437227405311 == some .gt)
 else
 some ((FloatKind.format .f64).order a0 9218868437227405311 == some .gt)
theorem jC {n:Nat} {a0:Nat} {a1:Int} {r:Bool} (h:YN n a0 a1=some r):Computes cx 63 [.v (.float .f64 a0),I a1] (B r):=by
 unfold YN at h
 by_cases h1:a1=0
 ·replace h:=Qk h h1
  obtain ⟨t2,h2,h⟩:=Qe h
  replace h:=Option.some.inj h
  subst h
  exact run (n:=100) (f:=63) (args:=[.v (.float .f64 a0),I a1]) (orc:=[.br true,.ret (.v (.float .f64 t2))]) (r:=B ((FloatKind.format .f64).order t2 9218868437227405311 == some .gt)) (ob:=[Computes cx 65 [.v (.float .f64 a0)] (.v (.float .f64 t2)),(a1 == 0)=true]) (by kernel_rfl) ⟨(yZ h2),(eqt h1),trivial⟩
 ·replace h:=Ql h h1
  by_cases h2:a1 < 0
  ·replace h:=Qk h h2
   replace h:=Option.some.inj h
   subst h
   exact run (n:=100) (f:=63) (args:=[.v (.float .f64 a0),I a1]) (orc:=[.br false,.br true]) (r:=B ((FloatKind.format .f64).order (Op.negFloat .f64 a0) 9218868437227405311 == some .gt)) (ob:=[(decide (a1 < 0))=true,(a1 == 0)=false]) (by kernel_rfl) ⟨(decide_eq_true h2),(eqf h1),trivial⟩
  ·replace h:=Ql h h2
   replace h:=Option.some.inj h
   subst h
   exact run (n:=100) (f:=63) (args:=[.v (.float .f64 a0),I a1]) (orc:=[.br false,.br false]) (r:=B ((FloatKind.format .f64).order a0 9218868437227405311 == some .gt)) (ob:=[(decide (a1 < 0))=false,(a1 == 0)=false]) (by kernel_rfl) ⟨(decide_eq_false h2),(eqf h1),trivial⟩
def WA (n:Nat) (a0:Nat):Option (Bool) :=
 if (f2f .f32 a0 .f64).isSome=true then
 (YM n ((f2f .f32 a0 .f64).getD 0)).bind fun t2 =>
 if t2=true then
  some true
 else
 (YN n ((f2f .f32 a0 .f64).getD 0) 0).bind fun t4 =>
 some t4
 else none
theorem ED {n:Nat} {a0:Nat} {r:Bool} (h:WA n a0=some r):Computes cx 58 [.v (.float .f32 a0)] (B r):=by
 unfold WA at h
 obtain ⟨h1,h⟩:=Qf h
 obtain ⟨t2,h2,h⟩:=Qe h
 by_cases h3:t2=true
 ·replace h:=Qk h h3
  replace h:=Option.some.inj h
  subst h
  exact run (n:=100) (f:=58) (args:=[.v (.float .f32 a0)]) (orc:=[.ret (B t2),.br true]) (r:=B true) (ob:=[t2=true,Computes cx 62 [.v (.float .f64 ((f2f .f32 a0 .f64).getD 0))] (B t2),(f2f .f32 a0 .f64).isSome=true]) (by kernel_rfl) ⟨h3,(XE h2),h1,trivial⟩
 ·replace h:=Ql h h3
  obtain ⟨t4,h4,h⟩:=Qe h
  replace h:=Option.some.inj h
  subst h
  exact run (n:=100) (f:=58) (args:=[.v (.float .f32 a0)]) (orc:=[.ret (B t2),.br false,.ret (B t4)]) (r:=B t4) (ob:=[Computes cx 63 [.v (.float .f64 ((f2f .f32 a0 .f64).getD 0)),I 0] (B t4),(f2f .f32 a0 .f64).isSome=true,t2=false,Computes cx 62 [.v (.float .f64 ((f2f .f32 a0 .f64).getD 0))] (B t2),(f2f .f32 a0 .f64).isSome=true]) (by kernel_rfl) ⟨(jC h4),h1,(Qy h3),(XE h2),h1,trivial⟩
def W3 (n:Nat) (a0 a1:Nat):Option (Int) :=
 if ((FloatKind.format .f32).order a0 (Op.negFloat .f32 a1) == some .lt)=true then
  (Vf n).bind fun t2 =>
  some t2
 else
 if ((FloatKind.format .f32).order a0 a1 == some .gt)=true then
  (Vf n).bind fun t3 =>
  some t3
 else
 if (fop .mul .f32 1098907648 a0).isSome=true then
 if (f2f .f32 ((fop .mul .f32 1098907648 a0).getD 0) .f64).isSome=true then
 (KL n ((f2f .f32 ((fop .mul .f32 1098907648 a0).getD 0) .f64).getD 0)).bind fun t5 =>
 if (f2f .f64 t5 .f32).isSome=true then
 (Q6 n ((FloatKind.format .f32).order ((f2f .f64 t5 .f32).getD 0) ((fop .mul .f32 1098907648 a0).getD 0) != some .eq) 3).bind fun t7 =>
 some t7
 else none
 else none
 else none
theorem zt {n:Nat} {a0 a1:Nat} {r:Int} (h:W3 n a0 a1=some r):Computes cx 59 [.v (.float .f32 a0),.v (.float .f32 a1)] (I r):=by
 unfold W3 at h
 by_cases h1:((FloatKind.format .f32).order a0 (Op.negFloat .f32 a1) == some .lt)=true
 ·replace h:=Qk h h1
  obtain ⟨t2,h2,h⟩:=Qe h
  replace h:=Option.some.inj h
  subst h
  exact run (n:=100) (f:=59) (args:=[.v (.float .f32 a0),.v (.float .f32 a1)]) (orc:=[.br true,.no,.ret (I t2)]) (r:=I t2) (ob:=[Computes cx 46 [B true,I 3] (I t2),((FloatKind.format .f32).order a0 (Op.negFloat .f32 a1) == some .lt)=true]) (by kernel_rfl) ⟨(Km h2),h1,trivial⟩
 ·replace h:=Ql h h1
  by_cases h2:((FloatKind.format .f32).order a0 a1 == some .gt)=true
  ·replace h:=Qk h h2
   obtain ⟨t3,h3,h⟩:=Qe h
   replace h:=Option.some.inj h
   subst h
   exact run (n:=100) (f:=59) (args:=[.v (.float .f32 a0),.v (.float .f32 a1)]) (orc:=[.br false,.br true,.ret (I t3)]) (r:=I t3) (ob:=[Computes cx 46 [B true,I 3] (I t3),((FloatKind.format .f32).order a0 a1 == some .gt)=true,((FloatKind.format .f32).order a0 (Op.negFloat .f32 a1) == some .lt)=false]) (by kernel_rfl) ⟨(Km h3),h2,(Qy h1),trivial⟩
  ·replace h:=Ql h h2
   obtain ⟨h3,h⟩:=Qf h
   obtain ⟨h4,h⟩:=Qf h
   obtain ⟨t5,h5,h⟩:=Qe h
   obtain ⟨h6,h⟩:=Qf h
   obtain ⟨t7,h7,h⟩:=Qe h
   replace h:=Option.some.inj h
   subst h
   exact run (n:=100) (f:=59) (args:=[.v (.float .f32 a0),.v (.float .f32 a1)]) (orc:=[.br false,.br false,.ret (.v (.float .f64 t5)),.ret (I t7)]) (r:=I t7) (ob:=[Computes cx 46 [B ((FloatKind.format .f32).order ((f2f .f64 t5 .f32).getD 0) ((fop .mul .f32 1098907648 a0).getD 0) != some .eq),I 3] (I t7),(fop .mul .f32 1098907648 a0).isSome=true,(f2f .f64 t5 .f32).isSome=true,Computes cx 64 [.v (.float .f64 ((f2f .f32 ((fop .mul .f32 1098907648 a0).getD 0) .f64).getD 0))] (.v (.float .f64 t5)),(f2f .f32 ((fop .mul .f32 1098907648 a0).getD 0) .f64).isSome=true,(fop .mul .f32 1098907648 a0).isSome=true,((FloatKind.format .f32).order a0 a1 == some .gt)=false,((FloatKind.format .f32).order a0 (Op.negFloat .f32 a1) == some .lt)=false]) (by kernel_rfl) ⟨(QK h7),h3,h6,(jD h5),h4,h3,(Qy h2),(Qy h1),trivial⟩
def ZH (n:Nat) (a0:Nat):Option (Int) :=
 (WA n a0).bind fun t1 =>
 (Q6 n t1 1).bind fun t2 =>
 (W3 n a0 1149239296).bind fun t3 =>
 (QJ n ([I t2,I t3])).bind fun t4 =>
 some t4
theorem Gj {n:Nat} {a0:Nat} {r:Int} (h:ZH n a0=some r):Computes cx 49 [.v (.float .f32 a0)] (I r):=by
 unfold ZH at h
 obtain ⟨t1,h1,h⟩:=Qe h
 obtain ⟨t2,h2,h⟩:=Qe h
 obtain ⟨t3,h3,h⟩:=Qe h
 obtain ⟨t4,h4,h⟩:=Qe h
 replace h:=Option.some.inj h
 subst h
 exact run (n:=100) (f:=49) (args:=[.v (.float .f32 a0)]) (orc:=[.ret (B t1),.ret (I t2),.ret (I t3),.ret (I t4)]) (r:=I t4) (ob:=[Computes cx 25 [.lst true 1 [I t2,I t3]] (I t4),Computes cx 59 [.v (.float .f32 a0),.v (.float .f32 1149239296)] (I t3),Computes cx 46 [B t1,I 1] (I t2),Computes cx 58 [.v (.float .f32 a0)] (B t1)]) (by kernel_rfl) ⟨((Qt h4).le (.cons (.full _ _ _) (.nil)) (.refl _)),(zt h3),(QK h2),(ED h1),trivial⟩
def Zs (n:Nat) (a0:List D) (sa:(Int×List D)):Option (((Int×List D))⊕((List D))) :=
 if sa.1 < ((a0).length:Int) then
  (el YB a0 sa.1).bind fun ta2 =>
  (ZH n ta2).bind fun ta3 =>
  if Q5 8 ((sa.2).length+1) then
  if Qa (sa.1+1) then
  some (.inl ((sa.1+1),(sa.2++([I ta3]:List D))))
  else none
  else none
 else
 some (.inr sa.2)
noncomputable def Jd (a0:List D) (sa:(Int×List D)):List (Nat×AV):=[(1,.d (.fn (.func 49) [] [])),(5,.own 5 0),(8,.d (.lst false 1 a0)),(9,.d (I ((a0).length:Int))),(10,.d (I sa.1))]
noncomputable def Js (a0:List D) (sa:(Int×List D)):List (Nat×Blk):=[(5,.row 0 1 sa.2)]
noncomputable def KY (a0:List D) (e:(List D)):Ex:=(.exit 0)
noncomputable def Kw (a0:List D) (e:(List D)):List (Nat×AV):=[(5,.own 5 0)]
noncomputable def KG (a0:List D) (e:(List D)):List (Nat×Blk):=[(5,.row 0 1 e)]
theorem Ji {n:Nat} {a0:List D} (sa:(Int×List D)) (r) (h:Zs n a0 sa=some r):Rd cx (Qp cx.P 48 0) 22 0 false (Jd a0) (Js a0) (KY a0) (Kw a0) (KG a0) sa r:=by
 unfold Zs at h
 by_cases ha1:sa.1 < ((a0).length:Int)
 ·replace h:=Qk h ha1
  obtain ⟨ta2,ha2,h⟩:=Qe h
  obtain ⟨ta3,ha3,h⟩:=Qe h
  obtain ⟨ha4,h⟩:=Qf h
  obtain ⟨ha5,h⟩:=Qf h
  replace h:=Option.some.inj h
  subst h
  exact ⟨100,6,[.br true,.el (.v (.float .f32 ta2)),.ret (I ta3),.br true],[],[1,5,8,9,10],[5],Qi (ob:=[Qa (sa.1+1),room cx 37 ((sa.2).length+1),Computes cx 49 [.v (.float .f32 ta2)] (I ta3),(0:Int)≤sa.1,nth (a0) (Int.toNat sa.1)=some (.v (.float .f32 ta2)),(decide (sa.1 < ((a0).length:Int)))=true]) (by kernel_rfl) ⟨ha5,(Qz (b:=8) (by kernel_rfl) (by decide) ha4),(Gj ha3),(Qw QN ha2).1,(Qw QN ha2).2,(decide_eq_true ha1),trivial⟩⟩
 ·replace h:=Ql h ha1
  replace h:=Option.some.inj h
  subst h
  exact ⟨⟨100,6,[.br false],[],[5],[5],Qi (ob:=[(decide (sa.1 < ((a0).length:Int)))=false]) (by kernel_rfl) ⟨(decide_eq_false ha1),trivial⟩⟩,nofun⟩
def WL (n:Nat) (a0:List D):Option (List D) :=
 (QS (Zs n a0) n (0,[])).bind fun t1 =>
 some t1
theorem GZ {n:Nat} {a0:List D} {r:List D} (h:WL n a0=some r):Computes cx 48 [.lst false 1 a0,.fn (.func 49) [] []] (.lst false 1 r):=by
 unfold WL at h
 obtain ⟨t1,h1,h⟩:=Qe h
 replace h:=Option.some.inj h
 subst h
 exact run (n:=100) (f:=48) (args:=[.lst false 1 a0,.fn (.func 49) [] []]) (orc:=[.lp [5,1] [1,5,8,9,10] [5] (.exit 0) [(5,.own 5 0)] [(5,.row 0 1 t1)] 30]) (r:=.lst false 1 t1) (ob:=[QI cx (Qp cx.P 48 0) 22 0 false [(1,.d (.fn (.func 49) [] [])),(5,.own 5 0),(8,.d (.lst false 1 a0)),(9,.d (I ((a0).length:Int))),(10,.d (I 0))] [(5,.row 0 1 [])] (.exit 0) [(5,.own 5 0)] [(5,.row 0 1 t1)]]) (by kernel_rfl) ⟨(Qx Ji h1),trivial⟩
def ZL (n:Nat) (a0 a1:Int) (a2:List D):Option (Int) :=
 (Q0 n a0 1 64).bind fun t1 =>
 (Q0 n a1 1 64).bind fun t2 =>
 (QJ n ([I t1,I t2])).bind fun t3 =>
 if t3=0 then
  if Qa (a0 * a1) then
  if ((a2).length:Int)=(a0 * a1) then
   (WL n a2).bind fun t7 =>
   (QJ n t7).bind fun t8 =>
   some t8
  else
  some 2
  else none
 else
 some t3
theorem Zz {n:Nat} {a0 a1:Int} {a2:List D} {r:Int} (h:ZL n a0 a1 a2=some r):Computes cx 28 [.agg [I a0,I a1,.lst false 1 a2]] (I r):=by
 unfold ZL at h
 obtain ⟨t1,h1,h⟩:=Qe h
 obtain ⟨t2,h2,h⟩:=Qe h
 obtain ⟨t3,h3,h⟩:=Qe h
 by_cases h4:t3=0
 ·replace h:=Qk h h4
  obtain ⟨h5,h⟩:=Qf h
  by_cases h6:((a2).length:Int)=(a0 * a1)
  ·replace h:=Qk h h6
   obtain ⟨t7,h7,h⟩:=Qe h
   obtain ⟨t8,h8,h⟩:=Qe h
   replace h:=Option.some.inj h
   subst h
   exact run (n:=100) (f:=28) (args:=[.agg [I a0,I a1,.lst false 1 a2]]) (orc:=[.ret (I t1),.ret (I t2),.ret (I t3),.br false,.br false,.ret (.lst false 1 t7),.ret (I t8)]) (r:=I t8) (ob:=[Computes cx 25 [.lst false 1 t7] (I t8),Computes cx 48 [.lst false 1 a2,.fn (.func 49) [] []] (.lst false 1 t7),(((a2).length:Int) != (a0 * a1))=false,Qa (a0 * a1),(t3 != 0)=false,Computes cx 25 [.lst true 1 [I t1,I t2]] (I t3),Computes cx 27 [I a1,I 1,I 64] (I t2),Computes cx 27 [I a0,I 1,I 64] (I t1)]) (by kernel_rfl) ⟨(Qt h8),(GZ h7),(nef h6),h5,(nef h4),((Qt h3).le (.cons (.full _ _ _) (.nil)) (.refl _)),(QP h2),(QP h1),trivial⟩
  ·replace h:=Ql h h6
   replace h:=Option.some.inj h
   subst h
   exact run (n:=100) (f:=28) (args:=[.agg [I a0,I a1,.lst false 1 a2]]) (orc:=[.ret (I t1),.ret (I t2),.ret (I t3),.br false,.br true]) (r:=I 2) (ob:=[(((a2).length:Int) != (a0 * a1))=true,Qa (a0 * a1),(t3 != 0)=false,Computes cx 25 [.lst true 1 [I t1,I t2]] (I t3),Computes cx 27 [I a1,I 1,I 64] (I t2),Computes cx 27 [I a0,I 1,I 64] (I t1)]) (by kernel_rfl) ⟨(net h6),h5,(nef h4),((Qt h3).le (.cons (.full _ _ _) (.nil)) (.refl _)),(QP h2),(QP h1),trivial⟩
 ·replace h:=Ql h h4
  replace h:=Option.some.inj h
  subst h
  exact run (n:=100) (f:=28) (args:=[.agg [I a0,I a1,.lst false 1 a2]]) (orc:=[.ret (I t1),.ret (I t2),.ret (I t3),.br true]) (r:=I t3) (ob:=[(t3 != 0)=true,Computes cx 25 [.lst true 1 [I t1,I t2]] (I t3),Computes cx 27 [I a1,I 1,I 64] (I t2),Computes cx 27 [I a0,I 1,I 64] (I t1)]) (by kernel_rfl) ⟨(net h4),((Qt h3).le (.cons (.full _ _ _) (.nil)) (.refl _)),(QP h2),(QP h1),trivial⟩
def WP (n:Nat) (a0:Nat):Option (Int) :=
 if (fop .mul .f32 1098907648 a0).isSome=true then
 if (f2i .f32 ((fop .mul .f32 1098907648 a0).getD 0) .i64).isSome=true then
 some ((f2i .f32 ((fop .mul .f32 1098907648 a0).getD 0) .i64).getD 0)
 else none
 else none
theorem zV {n:Nat} {a0:Nat} {r:Int} (h:WP n a0=some r):Computes cx 51 [.v (.float .f32 a0)] (I r):=by
 unfold WP at h
 obtain ⟨h1,h⟩:=Qf h
 obtain ⟨h2,h⟩:=Qf h
 replace h:=Option.some.inj h
 subst h
 exact run (n:=100) (f:=51) (args:=[.v (.float .f32 a0)]) (orc:=[]) (r:=I ((f2i .f32 ((fop .mul .f32 1098907648 a0).getD 0) .i64).getD 0)) (ob:=[(f2i .f32 ((fop .mul .f32 1098907648 a0).getD 0) .i64).isSome=true,(fop .mul .f32 1098907648 a0).isSome=true]) (by kernel_rfl) ⟨h2,h1,trivial⟩
def Zr (n:Nat) (a0:List D) (sa:(Int×List D)):Option (((Int×List D))⊕((List D))) :=
 if sa.1 < ((a0).length:Int) then
  (el YB a0 sa.1).bind fun ta2 =>
  (WP n ta2).bind fun ta3 =>
  if Q5 8 ((sa.2).length+1) then
  if Qa (sa.1+1) then
  some (.inl ((sa.1+1),(sa.2++([I ta3]:List D))))
  else none
  else none
 else
 some (.inr sa.2)
noncomputable def Jc (a0:List D) (sa:(Int×List D)):List (Nat×AV):=[(1,.d (.fn (.func 51) [] [])),(5,.own 5 0),(8,.d (.lst false 1 a0)),(9,.d (I ((a0).length:Int))),(10,.d (I sa.1))]
noncomputable def Jr (a0:List D) (sa:(Int×List D)):List (Nat×Blk):=[(5,.row 0 1 sa.2)]
noncomputable def KX (a0:List D) (e:(List D)):Ex:=(.exit 0)
noncomputable def Kv (a0:List D) (e:(List D)):List (Nat×AV):=[(5,.own 5 0)]
noncomputable def KF (a0:List D) (e:(List D)):List (Nat×Blk):=[(5,.row 0 1 e)]
theorem Jh {n:Nat} {a0:List D} (sa:(Int×List D)) (r) (h:Zr n a0 sa=some r):Rd cx (Qp cx.P 50 0) 22 0 false (Jc a0) (Jr a0) (KX a0) (Kv a0) (KF a0) sa r:=by
 unfold Zr at h
 by_cases ha1:sa.1 < ((a0).length:Int)
 ·replace h:=Qk h ha1
  obtain ⟨ta2,ha2,h⟩:=Qe h
  obtain ⟨ta3,ha3,h⟩:=Qe h
  obtain ⟨ha4,h⟩:=Qf h
  obtain ⟨ha5,h⟩:=Qf h
  replace h:=Option.some.inj h
  subst h
  exact ⟨100,6,[.br true,.el (.v (.float .f32 ta2)),.ret (I ta3),.br true],[],[1,5,8,9,10],[5],Qi (ob:=[Qa (sa.1+1),room cx 3 ((sa.2).length+1),Computes cx 51 [.v (.float .f32 ta2)] (I ta3),(0:Int)≤sa.1,nth (a0) (Int.toNat sa.1)=some (.v (.float .f32 ta2)),(decide (sa.1 < ((a0).length:Int)))=true]) (by kernel_rfl) ⟨ha5,(Qz (b:=8) (by kernel_rfl) (by decide) ha4),(zV ha3),(Qw QN ha2).1,(Qw QN ha2).2,(decide_eq_true ha1),trivial⟩⟩
 ·replace h:=Ql h ha1
  replace h:=Option.some.inj h
  subst h
  exact ⟨⟨100,6,[.br false],[],[5],[5],Qi (ob:=[(decide (sa.1 < ((a0).length:Int)))=false]) (by kernel_rfl) ⟨(decide_eq_false ha1),trivial⟩⟩,nofun⟩
def WK (n:Nat) (a0:List D):Option (List D) :=
 (QS (Zr n a0) n (0,[])).bind fun t1 =>
 some t1
theorem Gk {n:Nat} {a0:List D} {r:List D} (h:WK n a0=some r):WQ cx 50 [.lst false 1 a0,.fn (.func 51) [] []] 1 r (.own 0 0):=by
 unfold WK at h
 obtain ⟨t1,h1,h⟩:=Qe h
 replace h:=Option.some.inj h
 subst h
 exact runF (n:=100) (f:=50) (args:=[.lst false 1 a0,.fn (.func 51) [] []]) (orc:=[.lp [5,1] [1,5,8,9,10] [5] (.exit 0) [(5,.own 5 0)] [(5,.row 0 1 t1)] 30]) (r:=.own 0 0) (sz:=1) (L:=t1) (ob:=[QI cx (Qp cx.P 50 0) 22 0 false [(1,.d (.fn (.func 51) [] [])),(5,.own 5 0),(8,.d (.lst false 1 a0)),(9,.d (I ((a0).length:Int))),(10,.d (I 0))] [(5,.row 0 1 [])] (.exit 0) [(5,.own 5 0)] [(5,.row 0 1 t1)]]) (by kernel_rfl) ⟨(Qx Jh h1),trivial⟩
def Zx (n:Nat) (a0 a1:Int) (a2:List D):Option (Int×Int×List D) :=
 (WK n a2).bind fun t1 =>
 some (a0,a1,t1)
theorem Vi {n:Nat} {a0 a1:Int} {a2:List D} {r:Int×Int×List D} (h:Zx n a0 a1 a2=some r):WQ cx 29 [.agg [I a0,I a1,.lst false 1 a2]] 1 r.2.2 (.agg [.d (I r.1),.d (I r.2.1),.own 0 0]):=by
 unfold Zx at h
 obtain ⟨t1,h1,h⟩:=Qe h
 replace h:=Option.some.inj h
 subst h
 exact runF (n:=100) (f:=29) (args:=[.agg [I a0,I a1,.lst false 1 a2]]) (orc:=[.obj none (.own 0 0) [.row 1 t1] [true]]) (r:=.agg [.d (I a0),.d (I a1),.own 0 0]) (sz:=1) (L:=t1) (ob:=[WQ cx 50 [.lst false 1 a2,.fn (.func 51) [] []] 1 t1 (.own 0 0)]) (by kernel_rfl) ⟨(Gk h1),trivial⟩
def W2 (n:Nat) (a0:Int):Option (Nat) :=
 if (fop .quo .f32 (FloatKind.nearest .f32 a0) 1098907648).isSome=true then
 some ((fop .quo .f32 (FloatKind.nearest .f32 a0) 1098907648).getD 0)
 else none
theorem zr {n:Nat} {a0:Int} {r:Nat} (h:W2 n a0=some r):Computes cx 53 [I a0] (.v (.float .f32 r)):=by
 unfold W2 at h
 obtain ⟨h1,h⟩:=Qf h
 replace h:=Option.some.inj h
 subst h
 exact run (n:=100) (f:=53) (args:=[I a0]) (orc:=[]) (r:=.v (.float .f32 ((fop .quo .f32 (FloatKind.nearest .f32 a0) 1098907648).getD 0))) (ob:=[(fop .quo .f32 (FloatKind.nearest .f32 a0) 1098907648).isSome=true]) (by kernel_rfl) ⟨h1,trivial⟩
def Zq (n:Nat) (a0:List D) (sa:(Int×List D)):Option (((Int×List D))⊕((List D))) :=
 if sa.1 < ((a0).length:Int) then
  (el U0 a0 sa.1).bind fun ta2 =>
  (W2 n ta2).bind fun ta3 =>
  if Q5 4 ((sa.2).length+1) then
  if Qa (sa.1+1) then
  some (.inl ((sa.1+1),(sa.2++([.v (.float .f32 ta3)]:List D))))
  else none
  else none
 else
 some (.inr sa.2)
noncomputable def Jb (a0:List D) (sa:(Int×List D)):List (Nat×AV):=[(1,.d (.fn (.func 53) [] [])),(5,.own 5 0),(8,.d (.lst false 1 a0)),(9,.d (I ((a0).length:Int))),(10,.d (I sa.1))]
noncomputable def Jq (a0:List D) (sa:(Int×List D)):List (Nat×Blk):=[(5,.row 0 1 sa.2)]
noncomputable def KW (a0:List D) (e:(List D)):Ex:=(.exit 0)
noncomputable def Ku (a0:List D) (e:(List D)):List (Nat×AV):=[(5,.own 5 0)]
noncomputable def KE (a0:List D) (e:(List D)):List (Nat×Blk):=[(5,.row 0 1 e)]
theorem Jg {n:Nat} {a0:List D} (sa:(Int×List D)) (r) (h:Zq n a0 sa=some r):Rd cx (Qp cx.P 52 0) 22 0 false (Jb a0) (Jq a0) (KW a0) (Ku a0) (KE a0) sa r:=by
 unfold Zq at h
 by_cases ha1:sa.1 < ((a0).length:Int)
 ·replace h:=Qk h ha1
  obtain ⟨ta2,ha2,h⟩:=Qe h
  obtain ⟨ta3,ha3,h⟩:=Qe h
  obtain ⟨ha4,h⟩:=Qf h
  obtain ⟨ha5,h⟩:=Qf h
  replace h:=Option.some.inj h
  subst h
  exact ⟨100,6,[.br true,.el (I ta2),.ret (.v (.float .f32 ta3)),.br true],[],[1,5,8,9,10],[5],Qi (ob:=[Qa (sa.1+1),room cx 27 ((sa.2).length+1),Computes cx 53 [I ta2] (.v (.float .f32 ta3)),(0:Int)≤sa.1,nth (a0) (Int.toNat sa.1)=some (I ta2),(decide (sa.1 < ((a0).length:Int)))=true]) (by kernel_rfl) ⟨ha5,(Qz (b:=4) (by kernel_rfl) (by decide) ha4),(zr ha3),(Qw Qm ha2).1,(Qw Qm ha2).2,(decide_eq_true ha1),trivial⟩⟩
 ·replace h:=Ql h ha1
  replace h:=Option.some.inj h
  subst h
  exact ⟨⟨100,6,[.br false],[],[5],[5],Qi (ob:=[(decide (sa.1 < ((a0).length:Int)))=false]) (by kernel_rfl) ⟨(decide_eq_false ha1),trivial⟩⟩,nofun⟩
def WJ (n:Nat) (a0:List D):Option (List D) :=
 (QS (Zq n a0) n (0,[])).bind fun t1 =>
 some t1
theorem GY {n:Nat} {a0:List D} {r:List D} (h:WJ n a0=some r):Computes cx 52 [.lst false 1 a0,.fn (.func 53) [] []] (.lst false 1 r):=by
 unfold WJ at h
 obtain ⟨t1,h1,h⟩:=Qe h
 replace h:=Option.some.inj h
 subst h
 exact run (n:=100) (f:=52) (args:=[.lst false 1 a0,.fn (.func 53) [] []]) (orc:=[.lp [5,1] [1,5,8,9,10] [5] (.exit 0) [(5,.own 5 0)] [(5,.row 0 1 t1)] 30]) (r:=.lst false 1 t1) (ob:=[QI cx (Qp cx.P 52 0) 22 0 false [(1,.d (.fn (.func 53) [] [])),(5,.own 5 0),(8,.d (.lst false 1 a0)),(9,.d (I ((a0).length:Int))),(10,.d (I 0))] [(5,.row 0 1 [])] (.exit 0) [(5,.own 5 0)] [(5,.row 0 1 t1)]]) (by kernel_rfl) ⟨(Qx Jg h1),trivial⟩
def ZA (n:Nat) (a0 a1:Int) (a2:List D) (sa:(Int)):Option (((Int))⊕((Unit)⊕(Unit))) :=
 if sa < ((a2).length:Int) then
  (el U0 a2 sa).bind fun ta2 =>
  if ta2 < (-16384) then
   some (.inr (.inl ()))
  else
  if ta2 > 16384 then
   some (.inr (.inl ()))
  else
  if Qa (sa+1) then
  some (.inl (sa+1))
  else none
 else
 some (.inr (.inr ()))
noncomputable def J0 (a0 a1:Int) (a2:List D) (sa:(Int)):List (Nat×AV):=[(1,.ptr 0 0 0 0 0),(2,.ptr 1 0 0 0 0),(7,.d (.lst false 1 a2)),(8,.d (I ((a2).length:Int))),(9,.d (I sa))]
noncomputable def J2 (a0 a1:Int) (a2:List D) (sa:(Int)):List (Nat×Blk):=[(0,.box (.d (.agg [I a0,I a1,.lst false 1 a2]))),(1,.box (.d (.agg [I 0,I 0,.lst true 0 []])))]
noncomputable def JT (a0 a1:Int) (a2:List D) (e:(Unit)⊕(Unit)):Ex:=match e with
 | (.inl e)=>.ret
 | (.inr e)=>(.exit 0)
noncomputable def K4 (a0 a1:Int) (a2:List D) (e:(Unit)⊕(Unit)):List (Nat×AV):=match e with
 | (.inl e)=>[(2,.ptr 1 0 0 0 0),(3,.d (I 4))]
 | (.inr e)=>[(1,.ptr 0 0 0 0 0),(2,.ptr 1 0 0 0 0)]
noncomputable def K5 (a0 a1:Int) (a2:List D) (e:(Unit)⊕(Unit)):List (Nat×Blk):=match e with
 | (.inl e)=>[(1,.box (.d (.agg [I 0,I 0,.lst true 0 []])))]
 | (.inr e)=>[(0,.box (.d (.agg [I a0,I a1,.lst false 1 a2]))),(1,.box (.d (.agg [I 0,I 0,.lst true 0 []])))]
theorem Yr {n:Nat} {a0 a1:Int} {a2:List D} (sa:(Int)) (r) (h:ZA n a0 a1 a2 sa=some r):Rd cx (Qp cx.P 30 0) 29 0 false (J0 a0 a1 a2) (J2 a0 a1 a2) (JT a0 a1 a2) (K4 a0 a1 a2) (K5 a0 a1 a2) sa r:=by
 unfold ZA at h
 by_cases ha1:sa < ((a2).length:Int)
 ·replace h:=Qk h ha1
  obtain ⟨ta2,ha2,h⟩:=Qe h
  by_cases ha3:ta2 < (-16384)
  ·replace h:=Qk h ha3
   replace h:=Option.some.inj h
   subst h
   exact ⟨⟨100,7,[.br true,.el (I ta2),.br true,.no],[],[2,3],[1],Qi (ob:=[(decide (ta2 < (-16384)))=true,(0:Int)≤sa,nth (a2) (Int.toNat sa)=some (I ta2),(decide (sa < ((a2).length:Int)))=true]) (by kernel_rfl) ⟨(decide_eq_true ha3),(Qw Qm ha2).1,(Qw Qm ha2).2,(decide_eq_true ha1),trivial⟩⟩,nofun⟩
  ·replace h:=Ql h ha3
   by_cases ha4:ta2 > 16384
   ·replace h:=Qk h ha4
    replace h:=Option.some.inj h
    subst h
    exact ⟨⟨100,7,[.br true,.el (I ta2),.br false,.br true],[],[2,3],[1],Qi (ob:=[(decide (ta2 > 16384))=true,(decide (ta2 < (-16384)))=false,(0:Int)≤sa,nth (a2) (Int.toNat sa)=some (I ta2),(decide (sa < ((a2).length:Int)))=true]) (by kernel_rfl) ⟨(decide_eq_true ha4),(decide_eq_false ha3),(Qw Qm ha2).1,(Qw Qm ha2).2,(decide_eq_true ha1),trivial⟩⟩,nofun⟩
   ·replace h:=Ql h ha4
    obtain ⟨ha5,h⟩:=Qf h
    replace h:=Option.some.inj h
    subst h
    exact ⟨100,7,[.br true,.el (I ta2),.br false,.br false],[],[1,2,7,8,9],[0,1],Qi (ob:=[Qa (sa+1),(decide (ta2 > 16384))=false,(decide (ta2 < (-16384)))=false,(0:Int)≤sa,nth (a2) (Int.toNat sa)=some (I ta2),(decide (sa < ((a2).length:Int)))=true]) (by kernel_rfl) ⟨ha5,(decide_eq_false ha4),(decide_eq_false ha3),(Qw Qm ha2).1,(Qw Qm ha2).2,(decide_eq_true ha1),trivial⟩⟩
 ·replace h:=Ql h ha1
  replace h:=Option.some.inj h
  subst h
  exact ⟨⟨100,7,[.br false],[],[1,2],[0,1],Qi (ob:=[(decide (sa < ((a2).length:Int)))=false]) (by kernel_rfl) ⟨(decide_eq_false ha1),trivial⟩⟩,nofun⟩
def Wr (n:Nat) (a0 a1:Int) (a2:List D):Option (Int×Int×List D×Int) :=
 (QS (ZA n a0 a1 a2) n 0).bind fun t1=>match t1 with
  | (.inl t1)=>(
   some (0,0,[],4))
  | (.inr t1)=>(
   (WJ n a2).bind fun t2 =>
   some (a0,a1,t2,0))
theorem XF {n:Nat} {a0 a1:Int} {a2:List D} {r:Int×Int×List D×Int} (h:Wr n a0 a1 a2=some r):Computes cx 30 [.agg [I a0,I a1,.lst false 1 a2]] (.tup [.agg [I r.1,I r.2.1,.lst false 1 r.2.2.1],I r.2.2.2]):=by
 unfold Wr at h
 obtain ⟨t1,h1,h⟩:=Qe h
 rcases t1 with t1 | t1
 ·replace h:=Option.some.inj h
  subst h
  exact (run (n:=100) (f:=30) (args:=[.agg [I a0,I a1,.lst false 1 a2]]) (orc:=[.lp [] [1,2,7,8,9] [0,1] .ret [(2,.ptr 1 0 0 0 0),(3,.d (I 4))] [(1,.box (.d (.agg [I 0,I 0,.lst true 0 []])))] 31]) (r:=.tup [.agg [I 0,I 0,.lst true 0 []],I 4]) (ob:=[QI cx (Qp cx.P 30 0) 29 0 false [(1,.ptr 0 0 0 0 0),(2,.ptr 1 0 0 0 0),(7,.d (.lst false 1 a2)),(8,.d (I ((a2).length:Int))),(9,.d (I 0))] [(0,.box (.d (.agg [I a0,I a1,.lst false 1 a2]))),(1,.box (.d (.agg [I 0,I 0,.lst true 0 []])))] .ret [(2,.ptr 1 0 0 0 0),(3,.d (I 4))] [(1,.box (.d (.agg [I 0,I 0,.lst true 0 []])))]]) (by kernel_rfl) ⟨(Qx Yr h1),trivial⟩).le (LEs.refl _) (.tups (.cons (.aggs (.cons (.refl _) (.cons (.refl _) (.cons (.nilF) (.nil))))) (.cons (.refl _) (.nil))))
 ·obtain ⟨t2,h2,h⟩:=Qe h
  replace h:=Option.some.inj h
  subst h
  exact run (n:=100) (f:=30) (args:=[.agg [I a0,I a1,.lst false 1 a2]]) (orc:=[.lp [] [1,2,7,8,9] [0,1] (.exit 0) [(1,.ptr 0 0 0 0 0),(2,.ptr 1 0 0 0 0)] [(0,.box (.d (.agg [I a0,I a1,.lst false 1 a2]))),(1,.box (.d (.agg [I 0,I 0,.lst true 0 []])))] 31,.ret (.lst false 1 t2)]) (r:=.tup [.agg [I a0,I a1,.lst false 1 t2],I 0]) (ob:=[Computes cx 52 [.lst false 1 a2,.fn (.func 53) [] []] (.lst false 1 t2),QI cx (Qp cx.P 30 0) 29 0 false [(1,.ptr 0 0 0 0 0),(2,.ptr 1 0 0 0 0),(7,.d (.lst false 1 a2)),(8,.d (I ((a2).length:Int))),(9,.d (I 0))] [(0,.box (.d (.agg [I a0,I a1,.lst false 1 a2]))),(1,.box (.d (.agg [I 0,I 0,.lst true 0 []])))] (.exit 0) [(1,.ptr 0 0 0 0 0),(2,.ptr 1 0 0 0 0)] [(0,.box (.d (.agg [I a0,I a1,.lst false 1 a2]))),(1,.box (.d (.agg [I 0,I 0,.lst true 0 []])))]]) (by kernel_rfl) ⟨(GY h2),(Qx Yr h1),trivial⟩
end Go.Proofs.YtchbppgamelchaaDoor
