/- Own texts. -/
import Derived.Test.YtfiigcbhiopagaaGreatDoorProg
import Derived.Test.YtfiigcbhiopagaaGreatDoorSxTwentyEight
import Derived.KernelRfl
import Derived.Below
import Derived.Lib.LaidTab
import GoSem.ClaimChange
import Derived.ProofKit
import Derived.OpenShut
import Derived.WideShapes
import Derived.ChangeStays
import Derived.ChangeSame
import Derived.Deep.DeepHandedRow
import Derived.ChangeArms
import Derived.WalkKit
import Derived.Laws.Externs
import Derived.Lib.LazyBuf
set_option linter.unusedVariables false
set_option linter.unusedSimpArgs false
set_option linter.unnecessarySimpa false
namespace Go.Proofs.YtfiigcbhiopagaaGreatDoor.T
open Go.SX Go.RowKit
instance drawT:DrawMode:=⟨true⟩
noncomputable def cx:Cx:={ P:=Tryz.prog,G:=fun _=>none }
theorem Qci:(Tryz.prog.funcs.toList.all fun fn=>!(fn.body.isSome && (fn.name == "runtime.NumGoroutine")))=true:=by kernel_rfl
theorem noAsk:NoAsk cx:=Qbi _ _ Qci
theorem qf:cx.P.follows .mixedOrders=true:=by kernel_rfl
theorem run {n:Nat} {f:FuncId} {args:List D} {orc:List Orc} {r:D} {ob:List Prop} (h:Jl true n cx f args orc=some (r,ob)) (ho:All ob):Computes cx f args r:=J7 noAsk qf h ho
theorem Qu {S E:Type} {c:Code} {nt vis:Nat} {rnd:Bool} {T:S→List (Nat×AV)} {H:S→List (Nat×Blk)} {X:E→Ex} {XT:E→List (Nat×AV)} {XH:E→List (Nat×Blk)}
  {step:S→Option (S⊕E)} (hr:∀ s r,step s=some r→Rd cx c nt vis rnd T H X XT XH s r) {n:Nat} {s:S} {e:E} (h:Qz step n s=some e):QM cx c nt vis rnd (T s) (H s) (X e) (XT e) (XH e):=jN noAsk qf hr n s e h
set_option maxRecDepth 10000
set_option maxHeartbeats 4000000
def F_cmp_isNaN_g (n:Nat) (a0:Int):Option (Bool) :=
 some (a0 != a0)
theorem Zj {n:Nat} {a0:Int} {r:Bool} (h:F_cmp_isNaN_g n a0=some r):Computes cx 88 [I a0] (B r):=by
 unfold F_cmp_isNaN_g at h
 replace h:=Option.some.inj h
 subst h
 exact run (n:=100) (f:=88) (args:=[I a0]) (orc:=[]) (r:=B (a0 != a0)) (ob:=[]) (by kernel_rfl) trivial
def F_cmp_Compare_g (n:Nat) (a0 a1:Int):Option (Int) :=
 (F_cmp_isNaN_g n a0).bind fun t1 =>
 (F_cmp_isNaN_g n a1).bind fun t2 =>
 if t1=true then
  if t2=true then
   some 0
  else
  some (-1)
 else
 if t2=true then
  some 1
 else
 if a0 < a1 then
  some (-1)
 else
 if a0 > a1 then
  some 1
 else
 some 0
theorem V3 {n:Nat} {a0 a1:Int} {r:Int} (h:F_cmp_Compare_g n a0 a1=some r):Computes cx 64 [I a0,I a1] (I r):=by
 unfold F_cmp_Compare_g at h
 obtain ⟨t1,h1,h⟩:=Qe h
 obtain ⟨t2,h2,h⟩:=Qe h
 by_cases h3:t1=true
 ·replace h:=Qj h h3
  by_cases h4:t2=true
  ·replace h:=Qj h h4
   replace h:=Option.some.inj h
   subst h
   exact run (n:=100) (f:=64) (args:=[I a0,I a1]) (orc:=[.ret (B t1),.ret (B t2),.br true,.br true]) (r:=I 0) (ob:=[t2=true,t1=true,Computes cx 88 [I a1] (B t2),Computes cx 88 [I a0] (B t1)]) (by kernel_rfl) ⟨h4,h3,(Zj h2),(Zj h1),trivial⟩
  ·replace h:=Qk h h4
   replace h:=Option.some.inj h
   subst h
   exact run (n:=100) (f:=64) (args:=[I a0,I a1]) (orc:=[.ret (B t1),.ret (B t2),.br true,.br false]) (r:=I (-1)) (ob:=[t2=false,t1=true,Computes cx 88 [I a1] (B t2),Computes cx 88 [I a0] (B t1)]) (by kernel_rfl) ⟨(QJ h4),h3,(Zj h2),(Zj h1),trivial⟩
 ·replace h:=Qk h h3
  by_cases h4:t2=true
  ·replace h:=Qj h h4
   replace h:=Option.some.inj h
   subst h
   exact run (n:=100) (f:=64) (args:=[I a0,I a1]) (orc:=[.ret (B t1),.ret (B t2),.br false,.br true]) (r:=I 1) (ob:=[t2=true,t1=false,Computes cx 88 [I a1] (B t2),Computes cx 88 [I a0] (B t1)]) (by kernel_rfl) ⟨h4,(QJ h3),(Zj h2),(Zj h1),trivial⟩
  ·replace h:=Qk h h4
   by_cases h5:a0 < a1
   ·replace h:=Qj h h5
    replace h:=Option.some.inj h
    subst h
    exact run (n:=100) (f:=64) (args:=[I a0,I a1]) (orc:=[.ret (B t1),.ret (B t2),.br false,.br false,.br true]) (r:=I (-1)) (ob:=[(decide (a0 < a1))=true,t2=false,t1=false,Computes cx 88 [I a1] (B t2),Computes cx 88 [I a0] (B t1)]) (by kernel_rfl) ⟨(decide_eq_true h5),(QJ h4),(QJ h3),(Zj h2),(Zj h1),trivial⟩
   ·replace h:=Qk h h5
    by_cases h6:a0 > a1
    ·replace h:=Qj h h6
     replace h:=Option.some.inj h
     subst h
     exact run (n:=100) (f:=64) (args:=[I a0,I a1]) (orc:=[.ret (B t1),.ret (B t2),.br false,.br false,.br false,.br true]) (r:=I 1) (ob:=[(decide (a0 > a1))=true,(decide (a0 < a1))=false,t2=false,t1=false,Computes cx 88 [I a1] (B t2),Computes cx 88 [I a0] (B t1)]) (by kernel_rfl) ⟨(decide_eq_true h6),(decide_eq_false h5),(QJ h4),(QJ h3),(Zj h2),(Zj h1),trivial⟩
    ·replace h:=Qk h h6
     replace h:=Option.some.inj h
     subst h
     exact run (n:=100) (f:=64) (args:=[I a0,I a1]) (orc:=[.ret (B t1),.ret (B t2),.br false,.br false,.br false,.br false]) (r:=I 0) (ob:=[(decide (a0 > a1))=false,(decide (a0 < a1))=false,t2=false,t1=false,Computes cx 88 [I a1] (B t2),Computes cx 88 [I a0] (B t1)]) (by kernel_rfl) ⟨(decide_eq_false h6),(decide_eq_false h5),(QJ h4),(QJ h3),(Zj h2),(Zj h1),trivial⟩
def F_cloud_size (n:Nat) (a0:Int):Option (Int) :=
 some (maxI a0 (IntKind.wrap .i64 (0 - a0)))
theorem VM {n:Nat} {a0:Int} {r:Int} (h:F_cloud_size n a0=some r):Computes cx 65 [I a0] (I r):=by
 unfold F_cloud_size at h
 replace h:=Option.some.inj h
 subst h
 exact run (n:=100) (f:=65) (args:=[I a0]) (orc:=[]) (r:=I (maxI a0 (IntKind.wrap .i64 (0 - a0)))) (ob:=[]) (by kernel_rfl) trivial
def Qfe (x:Int):D:=I x
def un_i (d:D):Option (Int):=K0 .i64 d
theorem QQ {d:D} {x:Int} (h:un_i d=some x):d=Qfe x:=Yb h
def F_cmp_Or_g_L1 (n:Nat) (a0:List D) (sa:(Int)):Option (((Int))⊕((Int)⊕(Unit))) :=
 if sa < ((a0).length:Int) then
  (el un_i a0 sa).bind fun ta2 =>
  if ta2=0 then
   if Qb (sa+1) then
   some (.inl (sa+1))
   else none
  else
  some (.inr (.inl ta2))
 else
 some (.inr (.inr ()))
noncomputable def yF (a0:List D) (sa:(Int)):List (Nat×AV):=[(3,.d (I 0)),(6,.d (.lst false 1 a0)),(7,.d (I ((a0).length:Int))),(8,.d (I sa))]
noncomputable def yG (a0:List D) (sa:(Int)):List (Nat×Blk):=[]
noncomputable def yE (a0:List D) (e:(Int)⊕(Unit)):Ex:=match e with
 | (.inl e)=>.ret
 | (.inr e)=>(.exit 0)
noncomputable def kV (a0:List D) (e:(Int)⊕(Unit)):List (Nat×AV):=match e with
 | (.inl e)=>[(2,.d (I e))]
 | (.inr e)=>[(3,.d (I 0))]
noncomputable def kW (a0:List D) (e:(Int)⊕(Unit)):List (Nat×Blk):=match e with
 | (.inl e)=>[]
 | (.inr e)=>[]
theorem X9 {n:Nat} {a0:List D} (sa:(Int)) (r) (h:F_cmp_Or_g_L1 n a0 sa=some r):Rd cx (Qs cx.P 63 0) 18 0 false (yF a0) (yG a0) (yE a0) (kV a0) (kW a0) sa r:=by
 unfold F_cmp_Or_g_L1 at h
 by_cases ha1:sa < ((a0).length:Int)
 ·replace h:=Qj h ha1
  obtain ⟨ta2,ha2,h⟩:=Qe h
  by_cases ha3:ta2=0
  ·replace h:=Qj h ha3
   obtain ⟨ha4,h⟩:=Qf h
   replace h:=Option.some.inj h
   subst h
   exact ⟨100,5,[.br true,.el (I ta2),.br false],[],[3,6,7,8],[],Qg (ob:=[Qb (sa+1),(ta2 != 0)=false,(0:Int)≤sa,nth (a0) (Int.toNat sa)=some (I ta2),(decide (sa < ((a0).length:Int)))=true]) (by kernel_rfl) ⟨ha4,(nef ha3),(Qp QQ ha2).1,(Qp QQ ha2).2,(decide_eq_true ha1),trivial⟩⟩
  ·replace h:=Qk h ha3
   replace h:=Option.some.inj h
   subst h
   exact ⟨⟨100,5,[.br true,.el (I ta2),.br true],[],[2],[],Qg (ob:=[(ta2 != 0)=true,(0:Int)≤sa,nth (a0) (Int.toNat sa)=some (I ta2),(decide (sa < ((a0).length:Int)))=true]) (by kernel_rfl) ⟨(net ha3),(Qp QQ ha2).1,(Qp QQ ha2).2,(decide_eq_true ha1),trivial⟩⟩,nofun⟩
 ·replace h:=Qk h ha1
  replace h:=Option.some.inj h
  subst h
  exact ⟨⟨100,5,[.br false],[],[3],[],Qg (ob:=[(decide (sa < ((a0).length:Int)))=false]) (by kernel_rfl) ⟨(decide_eq_false ha1),trivial⟩⟩,nofun⟩
def F_cmp_Or_g (n:Nat) (a0:List D):Option (Int) :=
 (Qz (F_cmp_Or_g_L1 n a0) n 0).bind fun t1=>match t1 with
  | (.inl t1)=>(
   some t1)
  | (.inr t1)=>(
   some 0)
theorem kF {n:Nat} {a0:List D} {r:Int} (h:F_cmp_Or_g n a0=some r):Computes cx 63 [.lst false 1 a0] (I r):=by
 unfold F_cmp_Or_g at h
 obtain ⟨t1,h1,h⟩:=Qe h
 rcases t1 with t1 | t1
 ·replace h:=Option.some.inj h
  subst h
  exact run (n:=100) (f:=63) (args:=[.lst false 1 a0]) (orc:=[.lp [] [3,6,7,8] [] .ret [(2,.d (I t1))] [] 25]) (r:=I t1) (ob:=[QM cx (Qs cx.P 63 0) 18 0 false [(3,.d (I 0)),(6,.d (.lst false 1 a0)),(7,.d (I ((a0).length:Int))),(8,.d (I 0))] [] .ret [(2,.d (I t1))] []]) (by kernel_rfl) ⟨(Qu X9 h1),trivial⟩
 ·replace h:=Option.some.inj h
  subst h
  exact run (n:=100) (f:=63) (args:=[.lst false 1 a0]) (orc:=[.lp [] [3,6,7,8] [] (.exit 0) [(3,.d (I 0))] [] 25]) (r:=I 0) (ob:=[QM cx (Qs cx.P 63 0) 18 0 false [(3,.d (I 0)),(6,.d (.lst false 1 a0)),(7,.d (I ((a0).length:Int))),(8,.d (I 0))] [] (.exit 0) [(3,.d (I 0))] []]) (by kernel_rfl) ⟨(Qu X9 h1),trivial⟩
def F_cloud_inOrder (n:Nat) (a0 a1 a2 a3:Int):Option (Int) :=
 (F_cmp_Compare_g n a1 a3).bind fun t1 =>
 (F_cmp_Compare_g n a0 a2).bind fun t2 =>
 (F_cmp_Or_g n ([I t1,I t2])).bind fun t3 =>
 some t3
theorem c_cloud_inOrder {n:Nat} {a0 a1 a2 a3:Int} {r:Int} (h:F_cloud_inOrder n a0 a1 a2 a3=some r):Computes cx 34 [.agg [I a0,I a1],.agg [I a2,I a3]] (I r):=by
 unfold F_cloud_inOrder at h
 obtain ⟨t1,h1,h⟩:=Qe h
 obtain ⟨t2,h2,h⟩:=Qe h
 obtain ⟨t3,h3,h⟩:=Qe h
 replace h:=Option.some.inj h
 subst h
 exact run (n:=100) (f:=34) (args:=[.agg [I a0,I a1],.agg [I a2,I a3]]) (orc:=[.ret (I t1),.ret (I t2),.ret (I t3)]) (r:=I t3) (ob:=[Computes cx 63 [.lst true 1 [I t1,I t2]] (I t3),Computes cx 64 [I a0,I a2] (I t2),Computes cx 64 [I a1,I a3] (I t1)]) (by kernel_rfl) ⟨((kF h3).le (.cons (.full _ _ _) (.nil)) (.refl _)),(V3 h2),(V3 h1),trivial⟩
def F_cloud_tried_compare (n:Nat) (a0 a1 a2 a3 a4 a5 a6 a7:Int):Option (Int) :=
 if Qb (a2 * a7) then
 if Qb (a6 * a3) then
 (F_cmp_Compare_g n (a2 * a7) (a6 * a3)).bind fun t3 =>
 (F_cloud_size n a0).bind fun t4 =>
 (F_cloud_size n a1).bind fun t5 =>
 if Qb (t4+t5) then
 (F_cloud_size n a4).bind fun t7 =>
 (F_cloud_size n a5).bind fun t8 =>
 if Qb (t7+t8) then
 (F_cmp_Compare_g n (t4+t5) (t7+t8)).bind fun t10 =>
 (F_cloud_inOrder n a0 a1 a4 a5).bind fun t11 =>
 (F_cmp_Or_g n ([I t3,I t10,I t11])).bind fun t12 =>
 some t12
 else none
 else none
 else none
 else none
theorem c_cloud_tried_compare {n:Nat} {a0 a1 a2 a3 a4 a5 a6 a7:Int} {r:Int} (h:F_cloud_tried_compare n a0 a1 a2 a3 a4 a5 a6 a7=some r):Computes cx 68 [.agg [I a0,I a1,I a2,I a3],.agg [I a4,I a5,I a6,I a7]] (I r):=by
 unfold F_cloud_tried_compare at h
 obtain ⟨h1,h⟩:=Qf h
 obtain ⟨h2,h⟩:=Qf h
 obtain ⟨t3,h3,h⟩:=Qe h
 obtain ⟨t4,h4,h⟩:=Qe h
 obtain ⟨t5,h5,h⟩:=Qe h
 obtain ⟨h6,h⟩:=Qf h
 obtain ⟨t7,h7,h⟩:=Qe h
 obtain ⟨t8,h8,h⟩:=Qe h
 obtain ⟨h9,h⟩:=Qf h
 obtain ⟨t10,h10,h⟩:=Qe h
 obtain ⟨t11,h11,h⟩:=Qe h
 obtain ⟨t12,h12,h⟩:=Qe h
 replace h:=Option.some.inj h
 subst h
 exact run (n:=100) (f:=68) (args:=[.agg [I a0,I a1,I a2,I a3],.agg [I a4,I a5,I a6,I a7]]) (orc:=[.ret (I t3),.ret (I t4),.ret (I t5),.ret (I t7),.ret (I t8),.ret (I t10),.ret (I t11),.ret (I t12)]) (r:=I t12) (ob:=[Computes cx 63 [.lst true 1 [I t3,I t10,I t11]] (I t12),Computes cx 34 [.agg [I a0,I a1],.agg [I a4,I a5]] (I t11),Computes cx 64 [I (t4+t5),I (t7+t8)] (I t10),Qb (t7+t8),Computes cx 65 [I a5] (I t8),Computes cx 65 [I a4] (I t7),Qb (t4+t5),Computes cx 65 [I a1] (I t5),Computes cx 65 [I a0] (I t4),Computes cx 64 [I (a2 * a7),I (a6 * a3)] (I t3),Qb (a6 * a3),Qb (a2 * a7)]) (by kernel_rfl) ⟨((kF h12).le (.cons (.full _ _ _) (.nil)) (.refl _)),(c_cloud_inOrder h11),(V3 h10),h9,(VM h8),(VM h7),h6,(VM h5),(VM h4),(V3 h3),h2,h1,trivial⟩
end Go.Proofs.YtfiigcbhiopagaaGreatDoor.T
namespace Go.Proofs.YtfiigcbhiopagaaGreatDoor
open Go.SX Go.RowKit
instance drawF:DrawMode:=⟨false⟩
noncomputable def cx:Cx:={ P:=Tryz.prog,G:=fun g=>match Nat.beq g 0 with
 | true=>some (.agg [I (-1),I 0,I 1,I 0,I 0,I (-1),I 0,I 1])
 | false=>none }
theorem Qci:(Tryz.prog.funcs.toList.all fun fn=>!(fn.body.isSome && (fn.name == "runtime.NumGoroutine")))=true:=by kernel_rfl
theorem noAsk:NoAsk cx:=Qbi _ _ Qci
theorem qf:cx.P.follows .mixedOrders=true:=by kernel_rfl
theorem run {n:Nat} {f:FuncId} {args:List D} {orc:List Orc} {r:D} {ob:List Prop} (h:Jl true n cx f args orc=some (r,ob)) (ho:All ob):Computes cx f args r:=J7 noAsk qf h ho
theorem Qu {S E:Type} {c:Code} {nt vis:Nat} {rnd:Bool} {T:S→List (Nat×AV)} {H:S→List (Nat×Blk)} {X:E→Ex} {XT:E→List (Nat×AV)} {XH:E→List (Nat×Blk)}
  {step:S→Option (S⊕E)} (hr:∀ s r,step s=some r→Rd cx c nt vis rnd T H X XT XH s r) {n:Nat} {s:S} {e:E} (h:Qz step n s=some e):QM cx c nt vis rnd (T s) (H s) (X e) (XT e) (XH e):=jN noAsk qf hr n s e h
theorem nnil {l:List D} (h:WQ l=false):l≠[]:=by rintro rfl;cases h
theorem runF {n:Nat} {f:FuncId} {args:List D} {orc:List Orc} {r:AV} {sz:Nat} {L:List D} {ob:List Prop} (h:Qb5 n cx f args orc=some (r,sz,L,ob)) (ho:All ob):Z4 cx f args sz L r:=yv noAsk qf h ho
theorem dr_v {w:World} {F:Nat→Prop} {x y:Value} (h:DR w F (.v x) y):y=x:=by cases h;rfl
theorem QdR {w w' : World} (h:Below w.heap.size w w'):Ext w (fun _=>False) w':=⟨(fun h=>by cases h),h.os,h.tape,h.output,h.size,fun r hr _=>h.block r hr⟩
theorem ur {f:FuncId} {x y:Value} (h:∀ w:World,Calls Tryz.prog f #[x] w fun e w'=>e=.returned y∧Below w.heap.size w w'):Computes cx f [.v x] (.v y):=by
 intro w F vs hF hG hl hd
 match vs,hl with
 | [a],_ =>
  have ha:=hd 0 _ _ rfl rfl
  rw [dr_v ha]
  exact (h w).mono fun e w' hh=>⟨_,hh.1,.v _,QdR hh.2⟩
inductive Kd
 | int (k:IntKind)
 | bool
 | str
 | flt (k:FloatKind)
 | lst (agg:Bool) (ks:List Kd)
mutual
def Kd.ok:Kd→D→Prop
 | .int k,d=>∃ n,d=.v (.int k n)∧k.min≤n∧n≤k.max
 | .bool,d=>∃ b,d=.v (.bool b)
 | .str,d=>∃ s,d=.v (.string s)∧s.size≤maxLen
 | .flt k,d=>∃ b,d=.v (.float k b)∧(Lit.float k b).wf=true
 | .lst agg ks,d=>∃ es,d=.lst false ks.length es∧es.length≤maxLen∧∀ e,e∈es→match agg with
  | true=>∃ cs,e=.agg cs∧Kd.oks ks cs
  | false=>Kd.oks ks [e]
def Kd.oks:List Kd→List D→Prop
 | [],ds=>ds=[]
 | k::ks,ds=>∃ d r,ds=d::r∧Kd.ok k d∧Kd.oks ks r
end
def G2 (P:Program) (f:TypeId→Option (List Kd)):Nat→List Field→Option (List Kd)
 | _,[]=>some []
 | off,fd::l=>match f fd.type with
  | some ks=>match Nat.beq fd.offset off && Nat.beq ks.length (P.cellsOf fd.type),G2 P f (off+ks.length) l with
   | true,some r=>some (ks++r)
   | _,_=>none
  | none=>none
def Ys (P:Program):Nat→TypeId→Option (List Kd)
 | 0,_=>none
 | n+1,t=>match P.underlying t with
  | some (.int k)=>some [.int k]
  | some .bool=>some [.bool]
  | some .string=>some [.str]
  | some (.float k)=>some [.flt k]
  | some (.slice e)=>match Ys P n e,P.underlying e with
   | some ks,some (.struct _)=>match Nat.beq ks.length (P.cellsOf e) && Nat.blt 0 ks.length with
    | true=>some [.lst true ks]
    | false=>none
   | some ks,some (.array _ _)=>match Nat.beq ks.length (P.cellsOf e) && Nat.blt 0 ks.length with
    | true=>some [.lst true ks]
    | false=>none
   | some ks,some _=>match Nat.beq ks.length (P.cellsOf e) && Nat.beq 1 ks.length with
    | true=>some [.lst false ks]
    | false=>none
   | _,_=>none
  | some (.struct fs)=>match G2 P (Ys P n) 0 fs.toList with
   | some ks=>match Nat.beq ks.length (P.cellsOf t) with
    | true=>some ks
    | false=>none
   | none=>none
  | some (.array m e)=>match Ys P n e with
   | some ks=>match Nat.beq ks.length (P.cellsOf e) && Nat.beq (m * ks.length) (P.cellsOf t) with
    | true=>some (List.replicate m ks).flatten
    | false=>none
   | none=>none
  | _=>none
def Reads (W:World):List D→List Value→Prop
 | [],[]=>True
 | d::ds,v::vs=>(DR W (fun _=>False) d v∧one v=true)∧Reads W ds vs
 | _,_=>False
theorem Reads.append {W:World}:∀ {a:List D} {x:List Value} {b:List D} {y:List Value},Reads W a x→Reads W b y→Reads W (a++b) (x++y)
 | [],[],_,_,_,h=>h
 | _::_,_::_,_,_,h,k=>⟨h.1,Reads.append h.2 k⟩
 | [],_::_,_,_,h,_=>h.elim
 | _::_,[],_,_,h,_=>h.elim
theorem Reads.len {W:World}:∀ {a:List D} {x:List Value},Reads W a x→a.length=x.length
 | [],[],_=>rfl
 | _::_,_::_,h=>by simp [Reads.len h.2]
 | [],_::_,h=>h.elim
 | _::_,[],h=>h.elim
theorem Reads.at {W:World}:∀ {a:List D} {x:List Value},Reads W a x→∀ (i:Nat) (d:D) (v:Value),a[i]?=some d→x[i]?=some v→DR W (fun _=>False) d v∧one v=true
 | [],[],_,i,d,v,h,_=>by simp at h
 | _::_,_::_,hh,0,d,v,h,k=>by simp at h k;subst h;subst k;exact hh.1
 | _::_,_::_,hh,i+1,d,v,h,k=>Reads.at hh.2 i d v (by simpa using h) (by simpa using k)
 | [],_::_,h,_,_,_,_,_=>h.elim
 | _::_,[],h,_,_,_,_,_=>h.elim
theorem Em:∀ {a b:List Kd} {x y:List D},Kd.oks a x→Kd.oks b y→Kd.oks (a++b) (x++y)
 | [],_,x,y,h,k=>by unfold Kd.oks at h;subst h;exact k
 | q::a,b,x,y,h,k=>by
  unfold Kd.oks at h
  obtain ⟨d,r,rfl,h1,h2⟩:=h
  show Kd.oks (q::(a++b)) (d::(r++y))
  unfold Kd.oks
  exact ⟨d,r++y,rfl,h1,Em h2 k⟩
theorem KJ:∀ {a:List Kd} {x:List D},Kd.oks a x→x.length=a.length
 | [],x,h=>by unfold Kd.oks at h;subst h;rfl
 | q::a,x,h=>by
  unfold Kd.oks at h
  obtain ⟨d,r,rfl,h1,h2⟩:=h
  simp [KJ h2]
theorem QfG {k:Kd} {d:D} (h:Kd.ok k d):Kd.oks [k] [d]:=by
 unfold Kd.oks;exact ⟨d,[],rfl,h,by unfold Kd.oks;rfl⟩
section
variable {H:Type} {enc:TypeId×Value→H} {P:Program} {W:World} {base:Nat} {sp:Nat→Bool} {held:Bool}
theorem zA {W:World} {k:Kd} {d:D} {v:Value} (h1:Kd.ok k d) (h2:DR W (fun _=>False) d v) (h3:one v=true):∃ ds,Kd.oks [k] ds∧Reads W ds [v]:=⟨[d],QfG h1,⟨h2,h3⟩,trivial⟩
theorem wJ {f:TypeId→Option (List Kd)} {g:TypeId→List Value→Prop} (hf:∀ t cs ks,f t=some ks→g t cs→∃ ds,Kd.oks ks ds∧Reads W ds cs) {cs:List Value} :
  ∀ (fs:List Field) (off:Nat) (ks:List Kd),G2 P f off fs=some ks→(∀ fd,fd∈fs→g fd.type ((cs.drop fd.offset).take (P.cellsOf fd.type)))→cs.length=off+ks.length→∃ ds,Kd.oks ks ds∧Reads W ds (cs.drop off)
 | [],off,ks,h,_,hl=>by
  simp only [G2,Option.some.injEq] at h;subst h
  refine ⟨[],by unfold Kd.oks;rfl,?_⟩
  rw [List.drop_eq_nil_of_le (by simp at hl;omega)];trivial
 | fd::l,off,ks,h,hg,hl=>by
  unfold G2 at h
  split at h
  case h_2=>cases h
  rename_i k1 hk1
  split at h
  case h_2=>cases h
  rename_i r hb hr
  simp only [Option.some.injEq] at h;subst h
  simp only [Bool.and_eq_true,Nat.beq_eq] at hb
  obtain ⟨ds1,a1,b1⟩:=hf _ _ _ hk1 (hg fd List.mem_cons_self)
  rw [List.length_append] at hl
  obtain ⟨ds2,a2,b2⟩:=wJ hf l (off+k1.length) r hr (fun x hx=>hg x (List.mem_cons_of_mem _ hx)) (by omega)
  refine ⟨ds1++ds2,Em a1 a2,?_⟩
  have:=b1.append b2
  rw [hb.1,← hb.2,← List.drop_drop,List.take_append_drop] at this
  exact this
theorem kw {ks:List Kd} {cs:List Value} {m:Nat} (hf:∀ i,i < m→∃ ds,Kd.oks ks ds∧Reads W ds ((cs.drop (i * ks.length)).take ks.length)) (hl:cs.length=m * ks.length) :
  ∀ j,j≤m→∃ ds,Kd.oks (List.replicate j ks).flatten ds∧Reads W ds (cs.drop ((m - j) * ks.length))
 | 0,_=>by
  refine ⟨[],by unfold Kd.oks;rfl,?_⟩
  rw [List.drop_eq_nil_of_le (by simp [hl])];trivial
 | j+1,hj=>by
  obtain ⟨ds2,a2,b2⟩:=kw hf hl j (by omega)
  obtain ⟨ds1,a1,b1⟩:=hf (m - (j+1)) (by omega)
  refine ⟨ds1++ds2,by rw [List.replicate_succ,List.flatten_cons];exact Em a1 a2,?_⟩
  have e:(m - j) * ks.length=(m - (j+1)) * ks.length+ks.length:=by
   rw [show m - j=m - (j+1)+1 by omega,Nat.add_mul,Nat.one_mul]
  rw [e] at b2
  have:=b1.append b2
  rw [← List.drop_drop,List.take_append_drop] at this
  exact this
theorem zH {α β:Type} {f:α→Option β}:∀ {l:List α} {r:List β},l.mapM f=some r→∀ a,a∈l→∃ b,f a=some b
 | [],_,_,a,ha=>by cases ha
 | x::l,r,h,a,ha=>by
  simp only [List.mapM_cons,Option.bind_eq_bind,Option.bind_eq_some_iff,Option.pure_def,Option.some.injEq] at h
  obtain ⟨b,hb,r',hr',rfl⟩:=h
  rcases List.mem_cons.1 ha with rfl | ha
  ·exact ⟨b,hb⟩
  ·exact zH hr' a ha
theorem uG {fuel:Nat} {t:TypeId} {fs:Array Field} {cs:List Value} {x:DataW H×List MemPlace} (ht:P.underlying t=some (.struct fs)) (h:DataW.trod enc P W base sp held fuel t cs=some x) :
  ∃ n,fuel=n+1∧cs.length=P.cellsOf t∧∀ fd,fd∈fs.toList→∃ y,DataW.trod enc P W base sp held n fd.type ((cs.drop fd.offset).take (P.cellsOf fd.type))=some y:=by
 cases fuel with
 | zero=>simp [DataW.trod] at h
 | succ n =>
  refine ⟨n,rfl,?_⟩
  simp only [DataW.trod,ht] at h
  split at h
  case isFalse=>cases h
  rename_i hl
  simp only [Option.map_eq_some_iff] at h
  obtain ⟨r,hr,_⟩:=h
  exact ⟨hl,fun fd hfd=>zH hr fd hfd⟩
theorem QaO {fuel:Nat} {t e:TypeId} {m:Nat} {cs:List Value} {x:DataW H×List MemPlace} (ht:P.underlying t=some (.array m e)) (h:DataW.trod enc P W base sp held fuel t cs=some x) :
  ∃ n,fuel=n+1∧cs.length=P.cellsOf t∧∀ i,i < m→∃ y,DataW.trod enc P W base sp held n e ((cs.drop (i * P.cellsOf e)).take (P.cellsOf e))=some y:=by
 cases fuel with
 | zero=>simp [DataW.trod] at h
 | succ n =>
  refine ⟨n,rfl,?_⟩
  simp only [DataW.trod,ht] at h
  split at h
  case isFalse=>cases h
  rename_i hl
  simp only [Option.map_eq_some_iff] at h
  obtain ⟨r,hr,_⟩:=h
  exact ⟨hl,fun i hi=>zH hr i (by simpa using hi)⟩
theorem QaN {fuel:Nat} {t:TypeId} {k:FloatKind} {cs:List Value} {x:DataW H×List MemPlace} (ht:P.underlying t=some (.float k)) (h:DataW.trod enc P W base sp held fuel t cs=some x) :
  ∃ b,cs=[.float k b]∧(Lit.float k b).wf=true:=by
 cases fuel with
 | zero=>simp [DataW.trod] at h
 | succ n =>
  unfold DataW.trod at h
  rw [ht] at h
  split at h <;> simp_all
theorem Ee {agg:Bool} {ks:List Kd} {fuel:Nat} {t e:TypeId} {cs:List Value} {x:DataW H×List MemPlace} (ht:P.underlying t=some (.slice e)) (h:DataW.trod enc P W base sp held fuel t cs=some x)
  (hk:ks.length=P.cellsOf e) (hpos:0 < ks.length) (h1:agg=false→ks.length=1)
  (ih:∀ (n:Nat) (c:List Value) (y:DataW H×List MemPlace),DataW.trod enc P W base sp held n e c=some y→∃ ds,Kd.oks ks ds∧Reads W ds c) :
  ∃ ds,Kd.oks [.lst agg ks] ds∧Reads W ds cs:=by
 rcases DataW.trod_slice ht h with ⟨rfl,_⟩ | ⟨a,len,cap,elems,rest,n,_,rfl,_,hb,hl,hm,hlen,hel,_,_⟩
 ·refine zA (d:=.lst false ks.length []) ?_ ?_ rfl
  ·unfold Kd.ok;exact ⟨[],rfl,Nat.zero_le _,fun e he=>by cases he⟩
  ·exact .lst false ks.length [] none 0 0 0 (fun _=>.nilIface) (fun h=>by cases h) (Nat.le_refl _) (fun h=>absurd rfl h) (by simp) (by simp) (by simp)
 ·have each:∀ i,i < len→∃ ds c,Kd.oks ks ds∧Reads W ds c∧c.length=ks.length∧∀ j,j < ks.length→W.cell? ((a.add (i * ks.length)).add j)=c[j]?:=by
   intro i hi
   have h2:=hel i hi
   rw [List.getElem?_eq_getElem (by omega),← hk] at h2
   rw [Option.bind_eq_some_iff] at h2
   obtain ⟨c,hc,hy⟩:=h2
   obtain ⟨ds,d1,d2⟩:=ih _ _ _ hy
   refine ⟨ds,c,d1,d2,by rw [← d2.len,KJ d1],fun j hj=>?_⟩
   unfold World.cells? at hc
   split at hc
   case isFalse=>cases hc
   have hcl:c.length=ks.length:=by rw [← d2.len,KJ d1]
   obtain ⟨b,hb1,hb2⟩:=Lib.mapM_at hc j j (by simp [hj])
   rw [hb1,hb2]
  let ds (i:Nat):List D:=if hi:i < len then Classical.choose (each i hi) else []
  let mk (d:List D):D:=if agg then .agg d else d.headD (.v .nilIface)
  have hds:∀ i,i < len→∃ c,Kd.oks ks (ds i)∧Reads W (ds i) c∧c.length=ks.length∧∀ j,j < ks.length→W.cell? ((a.add (i * ks.length)).add j)=c[j]?:=by
   intro i hi
   have:=Classical.choose_spec (each i hi)
   simp only [ds,dif_pos hi];exact this
  have hleaf:∀ (k:Kd) (d:D),Kd.ok k d→d.cells=[d]:=by
   intro k d hd
   cases k <;> simp only [Kd.ok] at hd
   ·obtain ⟨n,rfl,_⟩:=hd;rfl
   ·obtain ⟨n,rfl⟩:=hd;rfl
   ·obtain ⟨n,rfl,_⟩:=hd;rfl
   ·obtain ⟨n,rfl,_⟩:=hd;rfl
   ·obtain ⟨n,rfl,_⟩:=hd;rfl
  have hmk:∀ i,i < len→(mk (ds i)).cells=ds i:=by
   intro i hi
   obtain ⟨c,c1,_⟩:=hds i hi
   simp only [mk]
   split
   ·rfl
   ·rename_i hag
    have h3:=h1 (by simpa using hag)
    have h4:=KJ c1
    rw [h3] at h4
    match hdi:ds i,h4 with
    | [d],_ =>
     rw [hdi] at c1
     match hks:ks,h3 with
     | [k],_ =>
      unfold Kd.oks at c1
      obtain ⟨d',r',e1,e2,e3⟩:=c1
      cases e1
      exact hleaf k d e2
  have ha:0 < len→a=⟨a.block,a.off,none⟩∧a.block < W.heap.size:=by
   intro h0
   obtain ⟨c,c1,c2,c3,c4⟩:=hds 0 h0
   have h5:=c4 0 hpos
   rw [List.getElem?_eq_getElem (by omega)] at h5
   have e0:(a.add (0 * ks.length)).add 0=a:=by simp [Addr.add]
   rw [e0] at h5
   unfold World.cell? at h5
   split at h5
   ·rename_i q1 q2 q3 hheap
    split at h5
    ·cases h5
    ·rename_i hs
     refine ⟨?_,?_⟩
     ·revert hs
      obtain ⟨b,o,s⟩:=a
      cases s with
      | none=>intro _;rfl
      | some s=>intro hs;exact absurd rfl hs
     ·rcases Nat.lt_or_ge a.block W.heap.size with h | h
      ·exact h
      ·have:W.heap[a.block]?=some _:=hheap
       rw [Array.getElem?_eq_none h] at this;cases this
   ·cases h5
  have hcell:∀ (i j:Nat) (c:D),i < len→(ds i)[j]?=some c→∃ v,W.cell? ⟨a.block,a.off+(i * ks.length+j),none⟩=some v∧DR W (fun _=>False) c v∧one v=true:=by
   intro i j c hi hj
   obtain ⟨c',c1,c2,c3,c4⟩:=hds i hi
   have hjl:j < (ds i).length:=(List.getElem?_eq_some_iff.1 hj).1
   rw [KJ c1] at hjl
   have h6:=c4 j hjl
   have hv:c'[j]?=some (c'[j]'(by omega)):=List.getElem?_eq_getElem (by omega)
   rw [hv] at h6
   refine ⟨_,?_,c2.at j _ _ hj hv⟩
   have e:(a.add (i * ks.length)).add j=⟨a.block,a.off+(i * ks.length+j),none⟩:=by
    rw [(ha (by omega)).1,Go.SX.add_at,Go.SX.add_at,Nat.add_assoc]
   rw [← h6,e]
  refine zA (d:=.lst false ks.length ((List.range len).map fun i=>mk (ds i))) ?_ ?_ rfl
  ·unfold Kd.ok
   refine ⟨_,rfl,by simp;omega,fun e he=>?_⟩
   simp only [List.mem_map,List.mem_range] at he
   obtain ⟨i,hi,rfl⟩:=he
   obtain ⟨c,c1,_⟩:=hds i hi
   cases agg with
   | true=>exact ⟨ds i,rfl,c1⟩
   | false =>
    have h3:=h1 rfl
    have h4:=KJ c1
    rw [h3] at h4
    simp only [mk]
    match hdi:ds i,h4 with
    | [d],_=>rw [hdi] at c1;exact c1
  ·have key:=DR.lst (w:=W) (M:=fun _=>False) false ks.length ((List.range len).map fun i=>mk (ds i)) (some a) cap a.block a.off (fun k=>(W.cell? ⟨a.block,a.off+k,none⟩).getD .nilIface)
    (fun h=>by cases h) (by simp;omega)
    (fun hne=>by
     have h0:0 < len:=by
      rcases Nat.eq_zero_or_pos len with h | h
      ·subst h;simp at hne
      ·exact h
     exact ⟨by rw [← (ha h0).1],fun h=>h,(ha h0).2⟩)
    (fun i e he=>by
     rw [List.getElem?_map] at he
     simp only [Option.map_eq_some_iff] at he
     obtain ⟨k,hk1,rfl⟩:=he
     obtain ⟨hk2,rfl⟩:=List.getElem?_eq_some_iff.1 hk1
     simp only [List.length_range] at hk2
     simp only [List.getElem_range]
     obtain ⟨c,c1,_⟩:=hds i hk2
     rw [hmk i hk2,KJ c1])
    (fun i e j c he hj=>by
     rw [List.getElem?_map] at he
     simp only [Option.map_eq_some_iff] at he
     obtain ⟨k,hk1,rfl⟩:=he
     obtain ⟨hk2,rfl⟩:=List.getElem?_eq_some_iff.1 hk1
     simp only [List.length_range] at hk2
     simp only [List.getElem_range] at hj
     rw [hmk i hk2] at hj
     obtain ⟨v,v1,v2,v3⟩:=hcell i j c hk2 hj
     simp only [v1,Option.getD_some]
     exact ⟨trivial,v3⟩)
    (fun i e j c he hj=>by
     rw [List.getElem?_map] at he
     simp only [Option.map_eq_some_iff] at he
     obtain ⟨k,hk1,rfl⟩:=he
     obtain ⟨hk2,rfl⟩:=List.getElem?_eq_some_iff.1 hk1
     simp only [List.length_range] at hk2
     simp only [List.getElem_range] at hj
     rw [hmk i hk2] at hj
     obtain ⟨v,v1,v2,v3⟩:=hcell i j c hk2 hj
     simp only [v1,Option.getD_some]
     exact v2)
   simpa using key
theorem UL:∀ (d:Nat) (fuel:Nat) (t:TypeId) (cs:List Value) (x:DataW H×List MemPlace) (ks:List Kd),Ys P d t=some ks→DataW.trod enc P W base sp held fuel t cs=some x→∃ ds,Kd.oks ks ds∧Reads W ds cs
 | 0,_,_,_,_,_,h,_=>by cases h
 | d+1,fuel,t,cs,x,ks,h,hx=>by
  unfold Ys at h
  split at h
  ·rename_i k ht
   cases h
   obtain ⟨n,rfl,_,hw⟩:=DataW.trod_int ht hx
   simp only [Lit.wf,Bool.and_eq_true,decide_eq_true_eq] at hw
   exact zA (by unfold Kd.ok;exact ⟨n,rfl,hw⟩) (.v _) rfl
  ·rename_i ht
   cases h
   obtain ⟨b,rfl,_⟩:=DataW.trod_bool ht hx
   exact zA (by unfold Kd.ok;exact ⟨b,rfl⟩) (.v _) rfl
  ·rename_i ht
   cases h
   obtain ⟨s,rfl,_,hs⟩:=DataW.trod_string ht hx
   exact zA (by unfold Kd.ok;exact ⟨s,rfl,hs⟩) (.v _) rfl
  ·rename_i k ht
   cases h
   obtain ⟨b,rfl,hw⟩:=QaN ht hx
   exact zA (by unfold Kd.ok;exact ⟨b,rfl,hw⟩) (.v _) rfl
  ·rename_i e ht
   split at h
   ·rename_i k1 _ hk1 _
    split at h
    case h_2=>cases h
    rename_i hb
    cases h
    simp only [Bool.and_eq_true,Nat.beq_eq,Nat.blt_eq] at hb
    exact Ee ht hx hb.1 hb.2 (fun h=>by cases h) fun n c y hy=>UL d n e c y _ hk1 hy
   ·rename_i k1 _ _ hk1 _
    split at h
    case h_2=>cases h
    rename_i hb
    cases h
    simp only [Bool.and_eq_true,Nat.beq_eq,Nat.blt_eq] at hb
    exact Ee ht hx hb.1 hb.2 (fun h=>by cases h) fun n c y hy=>UL d n e c y _ hk1 hy
   ·rename_i k1 _ _ _ hk1 _
    split at h
    case h_2=>cases h
    rename_i hb
    cases h
    simp only [Bool.and_eq_true,Nat.beq_eq] at hb
    exact Ee ht hx hb.1 (by omega) (fun _=>hb.2.symm) fun n c y hy=>UL d n e c y _ hk1 hy
   ·cases h
  ·rename_i fs ht
   split at h
   case h_2=>cases h
   rename_i k1 hk1
   split at h
   case h_2=>cases h
   rename_i hb
   cases h
   simp only [Nat.beq_eq] at hb
   obtain ⟨n,rfl,hl,hf⟩:=uG ht hx
   have:=wJ (P:=P) (W:=W) (f:=Ys P d) (g:=fun t cs=>∃ y,DataW.trod enc P W base sp held n t cs=some y) (fun t cs ks h1 h2=>by
    obtain ⟨y,hy⟩:=h2
    exact UL d n t cs y ks h1 hy) fs.toList 0 _ hk1 hf (by omega)
   rwa [List.drop_zero] at this
  ·rename_i m e ht
   split at h
   case h_2=>cases h
   rename_i k1 hk1
   split at h
   case h_2=>cases h
   rename_i hb
   cases h
   simp only [Bool.and_eq_true,Nat.beq_eq] at hb
   obtain ⟨n,rfl,hl,hf⟩:=QaO ht hx
   have:=kw (W:=W) (ks:=k1) (cs:=cs) (m:=m) (fun i hi=>by
    obtain ⟨y,hy⟩:=hf i hi
    rw [← hb.1] at hy
    exact UL d n e _ y _ hk1 hy) (by omega) m (Nat.le_refl _)
   rwa [Nat.sub_self,Nat.zero_mul,List.drop_zero] at this
  ·cases h
end
set_option maxRecDepth 20000
open Go.WideShapes Go.ChangeShapes
def Qdi (P:Program) (t:TypeId):Prop:=∃ d ks,Ys P d t=some ks
theorem qj {P:Program} {f:TypeId→Option (List Kd)}:∀ (fs:List Field) (off:Nat) (ks:List Kd),G2 P f off fs=some ks →
  (∀ fd,fd∈fs→∃ k,f fd.type=some k)∧ks.length=(fs.map fun fd=>P.cellsOf fd.type).sum∧∀ (j:Nat) fd,fs[j]?=some fd→fd.offset=off+((fs.take j).map fun fd=>P.cellsOf fd.type).sum
 | [],off,ks,h=>by
  simp only [G2,Option.some.injEq] at h;subst h
  exact ⟨fun _ h=>(by cases h),rfl,fun j fd h=>(by simp at h)⟩
 | fd::l,off,ks,h=>by
  unfold G2 at h
  split at h
  case h_2=>cases h
  rename_i k1 hk1
  split at h
  case h_2=>cases h
  rename_i r hb hr
  simp only [Option.some.injEq] at h;subst h
  simp only [Bool.and_eq_true,Nat.beq_eq] at hb
  obtain ⟨a,b,c⟩:=qj l _ r hr
  refine ⟨fun x hx=>?_,?_,fun j x hj=>?_⟩
  ·rcases List.mem_cons.1 hx with rfl | hx
   ·exact ⟨_,hk1⟩
   ·exact a x hx
  ·simp [b,hb.2]
  ·cases j with
   | zero=>simp at hj;subst hj;simp [hb.1]
   | succ j =>
    have:=c j x (by simpa using hj)
    simp only [List.take_succ_cons,List.map_cons,List.sum_cons]
    rw [this,hb.2];omega
theorem Qca (P:Program):Kids P (Qdi P) where
 pointer:=fun {t e} h ht=>by
  obtain ⟨d,ks,h⟩:=h
  cases d with
  | zero=>cases h
  | succ d=>unfold Ys at h;rw [ht] at h;cases h
 slice:=fun {t e} h ht=>by
  obtain ⟨d,ks,h⟩:=h
  cases d with
  | zero=>cases h
  | succ d =>
   unfold Ys at h;rw [ht] at h;simp only at h
   cases hk:Ys P d e with
   | none=>rw [hk] at h;simp at h
   | some k=>exact ⟨d,k,hk⟩
 array:=fun {t e n} h ht=>by
  obtain ⟨d,ks,h⟩:=h
  cases d with
  | zero=>cases h
  | succ d =>
   unfold Ys at h;rw [ht] at h;simp only at h
   split at h
   case h_2=>cases h
   rename_i k1 hk1
   split at h
   case h_2=>cases h
   rename_i hb
   simp only [Bool.and_eq_true,Nat.beq_eq] at hb
   exact ⟨⟨d,_,hk1⟩,by rw [← hb.2,hb.1]⟩
 struct:=fun {t fs} h ht=>by
  obtain ⟨d,ks,h⟩:=h
  cases d with
  | zero=>cases h
  | succ d =>
   unfold Ys at h;rw [ht] at h;simp only at h
   split at h
   case h_2=>cases h
   rename_i k1 hk1
   split at h
   case h_2=>cases h
   rename_i hb
   simp only [Nat.beq_eq] at hb
   obtain ⟨a,b,c⟩:=qj _ _ _ hk1
   exact ⟨fun f hf=>by obtain ⟨k,hk⟩:=a f hf;exact ⟨d,k,hk⟩,by rw [← hb,b],fun j f hj=>by rw [c j f hj,Nat.zero_add]⟩
 map:=fun {t k e} h ht=>by
  obtain ⟨d,ks,h⟩:=h
  cases d with
  | zero=>cases h
  | succ d=>unfold Ys at h;rw [ht] at h;cases h
theorem Qdz {P:Program} {t e:TypeId} (h:Qdi P t) (ht:P.underlying t=some (.slice e)):0 < P.cellsOf e:=by
 obtain ⟨d,ks,h⟩:=h
 cases d with
 | zero=>cases h
 | succ d =>
  unfold Ys at h;rw [ht] at h;simp only at h
  split at h
  ·split at h
   case h_2=>cases h
   rename_i hb
   simp only [Bool.and_eq_true,Nat.beq_eq,Nat.blt_eq] at hb
   omega
  ·split at h
   case h_2=>cases h
   rename_i hb
   simp only [Bool.and_eq_true,Nat.beq_eq,Nat.blt_eq] at hb
   omega
  ·split at h
   case h_2=>cases h
   rename_i hb
   simp only [Bool.and_eq_true,Nat.beq_eq] at hb
   omega
  ·cases h
def G3 (P:Program) (t:TypeId):Bool:=match P.underlying t with
 | some (.struct _)=>true
 | some (.array _ _)=>true
 | _=>false
def okA:Bool×List Kd→D→Prop
 | (true,ks),d=>∃ cs,d=.agg cs∧Kd.oks ks cs
 | (false,ks),d=>Kd.oks ks [d]
def okAs:List (Bool×List Kd)→List D→Prop
 | [],ds=>ds=[]
 | k::r,ds=>∃ d l,ds=d::l∧okA k d∧okAs r l
def V4 (P:Program):List TypeId→Option (List (Bool×List Kd))
 | []=>some []
 | t::ts=>match Ys P 12 t,V4 P ts with
  | some ks,some r=>match G3 P t || Nat.beq ks.length 1 with
   | true=>some ((G3 P t,ks)::r)
   | false=>none
  | _,_=>none
section
variable {H:Type} {enc:TypeId×Value→H} {P:Program} {W:World} {base:Nat} {sp:Nat→Bool} {held:Bool}
theorem Qdt {r:Reach} {b0:Nat} {t:TypeId} {v:Value} {ks:List Kd} (hk:Ys P 12 t=some ks) (hval:Value.okWide P W r b0 t v) (ha:G3 P t=false):v.cells=#[v]:=by
 unfold Ys at hk
 unfold G3 at ha
 split at hk
 ·rename_i k ht;obtain ⟨n,rfl⟩:=okWide_int ht hval;rfl
 ·rename_i ht;obtain ⟨n,rfl⟩:=okWide_bool ht hval;rfl
 ·rename_i ht;obtain ⟨n,rfl⟩:=okWide_string ht hval;rfl
 ·rename_i k ht
  rw [Value.okWide,ht] at hval
  cases v <;> simp_all [Cell.okWide,Cell.ok,Value.cells]
 ·rename_i e ht;obtain ⟨a,l,c,rfl⟩:=okWide_slice ht hval;rfl
 ·rename_i ht;rw [ht] at ha;cases ha
 ·rename_i ht;rw [ht] at ha;cases ha
 ·cases hk
theorem Qce {r:Reach} {b0:Nat} {t:TypeId} {v:Value} {d:DataW H} {p:List MemPlace} {ks:List Kd} (hk:Ys P 12 t=some ks) (hval:Value.okWide P W r b0 t v) (hd:DataW.Trod enc P W base sp held t v d p) (h1:(G3 P t || Nat.beq ks.length 1)=true) :
  ∃ x,okA (G3 P t,ks) x∧DR W (fun _=>False) x v:=by
 obtain ⟨fuel,hf⟩:=hd
 obtain ⟨ds,a,b⟩:=UL 12 fuel t _ _ ks hk hf
 cases hag:G3 P t with
 | true =>
  have hv:∃ cs,v=.agg cs:=by
   unfold G3 at hag
   unfold Value.okWide at hval
   split at hag
   ·rename_i ht;rw [ht] at hval;obtain ⟨cs,h,_⟩:=hval;exact ⟨cs,h⟩
   ·rename_i ht;rw [ht] at hval;obtain ⟨cs,h,_⟩:=hval;exact ⟨cs,h⟩
   ·cases hag
  obtain ⟨cs,rfl⟩:=hv
  have hc:(Value.agg cs).cells.toList=cs.toList:=rfl
  rw [hc] at b
  have:=DR.agg (w:=W) (M:=fun _=>False) ds cs.toList b.len (fun i c y hc hy=>(b.at i c y hc hy).1)
  exact ⟨.agg ds,⟨ds,rfl,a⟩,by simpa using this⟩
 | false =>
  have hs:=Qdt hk hval hag
  rw [hs] at b
  rw [hag] at h1
  simp only [Bool.false_or,Nat.beq_eq] at h1
  have hl:=KJ a
  rw [h1] at hl
  match ds,hl with
  | [x],_=>exact ⟨x,a,(b.at 0 x v rfl rfl).1⟩
theorem ux {r:Reach} {b0:Nat}:∀ {ts:List TypeId} {vs:List Value} {ds:List (DataW H)} {p:List MemPlace} {pk:List (Bool×List Kd)},DataW.TrodAll enc P W base sp held ts vs ds p→V4 P ts=some pk →
  (∀ (j:Nat) t v,ts[j]?=some t→vs[j]?=some v→Value.okWide P W r b0 t v)→∃ Ds:List D,okAs pk Ds∧Ds.length=vs.length∧∀ (i:Nat) (c:D) (y:Value),Ds[i]?=some c→vs[i]?=some y→DR W (fun _=>False) c y
 | [],vs,ds,p,pk,h,hk,_=>by
  obtain ⟨rfl,rfl,rfl⟩:=trodAll_nil h
  cases hk
  exact ⟨[],rfl,rfl,fun i c y h=>by simp at h⟩
 | t::ts,vs,ds,p,pk,h,hk,hv=>by
  obtain ⟨v,vs',d,ds',a,b,rfl,rfl,rfl,h1,h2⟩:=trodAll_cons h
  unfold V4 at hk
  split at hk
  case h_2=>cases hk
  rename_i ks r hks hr
  split at hk
  case h_2=>cases hk
  rename_i hb
  cases hk
  obtain ⟨x,x1,x2⟩:=Qce hks (hv 0 t v rfl rfl) h1 hb
  obtain ⟨Ds,y1,y2,y3⟩:=ux h2 hr (fun j t v h k=>hv (j+1) t v (by simpa using h) (by simpa using k))
  refine ⟨x::Ds,⟨x,Ds,rfl,x1,y1⟩,by simp [y2],fun i c y hc hy=>?_⟩
  cases i with
  | zero=>simp at hc hy;subst hc;subst hy;exact x2
  | succ i=>exact y3 i c y (by simpa using hc) (by simpa using hy)
theorem kK:∀ {ts:List TypeId} {pk:List (Bool×List Kd)},V4 P ts=some pk→∀ t,t∈ts→Qdi P t
 | [],_,_,t,h=>by cases h
 | t::ts,pk,hk,u,hu=>by
  unfold V4 at hk
  split at hk
  case h_2=>cases hk
  rename_i ks r hks hr
  rcases List.mem_cons.1 hu with rfl | hu
  ·exact ⟨_,_,hks⟩
  ·exact kK hr u hu
theorem uw {W' : World} {sp' : Nat→Bool}:∀ {ts:List TypeId} {vs:List Value} {ds:List (DataW H)} {p:List MemPlace},DataW.TrodAll enc P W base (fun _=>true) true ts vs ds p→(∀ t,t∈ts→Qdi P t) →
  (∀ q,q∈p→W.sameAt W' q)→(∀ q,q∈p→sp' q.block=true)→DataW.TrodAll enc P W' base sp' true ts vs ds p
 | [],vs,ds,p,h,_,_,_=>by
  obtain ⟨rfl,rfl,rfl⟩:=trodAll_nil h
  exact rfl
 | t::ts,vs,ds,p,h,hp,h3,h4=>by
  obtain ⟨v,vs',d,ds',a,b,rfl,rfl,rfl,⟨fuel,h1⟩,h2⟩:=trodAll_cons h
  exact ⟨a,b,⟨fuel,DataW.trod_stays (Qca P) (fun ht hu=>Qdz ht hu) (fun h=>by cases h) (hp t List.mem_cons_self) h1 (fun q hq=>h3 q (List.mem_append_left _ hq)) (fun q hq=>h4 q (List.mem_append_left _ hq))⟩,
   uw h2 (fun t ht=>hp t (List.mem_cons_of_mem _ ht)) (fun q hq=>h3 q (List.mem_append_right _ hq)) (fun q hq=>h4 q (List.mem_append_right _ hq)),rfl⟩
end
theorem Qd2 {w w' : World} (h:Ext w (fun _=>False) w'):Below w.heap.size w w':=⟨h.os,h.tape,h.output,h.size,fun r hr=>h.same r hr (fun h=>h)⟩
theorem uO {W W' : World} (h:Below W.heap.size W W') {p:MemPlace} (hp:p.block < W.heap.size):W.sameAt W' p:=by
 cases p with
 | cell b off =>
  show W'.cell? ⟨b,off,none⟩=W.cell? ⟨b,off,none⟩
  unfold World.cell?
  rw [h.block b hp]
 | map b=>exact h.block b hp
theorem Qdq {H:Type} {enc:TypeId×Value→H} {P:Program} {w:World} {base:Nat} {sp:Nat→Bool} {held:Bool} {t:TypeId} (ht:P.underlying t=some .bool):DataW.Trod enc P w base sp held t (.bool true) (.lit (.bool true)) [] :=
 ⟨1,by simp [DataW.trod,Value.cells,ht]⟩
theorem QbK {f:FuncId} {fn:Func} {spec:ChangeSpec} {pk:List (Bool×List Kd)} {bt:TypeId} (hpk:V4 Tryz.prog fn.params.toList=some pk)
  (hb:Tryz.prog.underlying bt=some .bool) (hres:fn.resultTypes=#[bt]) (hvars:spec.vars=[])
  (hspec:∀ (H:Type) (ds:List (DataW H)),ds.length=fn.params.size→spec.fn H ds={ results:=[.lit (.bool true)],args:=ds })
  (hlaw:∀ Ds,okAs pk Ds→Computes cx f Ds (.v (.bool true)))
  (H:Type) (enc:TypeId×Value→H) (W:World) (base:Nat) (args:Array Value) (ds gs:List (DataW H)) (before:List MemPlace)
  (hval:∀ (j:Nat) t v,fn.params[j]?=some t→args[j]?=some v→Value.okWide Tryz.prog W .any base t v)
  (hW:DataW.Whole enc Tryz.prog fn.params.toList spec.vars false W args.toList ds gs before)
  (hG:∀ g x,cx.G g=some x→GAt W (fun _=>False) g x) :
  Calls Tryz.prog f args W fun e W'=>∃ v,e=.returned v∧spec.post enc Tryz.prog fn false true false false W args v W':=by
 have hW':=hW
 obtain ⟨p,q,hA,hV,rfl,hfz,hnd⟩:=hW
 rw [hvars] at hV
 obtain ⟨rfl,rfl⟩:=trodVars_none hV
 have hval' : ∀ (j:Nat) t v,fn.params.toList[j]?=some t→args.toList[j]?=some v→Value.okWide Tryz.prog W .any base t v:=by
  intro j t v hj hv
  rw [Array.getElem?_toList] at hj hv
  exact hval j t v hj hv
 obtain ⟨Ds,h1,h2,h3⟩:=ux (H:=H) (enc:=enc) (P:=Tryz.prog) (W:=W) (base:=0) (sp:=fun _=>true) (held:=true) (r:=.any) (b0:=base) (ts:=fn.params.toList) (vs:=args.toList) hA hpk hval'
 have hc:=hlaw Ds h1 W (fun _=>False) args.toList (fun _ h=>h.elim) hG h2 h3
 rw [Array.toArray_toList] at hc
 refine hc.mono fun e W' ⟨y,he,hy,hx⟩=>⟨y,he,?_⟩
 have hyt:=dr_v hy
 subst hyt
 have hbl:=Qd2 hx
 have hlt:=hW'.lt
 have hlen:ds.length=fn.params.size:=by
  have:∀ {ts:List TypeId} {vs:List Value} {ds:List (DataW H)} {p:List MemPlace},DataW.TrodAll enc Tryz.prog W 0 (fun _=>true) true ts vs ds p→ds.length=ts.length:=by
   intro ts
   induction ts with
   | nil=>intro vs ds p h;obtain ⟨rfl,rfl,rfl⟩:=trodAll_nil h;rfl
   | cons t ts ih=>intro vs ds p h;obtain ⟨v,vs',d,ds',a,b,rfl,rfl,rfl,_,h2⟩:=trodAll_cons h;simp [ih h2]
  exact (this hA).trans Array.length_toList
 have hsp:=hspec H (ds++[]) (by rw [List.append_nil];exact hlen)
 refine ⟨ds,[],p++[],[],p,[],hW',?_,?_,?_,hbl.frame _,fun h=>by cases h⟩
 ·rw [hsp,hres]
  exact trodAll_mk1 (Qdq hb)
 ·rw [hsp]
  simp only [List.append_nil]
  exact uw hA (kK hpk) (fun q hq=>uO hbl (hlt q (List.mem_append_left _ hq))) (fun q hq=>decide_eq_true (hlt q (List.mem_append_left _ hq)))
 ·rw [hsp,hvars]
  rfl
theorem Qcf {k:Bool×List Kd} {r:List (Bool×List Kd)} {Ds:List D} (h:okAs (k::r) Ds):∃ d l,Ds=d::l∧okA k d∧okAs r l:=h
theorem Qgs {Ds:List D} (h:okAs [] Ds):Ds=[]:=h
theorem QeC {ks:List Kd} {d:D} (h:okA (true,ks) d):∃ cs,d=.agg cs∧Kd.oks ks cs:=h
theorem X4 {k:Kd} {ks:List Kd} {ds:List D} (h:Kd.oks (k::ks) ds):∃ d r,ds=d::r∧Kd.ok k d∧Kd.oks ks r:=by unfold Kd.oks at h;exact h
theorem QeB {ds:List D} (h:Kd.oks [] ds):ds=[]:=by unfold Kd.oks at h;exact h
theorem QgP {k:Kd} {d:D} (h:Kd.oks [k] [d]):Kd.ok k d:=by
 obtain ⟨d',r,h1,h2,_⟩:=X4 h
 cases h1;exact h2
theorem ok_i {k:IntKind} {d:D} (h:Kd.ok (.int k) d):∃ n,d=.v (.int k n)∧k.min≤n∧n≤k.max:=by unfold Kd.ok at h;exact h
theorem Qf5 {k:FloatKind} {d:D} (h:Kd.ok (.flt k) d):∃ b,d=.v (.float k b)∧(Lit.float k b).wf=true:=by unfold Kd.ok at h;exact h
theorem Qf4 {k:Kd} {d:D} (h:Kd.ok (.lst false [k]) d):∃ es,d=.lst false 1 es∧es.length≤maxLen∧∀ e,e∈es→Kd.ok k e:=by
 unfold Kd.ok at h
 obtain ⟨es,h1,h2,h3⟩:=h
 exact ⟨es,h1,h2,fun e he=>QgP (h3 e he)⟩
theorem Qcq {α:Type} {enc:α→D} {p:α→Prop}:∀ {es:List D},(∀ e,e∈es→∃ x,e=enc x∧p x)→∃ xs:List α,es=xs.map enc∧∀ x,x∈xs→p x
 | [],_=>⟨[],rfl,fun x hx=>by cases hx⟩
 | e::es,h=>by
  obtain ⟨x,rfl,hx⟩:=h e List.mem_cons_self
  obtain ⟨xs,rfl,hxs⟩:=Qcq (es:=es) fun y hy=>h y (List.mem_cons_of_mem _ hy)
  refine ⟨x::xs,rfl,fun y hy=>?_⟩
  rcases List.mem_cons.1 hy with rfl | hy
  ·exact hx
  ·exact hxs y hy
theorem Qc9 {n:Int} (h:IntKind.i64.min≤n∧n≤IntKind.i64.max):Qb n:=h
theorem u8_b {n:Int} (h:IntKind.u8.min≤n∧n≤IntKind.u8.max):0≤n∧n≤255:=h
theorem Qc8 {P:Program} {w:World} {n:String} {d:DataW Unit}:∀ {l:List (String×DataW Unit)} {ps:List MemPlace} (i:Nat),DataW.LaidVars P w l ps→l[i]?=some (n,d) →
  ∃ g t cs fuel p,P.globalNamed n=some g∧(P.globals[g]?).map (·.type)=some t∧w.var? P n=some cs∧DataW.trod (fun _=>()) P w 0 (fun _=>true) false fuel t cs.toList=some (d,p)
 | [],_,i,_,hi=>by simp at hi
 | (m,e)::r,ps,0,h,hi=>by
  simp only [List.getElem?_cons_zero,Option.some.injEq,Prod.mk.injEq] at hi
  obtain ⟨rfl,rfl⟩:=hi
  obtain ⟨g,t,cs,fuel,p,q,h1,h2,h3,h4,_,_⟩:=h
  exact ⟨g,t,cs,fuel,p,h1,h2,h3,h4⟩
 | (m,e)::r,ps,i+1,h,hi=>by
  obtain ⟨g,t,cs,fuel,p,q,h1,h2,h3,h4,h5,_⟩:=h
  exact Qc8 i h5 (by simpa using hi)
theorem yS {α:Type} {n:Nat}:∀ (m:Nat) (cs:List α) (zss:List (List α)),zss.length=m→cs.length=m * n→(∀ i z,zss[i]?=some z→(cs.drop (i * n)).take n=z)→cs=zss.flatten
 | 0,cs,zss,hz,hc,_=>by
  rw [Nat.zero_mul] at hc
  rw [List.eq_nil_of_length_eq_zero hc,List.eq_nil_of_length_eq_zero hz];rfl
 | m+1,cs,zss,hz,hc,h=>by
  match zss,hz with
  | z::r,hz =>
   have h0:=h 0 z rfl
   rw [Nat.zero_mul,List.drop_zero] at h0
   have ih:=yS (n:=n) m (cs.drop n) r (by simpa using hz) (by simp [hc,Nat.add_mul]) (fun i y hi=>by
    have:=h (i+1) y (by simpa using hi)
    rw [List.drop_drop,Nat.add_comm n,← Nat.succ_mul]
    exact this)
   rw [List.flatten_cons,← ih,← h0,List.take_append_drop]
theorem QgA {P:Program} {W:World} {name:String} {g:Nat} {k:IntKind} {zs:List Int} (hg:P.globalNamed name=some g) (h:W.var? P name=some (zs.map fun z=>Value.int k z).toArray) :
  GAt W (fun _=>False) g (.agg (zs.map fun z=>.v (.int k z))):=by
 have hc:=World.var?_cell hg h
 unfold World.var? at h
 rw [hg,Option.bind_some] at h
 split at h
 case h_2=>cases h
 rename_i cs t fz hh
 simp only [Option.some.injEq] at h
 refine ⟨⟨fun h=>h,?_,fun j c hj=>?_⟩,cs,t,fz,hh,by rw [h];simp [D.cells]⟩
 ·rcases Nat.lt_or_ge g W.heap.size with h | h
  ·exact h
  ·rw [Array.getElem?_eq_none h] at hh;cases hh
 ·have hj' : (zs.map fun z=>D.v (.int k z))[j]?=some c:=hj
  rw [List.getElem?_map] at hj'
  obtain ⟨z,hz,rfl⟩:=Option.map_eq_some_iff.1 hj'
  refine ⟨.int k z,?_,.v _⟩
  rw [Nat.zero_add,hc j]
  simp [hz]
def yU (P:Program) (k:IntKind):Nat→List Field→Bool
 | _,[]=>true
 | i,f::l=>Nat.beq f.offset i && Nat.beq (P.cellsOf f.type) 1 && (match P.underlying f.type with | some (.int k')=>decide (k'=k) | _=>false) && yU P k (i+1) l
theorem Qa6 {P:Program} {k:IntKind}:∀ {l:List Field} {n:Nat},yU P k n l=true→∀ (i:Nat) (f:Field),l[i]?=some f→f.offset=n+i∧P.cellsOf f.type=1∧P.underlying f.type=some (.int k)
 | [],n,_,i,f,h=>by simp at h
 | g::l,n,hr,i,f,h=>by
  simp only [yU,Bool.and_eq_true] at hr
  obtain ⟨⟨⟨h1,h2⟩,h3⟩,h4⟩:=hr
  cases i with
  | zero =>
   simp only [List.getElem?_cons_zero,Option.some.injEq] at h
   subst h
   refine ⟨Nat.eq_of_beq_eq_true h1,Nat.eq_of_beq_eq_true h2,?_⟩
   split at h3
   ·rename_i k' hk
    rw [hk,of_decide_eq_true h3]
   ·cases h3
  | succ i =>
   have:=Qa6 h4 i f (by simpa using h)
   exact ⟨by omega,this.2⟩
theorem Qas {H:Type} {enc:TypeId×Value→H} {P:Program} {w:World} {base:Nat} {sp:Nat→Bool} {held:Bool} {fuel:Nat} {t:TypeId} {fs:Array Field} {k:IntKind} {cs:List Value} {zs:List Int} {p:List MemPlace}
  (ht:P.underlying t=some (.struct fs)) (hf:yU P k 0 fs.toList=true) (hct:P.cellsOf t=fs.size)
  (h:DataW.trod enc P w base sp held fuel t cs=some (Lib.tabData k zs,p)):cs=zs.map fun z=>Value.int k z:=by
 obtain ⟨xs,n,_,hx,hl,hlen,hat⟩:=DataW.trod_struct ht h
 have hxs:xs.map (·.1)=zs.map fun z=>(DataW.lit (.int k z):DataW H):=by
  have:=(congrArg Prod.fst hx).symm
  simpa [Lib.tabData] using this
 have hzl:zs.length=xs.length:=by
  have:=congrArg List.length hxs
  simp at this
  omega
 apply List.ext_getElem?
 intro i
 by_cases hi:i < fs.size
 ·have hfi:fs[i]?=some fs[i]:=by simp [hi]
  obtain ⟨o1,o2,o3⟩:=Qa6 hf i fs[i] (by simp [hi])
  have hb:=hat i _ hfi
  have hxi:xs[i]?=some xs[i]:=by simp [hlen,hi]
  rw [hxi] at hb
  obtain ⟨z,hc,hz,_⟩:=DataW.trod_int o3 hb
  rw [o2,o1] at hc
  have h1:cs[i]?=some (.int k z):=by
   have:=congrArg (·[0]?) hc
   simpa [List.getElem?_take,List.getElem?_drop] using this
  have h2:(xs.map (·.1))[i]?=some (DataW.lit (.int k z):DataW H):=by
   rw [List.getElem?_map,hxi,hz];rfl
  rw [hxs] at h2
  simp only [List.getElem?_map,Option.map_eq_some_iff,DataW.lit.injEq,Lit.int.injEq,true_and] at h2
  obtain ⟨z',hz',rfl⟩:=h2
  simp [h1,hz']
 ·rw [List.getElem?_eq_none (by omega),List.getElem?_eq_none (by simp;omega)]
theorem yy {H:Type} {enc:TypeId×Value→H} {P:Program} {w:World} {base:Nat} {sp:Nat→Bool} {held:Bool} {fuel:Nat} {t t1:TypeId} {m n:Nat} {fs:Array Field} {k:IntKind} {cs:List Value} {zss:List (List Int)} {p:List MemPlace}
  (ht:P.underlying t=some (.array m t1)) (h1:P.underlying t1=some (.struct fs)) (hf:yU P k 0 fs.toList=true) (hn:fs.size=n) (hc1:P.cellsOf t1=n) (hct:P.cellsOf t=m * n)
  (h:DataW.trod enc P w base sp held fuel t cs=some (.agg (zss.map (Lib.tabData k)),p)):cs=(zss.flatten).map fun z=>Value.int k z:=by
 cases fuel with
 | zero=>simp [DataW.trod] at h
 | succ fuel =>
  simp only [DataW.trod,ht,hc1,hct] at h
  split at h
  case isFalse=>cases h
  rename_i hl
  obtain ⟨xs,hm,hx⟩:=Option.map_eq_some_iff.1 h
  have hxs:xs.map (·.1)=zss.map (Lib.tabData (H:=H) k):=by
   have:=congrArg Prod.fst hx
   simpa using this
  have hxl:xs.length=m:=by simpa using Lib.mapM_length hm
  have hzl:zss.length=m:=by
   have:=congrArg List.length hxs
   simp at this
   omega
  rw [yS (n:=n) m cs (zss.map fun zs=>zs.map fun z=>Value.int k z) (by simpa using hzl) hl (fun i z hi=>?_)]
  ·rw [List.map_flatten]
  ·rw [List.getElem?_map] at hi
   obtain ⟨zs,hzs,rfl⟩:=Option.map_eq_some_iff.1 hi
   have him:i < m:=by
    have:=(List.getElem?_eq_some_iff.1 hzs).1
    omega
   obtain ⟨b,hb,hfb⟩:=Lib.mapM_at hm i i (by simp [him])
   have h2:(xs.map (·.1))[i]?=some b.1:=by simp [hb]
   rw [hxs,List.getElem?_map,hzs] at h2
   obtain ⟨b1,b2⟩:=b
   have h3:Lib.tabData k zs=b1:=Option.some.inj h2
   rw [← h3] at hfb
   exact Qas h1 hf (by rw [hc1,hn]) hfb
def kq (P:Program) (t:TypeId):Array Field:=match P.underlying t with
 | some (.struct fs)=>fs
 | _=>#[]
theorem gatR {P:Program} {W:World} {laid:List (String×DataW Unit)} {ps:List MemPlace} {name:String} {g:Nat} {t t1:TypeId} {m n:Nat} {k:IntKind} {zss:List (List Int)} (i:Nat) (hl:DataW.LaidVars P W laid ps) (hi:laid[i]?=some (name,.agg (zss.map (Lib.tabData k))))
  (hg:P.globalNamed name=some g) (hty:(P.globals[g]?).map (·.type)=some t) (ht:P.underlying t=some (.array m t1)) (h1:P.underlying t1=some (.struct (kq P t1))) (hf:yU P k 0 (kq P t1).toList=true) (hn:(kq P t1).size=n) (hc1:P.cellsOf t1=n) (hct:P.cellsOf t=m * n) :
  GAt W (fun _=>False) g (.agg ((zss.flatten).map fun z=>.v (.int k z))):=by
 obtain ⟨g',t',cs,fuel,p,hg',ht',hv,hd⟩:=Qc8 i hl hi
 obtain rfl:=Option.some.inj (hg.symm.trans hg')
 obtain rfl:=Option.some.inj (hty.symm.trans ht')
 have:=yy ht h1 hf hn hc1 hct hd
 exact QgA hg (by rw [hv,← this])
theorem Qe2 {W:World} (h0:GAt W (fun _=>False) 0 (.agg ((([[-1,0],[1,0],[0,-1],[0,1]]:List (List Int)).flatten).map fun z=>.v (.int .i64 z)))) (g:Nat) (x:D) (hg:cx.G g=some x):GAt W (fun _=>False) g x:=by
 have e:cx.G g=(match Nat.beq g 0 with
  | true=>some (.agg [I (-1),I 0,I 1,I 0,I 0,I (-1),I 0,I 1])
  | false=>none):=rfl
 rw [e] at hg
 split at hg
 ·rename_i hb
  rw [Nat.eq_of_beq_eq_true hb]
  cases hg
  exact h0
 ·cases hg
set_option maxRecDepth 10000
open Go
def Ev (x:Nat):Option Nat:=match FloatKind.f64.decode x with
 | .nan _ _=>none
 | d=>some (FloatKind.f64.encode (d.integral .down))
theorem arch (x y:Nat) (h:Ev x=some y) (w:World):(callFunc 109 #[.float .f64 x]).run Tryz.prog w=.ok (.value (.float .f64 y)) w:=by
 have hn:Extern.findNext Tryz.f109=none:=by kernel_rfl
 have he:Extern.find Tryz.f109=some (Extern.MathFloor.toIntegral "math.archFloor" .down):=by kernel_rfl
 have h4:Tryz.f109.body.isNone=true:=by kernel_rfl
 have h5:(Tryz.f109.name == "runtime.NumGoroutine")=false:=by kernel_rfl
 rw [run_callFunc_extern Tryz.func109 h5 h4 hn he]
 have e1:Extern.MathFloor.toIntegral "math.archFloor" .down #[.float .f64 x]=(match FloatKind.f64.decode x with
  | .nan s t =>
   if FloatKind.f64.format.quiet t=t then pure (.float .f64 x) else do
   let kept ← choose (.extern "math.Floor,Ceil,Trunc,RoundToEven.signallingNaN kept" 2)
   pure (.float .f64 (if kept == 1 then x else FloatKind.f64.encode (.nan s (FloatKind.f64.format.quiet t))))
  | d=>pure (.float .f64 (FloatKind.f64.encode (d.integral .down)))):=rfl
 rw [e1]
 unfold Ev at h
 revert h
 cases FloatKind.f64.decode x with
 | nan s t=>intro h;cases h
 | infinity s=>intro h;simp only [Option.some.injEq] at h;subst h;rfl
 | number s m e=>intro h;simp only [Option.some.injEq] at h;subst h;rfl
set_option maxHeartbeats 400000 in
theorem QfO (x y : Nat) (h : Ev x = some y) (w : World) :
  Calls Tryz.prog 92 #[.float .f64 x] w fun e w' => e = .returned (.float .f64 y) ∧ w' = w := by
 go_enter Tryz.func92, Tryz.ntmps92
 go_wp2
 rw [arch x y h w, Oper.upon_value]
 go_wp2
 go_ret
 exact ⟨rfl, rfl⟩
def Gm (n:Nat) (x:Nat):Option Nat:=Ev x
theorem Qav {n x r:Nat} (h:Gm n x=some r):Computes cx 92 [.v (.float .f64 x)] (.v (.float .f64 r)) :=
 ur fun w=>(QfO x r h w).mono fun e w' hh=>⟨hh.1,by rw [hh.2];exact Below.refl _ _⟩
def EZ (n:Nat) (x:Nat):Option Nat:=some (Go.bits .andNot .u64 (x:Int) 9223372036854775808).toNat
theorem bits (x:Nat) (w:World):(callFunc 116 #[.float .f64 x]).run Tryz.prog w=.ok (.value (.int .u64 x)) w:=by
 have hn:Extern.findNext Tryz.f116=none:=by kernel_rfl
 have he:Extern.find Tryz.f116=some Extern.MathFloatBits.float64bits:=by kernel_rfl
 have h4:Tryz.f116.body.isNone=true:=by kernel_rfl
 have h5:(Tryz.f116.name == "runtime.NumGoroutine")=false:=by kernel_rfl
 rw [run_callFunc_extern Tryz.func116 h5 h4 hn he];rfl
theorem Qe4 (x:Int) (w:World):(callFunc 115 #[.int .u64 x]).run Tryz.prog w=.ok (.value (.float .f64 x.toNat)) w:=by
 have hn:Extern.findNext Tryz.f115=none:=by kernel_rfl
 have he:Extern.find Tryz.f115=some Extern.MathFloatBits.float64frombits:=by kernel_rfl
 have h4:Tryz.f115.body.isNone=true:=by kernel_rfl
 have h5:(Tryz.f115.name == "runtime.NumGoroutine")=false:=by kernel_rfl
 rw [run_callFunc_extern Tryz.func115 h5 h4 hn he];rfl
theorem QgY (x:Nat) (w:World):Calls Tryz.prog 108 #[.float .f64 x] w fun e w'=>e=.returned (.float .f64 (Go.bits .andNot .u64 (x:Int) 9223372036854775808).toNat)∧w'=w:=by
 go_enter Tryz.func108,Tryz.ntmps108
 go_wp2
 rw [bits x w,Oper.upon_value]
 go_wp2
 rw [Qe4 _ w,Oper.upon_value]
 go_wp2
 go_ret
 exact ⟨rfl,rfl⟩
theorem QcD {n x r:Nat} (h:EZ n x=some r):Computes cx 108 [.v (.float .f64 x)] (.v (.float .f64 r)):=by
 cases h
 exact ur fun w=>(QgY x w).mono fun e w' hh=>⟨hh.1,by rw [hh.2];exact Below.refl _ _⟩
end Go.Proofs.YtfiigcbhiopagaaGreatDoor
