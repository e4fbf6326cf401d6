/- The frame of the contracts of this seat's functions: the program, and what its package-level variables hold. An own text. -/
import Derived.Test.YtljabneifpkbjaaGreatDoorProg
import Derived.Test.YtljabneifpkbjaaGreatDoorSxTwentyEight
import Derived.KernelRfl
import Derived.Below
import Derived.Lib.LaidTab
import Derived.Lib.ItoaNum
namespace Go.Proofs.YtljabneifpkbjaaGreatDoor
open Go.SX Go.RowKit
def pow10D:D:=.agg (Lib.pow10Tab.map fun z=>.v (.int .u64 z))
noncomputable def cx:Cx:={ P:=Tryz.prog,G:=fun g=>match Nat.beq g 1 with
 | true=>some pow10D
 | false=>none }
theorem Qdt:(Tryz.prog.funcs.toList.all fun fn=>!(fn.body.isSome && (fn.name == "runtime.NumGoroutine")))=true:=by kernel_rfl
theorem noAsk:NoAsk cx:=Qcp _ _ Qdt
theorem wH:cx.P.follows .mixedOrders=true:=by kernel_rfl
theorem run {n:Nat} {f:FuncId} {args:jVj} {orc:List Orc} {r:D} {ob:List Prop} (h:ut true n cx f args orc=some (r,ob)) (ho:All ob):Computes cx f args r:=qh noAsk wH h ho
theorem QcZ {n:Nat} {f:FuncId} {args:List AV} {i:Option (List OC)} {b:Nat} {ks:List Bool} {orc:List Orc} {r:AV} {cs:List OC} {ob:List Prop} (ho:All ob) (h:Qcd n cx f args i b cs ks orc=some (r,cs,ob)):ComputesO cx f args i r cs ks:=Eb noAsk wH h ho
theorem QH {S E:Type} {c:Code} {nt vis:Nat} {rnd:Bool} {T:S→List (Nat×AV)} {H:S→List (Nat×Blk)} {X:E→Ex} {XT:E→List (Nat×AV)} {XH:E→List (Nat×Blk)}
  {step:S→Option (S⊕E)} (hr:∀ s r,step s=some r→Rd cx c nt vis rnd T H X XT XH s r) {n:Nat} {s:S} {e:E} (h:Q2 step n s=some e):kZ cx c nt vis rnd (T s) (H s) (X e) (XT e) (XH e):=uN noAsk wH hr n s e h
theorem dr_v {w:World} {F:Nat→Prop} {x y:Value} (h:DR w F (.v x) y):y=x:=by cases h;rfl
theorem QbS {w w' : World} (h:Below w.heap.size w w'):Ext w (fun _=>False) w':=⟨h.os,h.tape,h.output,h.size,fun r hr _=>h.block r hr⟩
theorem str9:cx.P.underlying 9=some .string:=by kernel_rfl
theorem Zq {s:jSj} {i x:Int} (h:WQ s i=some x):QV cx.P (Instr.index 9 (.string s) (.int .i64 i))=some (.int .u8 x):=QbM str9 h
theorem QiU {s x:jSj} {lo hi:Option Int} (h:Qi7 s lo hi=some x):QV cx.P (Instr.sliceAt 9 (.string s) (lo.map (.int .i64)) (hi.map (.int .i64)) none)=some (.string x):=QmP str9 h
theorem bo {α β:Type} {x:Option α} {f:α→Option β} {r:β} (h:x.bind f=some r):∃ t,x=some t∧f t=some r:=ZX h
theorem gd {α:Type} {p:Prop} [Decidable p] {x:Option α} {r:α} (h:(if p then x else none)=some r):p∧x=some r:=Qdz h
theorem it {α:Type} {p:Prop} [Decidable p] {x y:Option α} {r:α} (h:(if p then x else y)=some r) (hp:p):x=some r:=QdT h hp
theorem jf {α:Type} {p:Prop} [Decidable p] {x y:Option α} {r:α} (h:(if p then x else y)=some r) (hp:¬ p):y=some r:=QdU h hp
theorem oi {α:Type} {a b:α} (h:some a=some b):a=b:=Option.some.inj h
end Go.Proofs.YtljabneifpkbjaaGreatDoor
