/-
  The frame of the contracts of this seat's functions: the program, and what its package-level variables hold. An own text.
-/
import Derived.Test.YtclmbhokfhjnoaaGreatDoorProg
import Derived.Test.YtclmbhokfhjnoaaGreatDoorSxTwentyEight
import Derived.KernelRfl
import Derived.Below
import Derived.Lib.LaidTab
import Derived.Lib.ItoaNum
set_option linter.unusedVariables false
set_option linter.unusedSimpArgs false
set_option linter.unnecessarySimpa false
namespace Go.Proofs.YtclmbhokfhjnoaaGreatDoor
open Go.SX Go.RowKit
def pow10D : D := .agg (Lib.pow10Tab.map fun z => .v (.int .u64 z))
noncomputable def cx : Cx := { P := Tryz.prog, G := fun g => match Nat.beq g 0 with
  | true => some (.agg [I (-1), I (-1), I 1, I (-1), I 1, I 1, I (-1), I 1])
  | false => match Nat.beq g 2 with
    | true => some pow10D
    | false => none }
theorem noAsk0 : (Tryz.prog.funcs.toList.all fun fn => !(fn.body.isSome && (fn.name == "runtime.NumGoroutine"))) = true := by kernel_rfl
theorem noAsk : NoAsk cx := noAsk_of _ _ noAsk0
theorem mixed : cx.P.follows .mixedOrders = true := by kernel_rfl
theorem run {n : Nat} {f : FuncId} {args : List D} {orc : List Orc} {r : D} {ob : List Prop} (h : runFn true n cx f args orc = some (r, ob)) (ho : All ob) : Computes cx f args r := computes_run noAsk mixed h ho
theorem run_fr {n : Nat} {f : FuncId} {args : List D} {orc : List Orc} {r : D} {ob : List Prop} (ho : All ob) (h : runFn true n cx f args orc = some (r, ob)) : Computes cx f args r := run h ho
theorem run_frO {n : Nat} {f : FuncId} {args : List AV} {i : Option (List OC)} {b : Nat} {orc : List Orc} {r : AV} {cs : List OC} {ob : List Prop} (ho : All ob) (h : runFnO n cx f args i b cs orc = some (r, cs, ob)) : ComputesO cx f args i r cs := computesO_run noAsk mixed h ho
theorem loopF_to {S E : Type} {c : Code} {nt vis : Nat} {rnd : Bool} {T : S → List (Nat × AV)} {H : S → List (Nat × Blk)} {X : E → Ex} {XT : E → List (Nat × AV)} {XH : E → List (Nat × Blk)}
    {step : S → Option (S ⊕ E)} (hr : ∀ s r, step s = some r → Rd cx c nt vis rnd T H X XT XH s r) {n : Nat} {s : S} {e : E} (h : loopF step n s = some e) : LoopN cx c nt vis rnd (T s) (H s) (X e) (XT e) (XH e) := loopF_of noAsk mixed hr n s e h

/-- A contract of the library's, of plain values. -/
theorem dr_v {w : World} {F : Nat → Prop} {x y : Value} (h : DR w F (.v x) y) : y = x := by cases h; rfl
theorem ext_below {w w' : World} (h : Below w.heap.size w w') : Ext w (fun _ => False) w' := ⟨h.os, h.tape, h.output, h.size, fun r hr _ => h.block r hr⟩
theorem computes1 {f : FuncId} {x y : Value} (h : ∀ w : World, Calls Tryz.prog f #[x] w fun e w' => e = .returned y ∧ Below w.heap.size w w') : Computes cx f [.v x] (.v y) := by
  intro w F vs hF hG hl hd
  match vs, hl with
  | [a], _ =>
    have ha := hd 0 _ _ rfl rfl
    rw [dr_v ha]
    exact (h w).mono fun e w' hh => ⟨_, hh.1, .v _, ext_below hh.2⟩
theorem str9 : cx.P.underlying 9 = some .string := by kernel_rfl
theorem strAt_ok {s : ByteArray} {i x : Int} (h : strAt s i = some x) : pureRun cx.P (Instr.index 9 (.string s) (.int .i64 i)) = some (.int .u8 x) := index_str str9 h
theorem strSub_ok {s x : ByteArray} {lo hi : Option Int} (h : strSub s lo hi = some x) : pureRun cx.P (Instr.sliceAt 9 (.string s) (lo.map (.int .i64)) (hi.map (.int .i64)) none) = some (.string x) := slice_str str9 h
/-! Short names for the printed texts. -/
theorem bo {α β : Type} {x : Option α} {f : α → Option β} {r : β} (h : x.bind f = some r) : ∃ t, x = some t ∧ f t = some r := bnd_of h
theorem gd {α : Type} {p : Prop} [Decidable p] {x : Option α} {r : α} (h : (if p then x else none) = some r) : p ∧ x = some r := grd_of h
theorem it {α : Type} {p : Prop} [Decidable p] {x y : Option α} {r : α} (h : (if p then x else y) = some r) (hp : p) : x = some r := ite_t h hp
theorem jf {α : Type} {p : Prop} [Decidable p] {x y : Option α} {r : α} (h : (if p then x else y) = some r) (hp : ¬ p) : y = some r := ite_f h hp
theorem oi {α : Type} {a b : α} (h : some a = some b) : a = b := Option.some.inj h
end Go.Proofs.YtclmbhokfhjnoaaGreatDoor
