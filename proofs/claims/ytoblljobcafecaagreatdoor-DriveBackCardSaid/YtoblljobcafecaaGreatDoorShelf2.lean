/-
  What math.Abs computes. An own text.
-/
import Derived.Test.YtoblljobcafecaaGreatDoorShelf
import Derived.Lib.LazyBuf
set_option linter.unusedVariables false
set_option linter.unusedSimpArgs false
set_option linter.unnecessarySimpa false
set_option maxRecDepth 10000
namespace Go.Proofs.YtoblljobcafecaaGreatDoor
open Go.RowKit Go Go.SX Go.Shelf
def F_math_Abs (n : Nat) (x : Nat) : Option Nat := some (Go.bits .andNot .u64 (x : Int) 9223372036854775808).toNat
theorem bits (x : Nat) (w : World) : (callFunc 149 #[.float .f64 x]).run Tryz.prog w = .ok (.value (.int .u64 x)) w := by
  have hn : Extern.findNext Tryz.f149 = none := by kernel_rfl
  have he : Extern.find Tryz.f149 = some Extern.MathFloatBits.float64bits := by kernel_rfl
  have h4 : Tryz.f149.body.isNone = true := by kernel_rfl
  have h5 : (Tryz.f149.name == "runtime.NumGoroutine") = false := by kernel_rfl
  rw [run_callFunc_extern Tryz.func149 h5 h4 hn he]; rfl
theorem frombits (x : Int) (w : World) : (callFunc 148 #[.int .u64 x]).run Tryz.prog w = .ok (.value (.float .f64 x.toNat)) w := by
  have hn : Extern.findNext Tryz.f148 = none := by kernel_rfl
  have he : Extern.find Tryz.f148 = some Extern.MathFloatBits.float64frombits := by kernel_rfl
  have h4 : Tryz.f148.body.isNone = true := by kernel_rfl
  have h5 : (Tryz.f148.name == "runtime.NumGoroutine") = false := by kernel_rfl
  rw [run_callFunc_extern Tryz.func148 h5 h4 hn he]; rfl
theorem abs_w (x : Nat) (w : World) : Calls Tryz.prog 135 #[.float .f64 x] w fun e w' => e = .returned (.float .f64 (Go.bits .andNot .u64 (x : Int) 9223372036854775808).toNat) ∧ w' = w := by
  go_enter Tryz.func135, Tryz.ntmps135
  go_wp2
  rw [bits x w, Oper.upon_value]
  go_wp2
  rw [frombits _ w, Oper.upon_value]
  go_wp2
  go_ret
  exact ⟨rfl, rfl⟩
theorem c_math_Abs {n x r : Nat} (h : F_math_Abs n x = some r) : Computes cx 135 [.v (.float .f64 x)] (.v (.float .f64 r)) := by
  cases h
  exact computes1 fun w => (abs_w x w).mono fun e w' hh => ⟨hh.1, by rw [hh.2]; exact Below.refl _ _⟩
end Go.Proofs.YtoblljobcafecaaGreatDoor
