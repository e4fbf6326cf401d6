/-
  What slices.Clone and math.Abs compute. An own text.
-/
import Derived.Test.YtmgbmngmmpeaaaaGreatDoorShelf
import Derived.Shelf.SlicesE.Clone
import Derived.Lib.LazyBuf
set_option linter.unusedVariables false
set_option linter.unusedSimpArgs false
set_option linter.unnecessarySimpa false
set_option maxRecDepth 10000
namespace Go.Proofs.YtmgbmngmmpeaaaaGreatDoor
open Go.RowKit Go Go.SX Go.Shelf
theorem eqnil (a : Addr) (c : Nat) (w : World) : (binOp BinOp.eql 111 (Value.slice (some a) 0 c) (Value.slice none 0 0)).run Tryz.prog w = .ok (.bool false) w := by
  have := run_equal_slice_nil (P := Tryz.prog) w 111 112 (some a) 0 c Tryz.underlying111
  unfold binOp
  simp only [Sem.run_bind, this, Result.andThen_ok]
  rfl
set_option maxHeartbeats 400000 in
theorem clone_empty (a : Addr) (c : Nat) (w : World) :
    Calls Tryz.prog 106 #[.slice (some a) 0 c] w fun e w' => (∃ a' c', e = .returned (.slice a' 0 c')) ∧ Below w.heap.size w w' := by
  go_enter Tryz.func106, Tryz.ntmps106
  go_wp2
  rw [eqnil, Result.andThen_ok, Oper.upon_value]
  go_wp2
  go_ret
  exact ⟨⟨_, _, rfl⟩, (Below.refl _ _).alloc (Nat.le_refl _) _⟩
def Tryz.laysSlE041_f106_ren : Go.Shelf.Ren := ⟨fun | 41 => 106 | n => n, fun | 22 => 111 | 23 => 112 | 4 => 4 | n => n, fun | n => n⟩
theorem Tryz.laysSlE041_f106 : Go.Proofs.SlLaysE0.n41 Tryz.prog Tryz.laysSlE041_f106_ren := {
  mixed := by kernel_rfl
  f41 := ⟨Tryz.f106.name, by decide, Tryz.func106.trans (congrArg some (by kernel_rfl))⟩
  t4 := Tryz.underlying4
  a4 := Tryz.isAgg4
  z4 := Tryz.sizeOf4
  v4 := Tryz.zeroValue4
  t22 := Tryz.underlying111
  a22 := Tryz.isAgg111
  z22 := Tryz.sizeOf111
  v22 := Tryz.zeroValue111 }
def F_slices_Clone (n : Nat) (l : List D) : Option (List D) := if l.length * 4 ≤ 140737488355328 then some l else none
theorem c_slices_Clone {n : Nat} {full : Bool} {l r : List D} (h : F_slices_Clone n l = some r) : Computes cx 106 [.lst full 1 l] (.lst false 1 r) := by
  unfold F_slices_Clone at h
  split at h
  case isFalse => cases h
  rename_i hi
  cases h
  intro w F vs hF hG hvl hd
  match vs, hvl with
  | [a], _ =>
    have ha := hd 0 _ _ rfl rfl
    cases ha with
    | lst _ _ _ a0 cap blk off ys hf hc haa hs hw hdr =>
      by_cases hl : l = []
      · subst hl
        cases a0 with
        | none =>
          refine (AnyE.slices_Clone_nil Tryz.laysSlE041_f106 0 cap w).mono ?_
          rintro e w' ⟨he, rfl⟩
          exact ⟨_, he, .lst false 1 [] none 0 0 0 (fun _ => .nilIface) (fun h => by cases h) (Nat.le_refl _) (fun h => absurd rfl h) (by simp) (by simp) (by simp), Ext.refl _ _⟩
        | some a =>
          refine (clone_empty a cap w).mono ?_
          rintro e w' ⟨⟨a', c', he⟩, hb⟩
          exact ⟨_, he, .lst false 1 [] a' c' 0 0 (fun _ => .nilIface) (fun h => by cases h) (Nat.zero_le _) (fun h => absurd rfl h) (by simp) (by simp) (by simp), ext_below hb⟩
      · obtain ⟨h1, h2, h3⟩ := haa hl
        subst h1
        have hcell : ∀ (i : Nat) (d : D), l[i]? = some d → ∃ c, d.cells = [c] := by
          intro i d hd
          have := hs i d hd
          match hdc : d.cells, this with
          | [c], _ => exact ⟨c, rfl⟩
        have hinfo : ((Tryz.prog.info? 112).map fun i => (i.zero, i.size, i.bytes)) = some (some (.float .f32 0), 1, 4) := by kernel_rfl
        obtain ⟨i0, q0, q1⟩ := Option.map_eq_some_iff.1 hinfo
        simp only [Prod.mk.injEq] at q1
        have hk := AnyE.slices_Clone Tryz.laysSlE041_f106 i0 (.float .f32 0) 1 4 q0 q1.1 q1.2.1 q1.2.2 rfl (by decide) (fun w => (Go.run_sizeOf w q0).trans (by rw [show Tryz.prog.cellsOf 112 = 1 from by kernel_rfl])) blk off l.length cap ((List.range l.length).map ys) w (by simp) (by unfold maxLen; omega) hi
          (fun j u hj => by
            rw [List.getElem?_map] at hj
            simp only [Option.map_eq_some_iff] at hj
            obtain ⟨k, hk, rfl⟩ := hj
            obtain ⟨hk1, rfl⟩ := List.getElem?_eq_some_iff.1 hk
            simp only [List.length_range] at hk1
            have hd := List.getElem?_eq_getElem hk1
            obtain ⟨c, hc⟩ := hcell _ _ hd
            have := (hw _ _ 0 c hd (by rw [hc]; rfl)).1
            simpa using this)
          (fun u hu => by
            simp only [List.mem_map, List.mem_range] at hu
            obtain ⟨k, hk1, rfl⟩ := hu
            have hd := List.getElem?_eq_getElem hk1
            obtain ⟨c, hc⟩ := hcell _ _ hd
            have := (hw _ _ 0 c hd (by rw [hc]; rfl)).2
            rw [Nat.mul_one, Nat.add_zero] at this
            revert this
            cases ys k <;> simp [SX.one, Value.oneCell'])
        refine hk.mono ?_
        rintro e w' ⟨v', he, ⟨hlen, hown⟩, hnn, hb⟩
        rcases hown with ⟨_, e0⟩ | ⟨g, cap', cur, rfl, hg, hcells, hn, hm, hsz, htake⟩
        · exact absurd (List.length_eq_zero_iff.1 e0) hl
        · have hx := ext_below hb
          refine ⟨_, he, .lst false 1 l _ cap' g 0 ys (fun h => by cases h) hn (fun _ => ⟨rfl, fun hFg => by have := hF g hFg; omega, ?_⟩) hs ?_ ?_, hx⟩
          · rcases Nat.lt_or_ge g w'.heap.size with h | h
            · exact h
            · rw [Array.getElem?_eq_none h] at hcells; cases hcells
          · intro i d j c hd hj
            refine ⟨?_, (hw i d j c hd hj).2⟩
            obtain ⟨c0, hc0⟩ := hcell _ _ hd
            have hj0 : j = 0 := by
              rw [hc0] at hj
              cases j with
              | zero => rfl
              | succ j => simp at hj
            subst hj0
            have hil : i < l.length := (List.getElem?_eq_some_iff.1 hd).1
            have h9 : (List.take (l.length * 1) cur.toList)[i]? = some (ys i) := by rw [htake]; simp [hil]
            rw [List.getElem?_take] at h9
            split at h9
            · unfold World.cell?
              simp only [hcells]
              simpa using h9
            · cases h9
          · intro i d j c hd hj
            exact (hdr i d j c hd hj).ext hb.size (fun r hr _ => hb.block r hr) (fun _ _ h => h)
def F_math_Abs (n : Nat) (x : Nat) : Option Nat := some (Go.bits .andNot .u64 (x : Int) 9223372036854775808).toNat
theorem bits (x : Nat) (w : World) : (callFunc 191 #[.float .f64 x]).run Tryz.prog w = .ok (.value (.int .u64 x)) w := by
  have hn : Extern.findNext Tryz.f191 = none := by kernel_rfl
  have he : Extern.find Tryz.f191 = some Extern.MathFloatBits.float64bits := by kernel_rfl
  have h4 : Tryz.f191.body.isNone = true := by kernel_rfl
  have h5 : (Tryz.f191.name == "runtime.NumGoroutine") = false := by kernel_rfl
  rw [run_callFunc_extern Tryz.func191 h5 h4 hn he]; rfl
theorem frombits (x : Int) (w : World) : (callFunc 190 #[.int .u64 x]).run Tryz.prog w = .ok (.value (.float .f64 x.toNat)) w := by
  have hn : Extern.findNext Tryz.f190 = none := by kernel_rfl
  have he : Extern.find Tryz.f190 = some Extern.MathFloatBits.float64frombits := by kernel_rfl
  have h4 : Tryz.f190.body.isNone = true := by kernel_rfl
  have h5 : (Tryz.f190.name == "runtime.NumGoroutine") = false := by kernel_rfl
  rw [run_callFunc_extern Tryz.func190 h5 h4 hn he]; rfl
theorem abs_w (x : Nat) (w : World) : Calls Tryz.prog 177 #[.float .f64 x] w fun e w' => e = .returned (.float .f64 (Go.bits .andNot .u64 (x : Int) 9223372036854775808).toNat) ∧ w' = w := by
  go_enter Tryz.func177, Tryz.ntmps177
  go_wp2
  rw [bits x w, Oper.upon_value]
  go_wp2
  rw [frombits _ w, Oper.upon_value]
  go_wp2
  go_ret
  exact ⟨rfl, rfl⟩
theorem c_math_Abs {n x r : Nat} (h : F_math_Abs n x = some r) : Computes cx 177 [.v (.float .f64 x)] (.v (.float .f64 r)) := by
  cases h
  exact computes1 fun w => (abs_w x w).mono fun e w' hh => ⟨hh.1, by rw [hh.2]; exact Below.refl _ _⟩
end Go.Proofs.YtmgbmngmmpeaaaaGreatDoor
