/- The statement TopQuartzFlipped, as a tied card: for every input the law returns true, and each argument reads afterwards as it read before. Its conditions: the listed package-level variables hold what the program's text lays there. -/
import Derived.Test.YtfiigcbhiopagaaGreatDoorCards
import Derived.Test.YtfiigcbhiopagaaGreatDoorTie
import Derived.Test.YtfiigcbhiopagaaGreatDoorFlipArgs
import Derived.WalkKit
import Derived.ProofKit
import Derived.OpenShut
import Derived.Deep.DeepHandedRow
import Derived.Lib.LaidTab
set_option linter.unusedVariables false
set_option linter.unusedSimpArgs false
set_option linter.unnecessarySimpa false
namespace Go.Proofs.YtfiigcbhiopagaaGreatDoor.topQuartzFlipped
open Go.SX Go.ChangeShapes Go.WideShapes Go.ChangeAt Go.RowKit
theorem own:ownKnob Tryz.prog.godebug=none:=by kernel_rfl
theorem globs {W:World} (h:laidMetH Tryz.prog Rows.topQuartzFlippedRow.laid W):∀ g x,cx.G g=some x→GAt W (fun _=>False) g x:=by
 obtain ⟨ps,hl,_⟩:laidMet Tryz.prog Rows.topQuartzFlippedRow.laid W:=h
 exact Qe2 (W:=W)
  (gatR (zss:=[[-1,0],[1,0],[0,-1],[0,1]]) (k:=.i64) (m:=4) (n:=2) (t:=72) (t1:=30) 0 hl rfl (by kernel_rfl) (by kernel_rfl) (by kernel_rfl) (by kernel_rfl) (by kernel_rfl) (by kernel_rfl) (by kernel_rfl) (by kernel_rfl))
noncomputable def laidWorld (os:Os):World :=
 { World.holding Tryz.prog os ⟨#[],#[],[]⟩ with heap:=((World.holding Tryz.prog os ⟨#[],#[],[]⟩).heap.modify 0 fun
   | .cells _ t frozen=>.cells #[.int .i64 (-1),.int .i64 0,.int .i64 1,.int .i64 0,.int .i64 0,.int .i64 (-1),.int .i64 0,.int .i64 1] t frozen
   | o=>o) }
theorem laid_met (os:Os):laidMet Tryz.prog Rows.topQuartzFlippedRow.laid ((laidWorld os).forCall (fun _ _=>0) ⟨#[],#[.agg #[.int .i64 0,.int .i64 0,.slice none 0 0],.agg #[.int .i64 0,.int .i64 0,.slice none 0 0],.agg #[.int .u8 0,.int .u8 0,.int .u8 0]],[]⟩).memory :=
 laidMet_of_run' 8 (by kernel_rfl) (by kernel_rfl)
theorem reads (os:Os) {H:Type} (enc:TypeId×Value→H):∃ places,DataW.whole enc Tryz.prog ((laidWorld os).forCall (fun _ _=>0) ⟨#[],#[.agg #[.int .i64 0,.int .i64 0,.slice none 0 0],.agg #[.int .i64 0,.int .i64 0,.slice none 0 0],.agg #[.int .u8 0,.int .u8 0,.int .u8 0]],[]⟩).memory Tryz.f3.params.toList Rows.topQuartzFlippedSpec.vars false (#[.agg #[.int .i64 0,.int .i64 0,.slice none 0 0],.agg #[.int .i64 0,.int .i64 0,.slice none 0 0],.agg #[.int .u8 0,.int .u8 0,.int .u8 0]]:Array Value).toList 8=some ([.agg [.lit (.int .i64 0),.lit (.int .i64 0),.nil],.agg [.lit (.int .i64 0),.lit (.int .i64 0),.nil],.agg [.lit (.int .u8 0),.lit (.int .u8 0),.lit (.int .u8 0)]],[],places) :=
 ⟨[],by kernel_rfl⟩
theorem kindsAre:V4 Tryz.prog Tryz.f3.params.toList=some [(true,[.int .i64,.int .i64,.lst false [.flt .f32]]),(true,[.int .i64,.int .i64,.lst false [.flt .f32]]),(true,[.int .u8,.int .u8,.int .u8])]:=by kernel_rfl
theorem specIs (H:Type) (ds:List (DataW H)) (h:ds.length=Tryz.f3.params.size):Rows.topQuartzFlippedSpec.fn H ds={ results:=[.lit (.bool true)],args:=ds }:=by
 have h' : ds.length=3:=h
 match ds,h' with
 | [d0,d1,d2],_=>rfl
theorem boolT:Tryz.prog.underlying 4=some .bool:=by kernel_rfl
theorem resT:Tryz.f3.resultTypes=#[4]:=by kernel_rfl
set_option maxRecDepth 100000 in
theorem contract (H : Type) (enc : TypeId × Value → H) (W : World) (base : Nat) (args : Array Value) (ds gs : List (DataW H)) (before : List MemPlace)
  (hval : ∀ (j : Nat) t v, Tryz.f3.params[j]? = some t → args[j]? = some v → Value.okWide Tryz.prog W .any base t v)
  (hW : DataW.Whole enc Tryz.prog Tryz.f3.params.toList Rows.topQuartzFlippedSpec.vars false W args.toList ds gs before) (hL : laidMetH Tryz.prog Rows.topQuartzFlippedRow.laid W) :
  Calls Tryz.prog 3 args W fun e W' => ∃ v, e = .returned v ∧ Rows.topQuartzFlippedSpec.post enc Tryz.prog Tryz.f3 false true false false W args v W' :=
 QbK kindsAre boolT resT rfl specIs Gt H enc W base args ds gs before hval hW (globs hL)
theorem noInit:Tryz.checked.prog.inits.idxOf? 3=none:=by kernel_rfl
set_option maxRecDepth 100000 in
theorem lifted (os : Os) (started : os.Started) (H : Type) (enc : TypeId × Value → H) (F : Stop.Interp) :
  ReturnsInHanded {} Tryz.checked os 3 .any ((OpenSpec.ofChange Rows.topQuartzFlippedSpec).preRow enc Tryz.prog Tryz.f3 Rows.topQuartzFlippedRow.domain false Rows.topQuartzFlippedRow.laid) (((OpenSpec.ofChange Rows.topQuartzFlippedSpec).at F).post enc Tryz.prog Tryz.f3 false true false false) := by
 obtain ⟨places, hx⟩ := reads os enc
 refine returnsInHanded_of_row (C := Tryz.checked) (s := OpenSpec.ofChange Rows.topQuartzFlippedSpec) own started noInit Tryz.func3
  (witness_row_at (enc := enc) (C := Tryz.checked) false (laidWorld os) #[.agg #[.int .i64 0, .int .i64 0, .slice none 0 0], .agg #[.int .i64 0, .int .i64 0, .slice none 0 0], .agg #[.int .u8 0, .int .u8 0, .int .u8 0]] rfl (by kernel_rfl) (by kernel_rfl) (by kernel_rfl)
   (OpenSpec.preRow_of_cond 8 hx (by kernel_rfl) (fun k hk => by cases hk) (by kernel_rfl) (laid_met os))) ?_
 intro W base args ds gs before hval hW _ _ _ hL _ _
 exact contract H enc W base args ds gs before hval hW hL
theorem and_mk {a b:Bool} (ha:a=true) (hb:b=true):(a && b)=true:=by rw [ha,hb];rfl
set_option maxHeartbeats 8000000 in
theorem closed : joinedFacts Tryz.pinned.checked.prog 3 Tryz.f3 (OpenSpec.ofChange Rows.topQuartzFlippedSpec).bare Rows.topQuartzFlippedRow = true := by
 unfold joinedFacts
 refine (and_mk (and_mk (and_mk (and_mk (and_mk (and_mk (and_mk (and_mk (and_mk (and_mk (and_mk (and_mk (and_mk (and_mk (and_mk (and_mk (and_mk (and_mk (and_mk (and_mk (and_mk (and_mk (and_mk (and_mk (and_mk (and_mk (and_mk (and_mk (and_mk (and_mk (and_mk ?_ ?_) ?_) ?_) ?_) ?_) ?_) ?_) ?_) ?_) ?_) ?_) ?_) ?_) ?_) ?_) ?_) ?_) ?_) ?_) ?_) ?_) ?_) ?_) ?_) ?_) ?_) ?_) ?_) ?_) ?_) ?_)
 all_goals as_aux_lemma => kernel_rfl
theorem named:Tryz.pinned.checked.prog.funcNamed Rows.topQuartzFlippedRow.func=some 3:=by kernel_rfl
theorem inst:Tryz.f3.isInstance Tryz.pinned.checked.prog Rows.topQuartzFlippedRow.origin Rows.topQuartzFlippedRow.targs:=of_decide_eq_true (by kernel_rfl)
theorem wrap:Tryz.f3.isWrapper Tryz.pinned.checked.prog Rows.topQuartzFlippedRow.wrapper Rows.topQuartzFlippedRow.mainSum:=by
 unfold Func.isWrapper;first | (rw [if_pos (by decide +kernel)];kernel_rfl) | (rw [if_neg (by decide +kernel)];exact ⟨rfl,rfl⟩)
theorem said:Rows.TopQuartzFlippedSaid :=
 OpenClaim.holds_of_cond 3 Tryz.f3 rfl rfl rfl rfl rfl rfl rfl ⟨rfl,rfl,rfl,rfl,rfl⟩ rfl rfl rfl rfl rfl named Tryz.func3 closed inst wrap
  (fun os started H enc _ F=>by rw [OpenClaim.pre_eq_preRow];exact lifted os started H enc F)
theorem plain (f:FuncId) (fn:Func) (hf:Tryz.pinned.checked.prog.funcNamed "spillage/spillagetop.TopQuartzFlipped"=some f) (hfn:Tryz.pinned.checked.prog.funcs[f]?=some fn) :
  false=Tryz.pinned.checked.prog.looks []∧∀ (j:Nat) t,fn.params[j]?=some t→Tryz.pinned.checked.prog.wantsStandIn t=false:=by
 obtain rfl:f=3:=Option.some.inj ((show Tryz.prog.funcNamed "spillage/spillagetop.TopQuartzFlipped"=some 3 by kernel_rfl).symm.trans hf) |>.symm
 obtain rfl:fn=Tryz.f3:=(Option.some.inj (Tryz.func3.symm.trans hfn)).symm
 refine ⟨by kernel_rfl,fun j t ht=>?_⟩
 have hall:∀ t,t∈Tryz.f3.params.toList→Tryz.prog.wantsStandIn t=false:=by
  have:(Tryz.f3.params.toList.all fun t=>!(Tryz.prog.wantsStandIn t))=true:=by kernel_rfl
  intro t ht
  have:=List.all_eq_true.1 this t ht
  simpa using this
 exact hall t (Array.mem_toList_iff.2 (Array.mem_of_getElem? ht))
theorem card:Rows.TopQuartzFlippedCardSaid :=
 Claim7.holds_tied_plain_at .later [] _ _ _ _ said (fun _ h=>by cases h) (by kernel_rfl) (fun _ h=>by cases h) topQuartzFlipped_row_tie rfl ⟨rfl,rfl⟩ (by kernel_rfl) rfl plain (by kernel_rfl)
end Go.Proofs.YtfiigcbhiopagaaGreatDoor.topQuartzFlipped
