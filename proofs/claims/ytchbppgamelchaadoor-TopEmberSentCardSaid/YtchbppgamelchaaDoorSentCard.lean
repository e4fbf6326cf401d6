/- The statement TopEmberSent, as a tied card: for every input the law returns true, and each argument reads afterwards as it read before. Its conditions: the listed package-level variables hold what the program's text lays there. -/
import Derived.Test.YtchbppgamelchaaDoorCards
import Derived.Test.YtchbppgamelchaaDoorTie
import Derived.Test.YtchbppgamelchaaDoorSentArgs
import Derived.WalkKit
import Derived.ProofKit
import Derived.OpenShut
import Derived.Deep.DeepHandedRow
import Derived.Lib.LaidTab
set_option linter.unusedVariables false
set_option linter.unusedSimpArgs false
set_option linter.unnecessarySimpa false
namespace Go.Proofs.YtchbppgamelchaaDoor.topEmberSent
open Go.SX Go.ChangeShapes Go.WideShapes Go.ChangeAt Go.RowKit
theorem own:ownKnob Tryd.prog.godebug=none:=by kernel_rfl
theorem globs {W:World} (h:laidMetH Tryd.prog Rows.topEmberSentRow.laid W):∀ g x,cx.G g=some x→GAt W (fun _=>False) g x:=by
 obtain ⟨ps,hl,_⟩:laidMet Tryd.prog Rows.topEmberSentRow.laid W:=h
 exact Qbr (W:=W)
  (gatR (zss:=[[-1,0],[1,0],[0,-1],[0,1]]) (k:=.i64) (m:=4) (n:=2) (t:=92) (t1:=85) 0 hl rfl (by kernel_rfl) (by kernel_rfl) (by kernel_rfl) (by kernel_rfl) (by kernel_rfl) (by kernel_rfl) (by kernel_rfl) (by kernel_rfl))
noncomputable def laidWorld (os:Os):World :=
 { World.holding Tryd.prog os ⟨#[],#[],[]⟩ with heap:=((World.holding Tryd.prog os ⟨#[],#[],[]⟩).heap.modify 0 fun
   | .cells _ t frozen=>.cells #[.int .i64 (-1),.int .i64 0,.int .i64 1,.int .i64 0,.int .i64 0,.int .i64 (-1),.int .i64 0,.int .i64 1] t frozen
   | o=>o) }
theorem laid_met (os:Os):laidMet Tryd.prog Rows.topEmberSentRow.laid ((laidWorld os).forCall (fun _ _=>0) ⟨#[],#[.agg #[.int .i64 0,.int .i64 0,.slice none 0 0],.int .u16 0],[]⟩).memory :=
 laidMet_of_run' 8 (by kernel_rfl) (by kernel_rfl)
theorem reads (os:Os) {H:Type} (enc:TypeId×Value→H):∃ places,DataW.whole enc Tryd.prog ((laidWorld os).forCall (fun _ _=>0) ⟨#[],#[.agg #[.int .i64 0,.int .i64 0,.slice none 0 0],.int .u16 0],[]⟩).memory Tryd.f3.params.toList Rows.topEmberSentSpec.vars false (#[.agg #[.int .i64 0,.int .i64 0,.slice none 0 0],.int .u16 0]:Array Value).toList 8=some ([.agg [.lit (.int .i64 0),.lit (.int .i64 0),.nil],.lit (.int .u16 0)],[],places) :=
 ⟨[],by kernel_rfl⟩
theorem kindsAre:Vq Tryd.prog Tryd.f3.params.toList=some [(true,[.int .i64,.int .i64,.lst false [.flt .f32]]),(false,[.int .u16])]:=by kernel_rfl
theorem specIs (H:Type) (ds:List (DataW H)) (h:ds.length=Tryd.f3.params.size):Rows.topEmberSentSpec.fn H ds={ results:=[.lit (.bool true)],args:=ds }:=by
 have h' : ds.length=2:=h
 match ds,h' with
 | [d0,d1],_=>rfl
theorem boolT:Tryd.prog.underlying 4=some .bool:=by kernel_rfl
theorem resT:Tryd.f3.resultTypes=#[4]:=by kernel_rfl
set_option maxRecDepth 100000 in
theorem contract (H : Type) (enc : TypeId × Value → H) (W : World) (base : Nat) (args : Array Value) (ds gs : List (DataW H)) (before : List MemPlace)
  (hval : ∀ (j : Nat) t v, Tryd.f3.params[j]? = some t → args[j]? = some v → Value.okWide Tryd.prog W .any base t v)
  (hW : DataW.Whole enc Tryd.prog Tryd.f3.params.toList Rows.topEmberSentSpec.vars false W args.toList ds gs before) (hL : laidMetH Tryd.prog Rows.topEmberSentRow.laid W) :
  Calls Tryd.prog 3 args W fun e W' => ∃ v, e = .returned v ∧ Rows.topEmberSentSpec.post enc Tryd.prog Tryd.f3 false true false false W args v W' :=
 kZ kindsAre boolT resT rfl specIs Xp H enc W base args ds gs before hval hW (globs hL)
theorem noInit:Tryd.checked.prog.inits.idxOf? 3=none:=by kernel_rfl
set_option maxRecDepth 100000 in
theorem lifted (os : Os) (started : os.Started) (H : Type) (enc : TypeId × Value → H) (F : Stop.Interp) :
  ReturnsInHanded {} Tryd.checked os 3 .any ((OpenSpec.ofChange Rows.topEmberSentSpec).preRow enc Tryd.prog Tryd.f3 Rows.topEmberSentRow.domain false Rows.topEmberSentRow.laid) (((OpenSpec.ofChange Rows.topEmberSentSpec).at F).post enc Tryd.prog Tryd.f3 false true false false) := by
 obtain ⟨places, hx⟩ := reads os enc
 refine returnsInHanded_of_row (C := Tryd.checked) (s := OpenSpec.ofChange Rows.topEmberSentSpec) own started noInit Tryd.func3
  (witness_row_at (enc := enc) (C := Tryd.checked) false (laidWorld os) #[.agg #[.int .i64 0, .int .i64 0, .slice none 0 0], .int .u16 0] rfl (by kernel_rfl) (by kernel_rfl) (by kernel_rfl)
   (OpenSpec.preRow_of_cond 8 hx (by kernel_rfl) (fun k hk => by cases hk) (by kernel_rfl) (laid_met os))) ?_
 intro W base args ds gs before hval hW _ _ _ hL _ _
 exact contract H enc W base args ds gs before hval hW hL
theorem and_mk {a b:Bool} (ha:a=true) (hb:b=true):(a && b)=true:=by rw [ha,hb];rfl
set_option maxHeartbeats 8000000 in
theorem closed : joinedFacts Tryd.pinned.checked.prog 3 Tryd.f3 (OpenSpec.ofChange Rows.topEmberSentSpec).bare Rows.topEmberSentRow = true := by
 unfold joinedFacts
 refine (and_mk (and_mk (and_mk (and_mk (and_mk (and_mk (and_mk (and_mk (and_mk (and_mk (and_mk (and_mk (and_mk (and_mk (and_mk (and_mk (and_mk (and_mk (and_mk (and_mk (and_mk (and_mk (and_mk (and_mk (and_mk (and_mk (and_mk (and_mk (and_mk (and_mk (and_mk ?_ ?_) ?_) ?_) ?_) ?_) ?_) ?_) ?_) ?_) ?_) ?_) ?_) ?_) ?_) ?_) ?_) ?_) ?_) ?_) ?_) ?_) ?_) ?_) ?_) ?_) ?_) ?_) ?_) ?_) ?_) ?_)
 all_goals as_aux_lemma => kernel_rfl
theorem named:Tryd.pinned.checked.prog.funcNamed Rows.topEmberSentRow.func=some 3:=by kernel_rfl
theorem inst:Tryd.f3.isInstance Tryd.pinned.checked.prog Rows.topEmberSentRow.origin Rows.topEmberSentRow.targs:=of_decide_eq_true (by kernel_rfl)
theorem wrap:Tryd.f3.isWrapper Tryd.pinned.checked.prog Rows.topEmberSentRow.wrapper Rows.topEmberSentRow.mainSum:=by
 unfold Func.isWrapper;first | (rw [if_pos (by decide +kernel)];kernel_rfl) | (rw [if_neg (by decide +kernel)];exact ⟨rfl,rfl⟩)
theorem said:Rows.TopEmberSentSaid :=
 OpenClaim.holds_of_cond 3 Tryd.f3 rfl rfl rfl rfl rfl rfl rfl ⟨rfl,rfl,rfl,rfl,rfl⟩ rfl rfl rfl rfl rfl named Tryd.func3 closed inst wrap
  (fun os started H enc _ F=>by rw [OpenClaim.pre_eq_preRow];exact lifted os started H enc F)
theorem plain (f:FuncId) (fn:Func) (hf:Tryd.pinned.checked.prog.funcNamed "spillage/spillagetop.TopEmberSent"=some f) (hfn:Tryd.pinned.checked.prog.funcs[f]?=some fn) :
  false=Tryd.pinned.checked.prog.looks []∧∀ (j:Nat) t,fn.params[j]?=some t→Tryd.pinned.checked.prog.wantsStandIn t=false:=by
 obtain rfl:f=3:=Option.some.inj ((show Tryd.prog.funcNamed "spillage/spillagetop.TopEmberSent"=some 3 by kernel_rfl).symm.trans hf) |>.symm
 obtain rfl:fn=Tryd.f3:=(Option.some.inj (Tryd.func3.symm.trans hfn)).symm
 refine ⟨by kernel_rfl,fun j t ht=>?_⟩
 have hall:∀ t,t∈Tryd.f3.params.toList→Tryd.prog.wantsStandIn t=false:=by
  have:(Tryd.f3.params.toList.all fun t=>!(Tryd.prog.wantsStandIn t))=true:=by kernel_rfl
  intro t ht
  have:=List.all_eq_true.1 this t ht
  simpa using this
 exact hall t (Array.mem_toList_iff.2 (Array.mem_of_getElem? ht))
theorem card:Rows.TopEmberSentCardSaid :=
 Claim7.holds_tied_plain_at .later [] _ _ _ _ said (fun _ h=>by cases h) (by kernel_rfl) (fun _ h=>by cases h) topEmberSent_row_tie rfl ⟨rfl,rfl⟩ (by kernel_rfl) rfl plain (by kernel_rfl)
end Go.Proofs.YtchbppgamelchaaDoor.topEmberSent
