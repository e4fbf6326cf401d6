/- The statement TopEmberWashed, for every input the law returns true, and each argument reads afterwards as it read before. -/
import Derived.Test.YtjbgbmjgfgdnhaaRows
import Derived.Test.YtjbgbmjgfgdnhaaWashArgs
import Derived.WalkKit
import Derived.ProofKit
import Derived.OpenShut
import Derived.Deep.DeepHandedRow
import Derived.Lib.LaidTab
set_option linter.unusedSimpArgs false
set_option linter.unusedVariables false
set_option linter.unnecessarySimpa false
namespace Go.Proofs.Ytjbgbmjgfgdnhaa.topEmberWashed
open Go.SX Go.ChangeShapes Go.WideShapes Go.ChangeAt Go.RowKit
theorem own:ownKnob Try.prog.godebug=none:=by kernel_rfl
theorem globs {W:World}(h:laidMetH Try.prog Rows.topEmberWashedRow.laid W):∀g x,cx.G g=some x->GAt W (fun _=>False) g x:=by intro g x hg;cases hg
noncomputable def laidWorld (os:Os):World :=
 { World.holding Try.prog os ⟨#[],#[],[]⟩ with heap:=(World.holding Try.prog os ⟨#[],#[],[]⟩).heap }
theorem laid_met (os:Os):laidMet Try.prog Rows.topEmberWashedRow.laid ((laidWorld os).forCall (fun _ _=>0) ⟨#[],#[.slice none 0 0,.agg #[.int .u8 0,.int .u8 0],.agg #[.int .u8 0,.int .u8 0,.int .u8 0,.int .u8 0,.int .u8 0]],[]⟩).memory :=
 laidMet_of_run' 8 (by kernel_rfl) (by kernel_rfl)
theorem reads (os:Os){H:Type}(enc:TypeId×Value->H):∃places,DataW.whole enc Try.prog ((laidWorld os).forCall (fun _ _=>0) ⟨#[],#[.slice none 0 0,.agg #[.int .u8 0,.int .u8 0],.agg #[.int .u8 0,.int .u8 0,.int .u8 0,.int .u8 0,.int .u8 0]],[]⟩).memory Try.f3.params.toList Rows.topEmberWashedSpec.vars false (#[.slice none 0 0,.agg #[.int .u8 0,.int .u8 0],.agg #[.int .u8 0,.int .u8 0,.int .u8 0,.int .u8 0,.int .u8 0]]:Array Value).toList 8=some ([.nil,.agg [.lit (.int .u8 0),.lit (.int .u8 0)],.agg [.lit (.int .u8 0),.lit (.int .u8 0),.lit (.int .u8 0),.lit (.int .u8 0),.lit (.int .u8 0)]],[],places) :=
 ⟨[],by kernel_rfl⟩
theorem kindsAre:YK Try.prog Try.f3.params.toList=some [(false,[.lst false [.int .u8]]),(true,[.int .u8,.int .u8]),(true,[.int .u8,.int .u8,.int .u8,.int .u8,.int .u8])]:=by kernel_rfl
theorem specIs (H:Type)(ds:List (DataW H))(h:ds.length=Try.f3.params.size):Rows.topEmberWashedSpec.fn H ds={ results:=[.lit (.bool true)],args:=ds }:=by
 have h' : ds.length=3:=h;match ds,h' with
 | [d0,d1,d2],_=>rfl
theorem boolT:Try.prog.underlying 4=some .bool:=by kernel_rfl
theorem resT:Try.f3.resultTypes=#[4]:=by kernel_rfl
set_option maxRecDepth 100000 in
theorem contract (H : Type) (enc : TypeId × Value → H) (W : World) (base : Nat) (args : Array Value) (ds gs : List (DataW H)) (before : List MemPlace)
  (hval : ∀ (j : Nat) t v, Try.f3.params[j]? = some t → args[j]? = some v → Value.okWide Try.prog W .any base t v)
  (hW : DataW.Whole enc Try.prog Try.f3.params.toList Rows.topEmberWashedSpec.vars false W args.toList ds gs before) (hL : laidMetH Try.prog Rows.topEmberWashedRow.laid W) :
  Calls Try.prog 3 args W fun e W' => ∃ v, e = .returned v ∧ Rows.topEmberWashedSpec.post enc Try.prog Try.f3 false true false false W args v W' :=
 Qac kindsAre boolT resT rfl specIs QtR H enc W base args ds gs before hval hW (globs hL)
theorem noInit:Try.checked.prog.inits.idxOf? 3=none:=by kernel_rfl
set_option maxRecDepth 100000 in
theorem lifted (os : Os) (started : os.Started) (H : Type) (enc : TypeId × Value → H) (F : Stop.Interp) :
  ReturnsInHanded {} Try.checked os 3 .any ((OpenSpec.ofChange Rows.topEmberWashedSpec).preRow enc Try.prog Try.f3 Rows.topEmberWashedRow.domain false Rows.topEmberWashedRow.laid) (((OpenSpec.ofChange Rows.topEmberWashedSpec).at F).post enc Try.prog Try.f3 false true false false) := by
 obtain ⟨places, hx⟩ := reads os enc
 refine returnsInHanded_of_row (C := Try.checked) (s := OpenSpec.ofChange Rows.topEmberWashedSpec) own started noInit Try.func3
  (witness_row_at (enc := enc) (C := Try.checked) false (laidWorld os) #[.slice none 0 0, .agg #[.int .u8 0, .int .u8 0], .agg #[.int .u8 0, .int .u8 0, .int .u8 0, .int .u8 0, .int .u8 0]] rfl (by kernel_rfl) (by kernel_rfl) (by kernel_rfl)
   (OpenSpec.preRow_of_cond 8 hx (by kernel_rfl) (fun k hk => by cases hk) (by kernel_rfl) (laid_met os))) ?_
 intro W base args ds gs before hval hW _ _ _ hL _ _
 exact contract H enc W base args ds gs before hval hW hL
theorem and_mk {a b:Bool}(ha:a=true)(hb:b=true):(a&&b)=true:=by rw[ha,hb];rfl
set_option maxHeartbeats 8000000 in
theorem closed : joinedFacts Try.pinned.checked.prog 3 Try.f3 (OpenSpec.ofChange Rows.topEmberWashedSpec).bare Rows.topEmberWashedRow = true := by
 unfold joinedFacts
 refine (and_mk (and_mk (and_mk (and_mk (and_mk (and_mk (and_mk (and_mk (and_mk (and_mk (and_mk (and_mk (and_mk (and_mk (and_mk (and_mk (and_mk (and_mk (and_mk (and_mk (and_mk (and_mk (and_mk (and_mk (and_mk (and_mk (and_mk (and_mk (and_mk (and_mk (and_mk ?_ ?_) ?_) ?_) ?_) ?_) ?_) ?_) ?_) ?_) ?_) ?_) ?_) ?_) ?_) ?_) ?_) ?_) ?_) ?_) ?_) ?_) ?_) ?_) ?_) ?_) ?_) ?_) ?_) ?_) ?_) ?_)
 all_goals as_aux_lemma => kernel_rfl
theorem named:Try.pinned.checked.prog.funcNamed Rows.topEmberWashedRow.func=some 3:=by kernel_rfl
theorem inst:Try.f3.isInstance Try.pinned.checked.prog Rows.topEmberWashedRow.origin Rows.topEmberWashedRow.targs:=of_decide_eq_true (by kernel_rfl)
theorem wrap:Try.f3.isWrapper Try.pinned.checked.prog Rows.topEmberWashedRow.wrapper Rows.topEmberWashedRow.mainSum:=by unfold Func.isWrapper;first|(rw[jTj (by decide +kernel)];kernel_rfl)|(rw[jFj (by decide +kernel)];exact⟨rfl,rfl⟩)
theorem said:Rows.TopEmberWashedSaid :=
 OpenClaim.holds_of_cond 3 Try.f3 rfl rfl rfl rfl rfl rfl rfl ⟨rfl,rfl,rfl,rfl,rfl⟩ rfl rfl rfl rfl rfl named Try.func3 closed inst wrap
  (fun os started H enc _ F=>by rw[OpenClaim.pre_eq_preRow];exact lifted os started H enc F)
end Go.Proofs.Ytjbgbmjgfgdnhaa.topEmberWashed
