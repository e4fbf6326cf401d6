/- What a row's list of package-level variables gives: each of them holds the data that the contracts lean on. An own text. -/
import Derived.Test.YtljabneifpkbjaaGreatDoorArgs
import Derived.Deep.DeepHandedRow
import Derived.Lib.LaidTab
namespace Go.Proofs.YtljabneifpkbjaaGreatDoor
open Go.SX Go.RowKit Go.WideShapes Go.ChangeShapes
theorem Qbn {P:Program} {w:World} {n:String} {d:DataW Unit}:∀ {l:List (String×DataW Unit)} {ps:List MemPlace} (i:Nat),DataW.LaidVars P w l ps→l[i]?=some (n,d) →
  ∃ g t cs fuel p,P.globalNamed n=some g∧(P.globals[g]?).map (·.type)=some t∧w.var? P n=some cs∧DataW.trod (fun _=>()) P w 0 (fun _=>true) false fuel t cs.toList=some (d,p)
 | [],_,i,_,hi=>by simp at hi
 | (m,e)::r,ps,0,h,hi=>by
  simp only [List.getElem?_cons_zero,jIj,jPj] at hi
  obtain ⟨rfl,rfl⟩:=hi
  obtain ⟨g,t,cs,fuel,p,q,h1,h2,h3,h4,_,_⟩:=h
  exact ⟨g,t,cs,fuel,p,h1,h2,h3,h4⟩
 | (m,e)::r,ps,i+1,h,hi=>by
  obtain ⟨g,t,cs,fuel,p,q,h1,h2,h3,h4,h5,_⟩:=h
  exact Qbn i h5 (by simpa using hi)
theorem QdA {P:Program} {W:World} {name:String} {g:Nat} {k:IntKind} {zs:List Int} (hg:P.globalNamed name=some g) (h:W.var? P name=some (zs.map fun z=>Value.int k z).toArray) :
  GAt W (fun _=>False) g (.agg (zs.map fun z=>.v (.int k z))):=by
 have hc:=World.var?_cell hg h
 unfold World.var? at h
 rw [hg,jBj] at h
 split at h
 case h_2=>cases h
 rename_i cs t fz hh
 simp only [jIj] at h
 refine ⟨⟨fun h=>h,?_,fun j c hj=>?_⟩,cs,t,fz,hh,by rw [h];simp [D.cells]⟩
 ·rcases Nat.lt_or_ge g W.heap.size with h | h
  ·exact h
  ·rw [Array.getElem?_eq_none h] at hh;cases hh
 ·have hj' : (zs.map fun z=>D.v (.int k z))[j]?=some c:=hj
  rw [List.getElem?_map] at hj'
  obtain ⟨z,hz,rfl⟩:=Option.map_eq_some_iff.1 hj'
  refine ⟨.int k z,?_,.v _⟩
  rw [Nat.zero_add,hc j]
  simp [hz]
theorem gat1 {P:Program} {W:World} {laid:List (String×DataW Unit)} {ps:List MemPlace} {name:String} {g:Nat} {t e:TypeId} {n:Nat} {k:IntKind} {zs:List Int} (i:Nat) (hl:DataW.LaidVars P W laid ps) (hi:laid[i]?=some (name,Lib.tabData k zs))
  (hg:P.globalNamed name=some g) (hty:(P.globals[g]?).map (·.type)=some t) (ht:P.underlying t=some (.array n e)) (he:P.underlying e=some (.int k)) (hce:P.cellsOf e=1) (hct:P.cellsOf t=n) :
  GAt W (fun _=>False) g (.agg (zs.map fun z=>.v (.int k z))):=by
 obtain ⟨g',t',cs,fuel,p,hg',ht',hv,hd⟩:=Qbn i hl hi
 obtain rfl:=Option.some.inj (hg.symm.trans hg')
 obtain rfl:=Option.some.inj (hty.symm.trans ht')
 have:=Lib.cells_of_tab ht he hce hct hd
 exact QdA hg (by rw [hv,← this])
theorem QcB {W:World} (h1:GAt W (fun _=>False) 1 (.agg (Lib.pow10Tab.map fun z=>.v (.int .u64 z)))) (g:Nat) (x:D) (hg:cx.G g=some x):GAt W (fun _=>False) g x:=by
 have e:cx.G g=(match Nat.beq g 1 with
  | true=>some pow10D
  | false=>none):=rfl
 rw [e] at hg
 split at hg
 ·rename_i hb
  rw [Nat.eq_of_beq_eq_true hb]
  cases hg
  exact h1
 ·cases hg
end Go.Proofs.YtljabneifpkbjaaGreatDoor
