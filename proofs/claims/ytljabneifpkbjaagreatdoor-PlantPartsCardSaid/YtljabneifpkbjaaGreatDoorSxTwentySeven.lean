/- Runs in which nothing is symbolic, with a table of what is known of calls. -/
import Derived.Test.YtljabneifpkbjaaGreatDoorSxTwentySix
namespace Go.SX
def AllK (cx:Cx):List (Nat×jVj×D)→Prop
 | []=>True
 | p::l=>Computes cx p.1 p.2.1 p.2.2∧AllK cx l
theorem AllK.mem {cx:Cx}:∀ {l:List (Nat×jVj×D)},AllK cx l→∀ p,p∈l→Computes cx p.1 p.2.1 p.2.2
 | [],_,p,h=>by cases h
 | q::l,hh,p,h=>by
  cases h with
  | head=>exact hh.1
  | tail _ h=>exact AllK.mem hh.2 p h
def WQ (s:jSj) (i:Int):Option Int:=match (if 0≤i then s[i.toNat]? else none) with
 | some b=>some (b.toNat:Int)
 | none=>none
theorem QbM {P:Program} {t:TypeId} (hu:P.underlying t=some .string) {s:jSj} {i x:Int} (h:WQ s i=some x):QV P (Instr.index t (.string s) (.int .i64 i))=some (.int .u8 x):=by
 unfold WQ at h
 have e:QV P (Instr.index t (.string s) (.int .i64 i))=QV P ((match P.underlying t with
  | some d=>pure d
  | none=>stuck "no such type") >>= fun d=>match d,(Value.string s) with
  | .array len elem,.agg cs=>(if 0≤i∧i < len then do part elem cs (i.toNat * (← sizeOf elem)) else boundsPanic .i64 i len .index)
  | .string,.string s=>(match (if 0≤i then s[i.toNat]? else none) with
   | some b=>pure (.int .u8 b.toNat)
   | none=>boundsPanic .i64 i s.size .index)
  | _,_=>stuck "Index: array or string expected"):=rfl
 rw [e,hu]
 split at h
 ·rename_i b hb
  cases h
  simp only [pure_bind,hb]
  rfl
 ·cases h
end Go.SX
