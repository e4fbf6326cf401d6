/- Runs in which nothing is symbolic, with a table of what is known of calls. -/
import Derived.Test.YtljabneifpkbjaaGreatDoorSxTwentySix
namespace Go.SX
def AllK (cx:Cx):List (Nat×jVj×D)→Prop
 | []=>True
 | p::l=>Computes cx p.1 p.2.1 p.2.2∧AllK cx l
theorem AllK.mem {cx:Cx}:∀ {l:List (Nat×jVj×D)},AllK cx l→∀ p,p∈l→Computes cx p.1 p.2.1 p.2.2
 | [],_,p,h=>by cases h
 | q::l,hh,p,h=>by
  cases h with
  | head=>exact hh.1
  | tail _ h=>exact AllK.mem hh.2 p h
def WQ (s:jSj) (i:Int):Option Int:=match (if 0≤i then s[i.toNat]? else none) with
 | some b=>some (b.toNat:Int)
 | none=>none
theorem QbM {P:Program} {t:TypeId} (hu:P.underlying t=some .string) {s:jSj} {i x:Int} (h:WQ s i=some x):QV P (Instr.index t (.string s) (.int .i64 i))=some (.int .u8 x):=by
 unfold WQ at h
 have e:QV P (Instr.index t (.string s) (.int .i64 i))=QV P ((match P.underlying t with
  | some d=>pure d
  | none=>stuck "no such type") >>= fun d=>match d,(Value.string s) with
  | .array len elem,.agg cs=>(if 0≤i∧i < len then do part elem cs (i.toNat * (← sizeOf elem)) else boundsPanic .i64 i len .index)
  | .string,.string s=>(match (if 0≤i then s[i.toNat]? else none) with
   | some b=>pure (.int .u8 b.toNat)
   | none=>boundsPanic .i64 i s.size .index)
  | _,_=>stuck "Index: array or string expected"):=rfl
 rw [e,hu]
 split at h
 ·rename_i b hb
  cases h
  simp only [pure_bind,hb]
  rfl
 ·cases h
def Qi7 (s:jSj) (lo hi:Option Int):Option jSj :=
 if 0≤lo.getD 0∧lo.getD 0≤hi.getD s.size∧hi.getD s.size≤(s.size:Int) then some (s.extract (lo.getD 0).toNat (hi.getD s.size).toNat) else none
theorem QmP {P:Program} {t:TypeId} (hu:P.underlying t=some .string) {s x:jSj} {lo hi:Option Int} (h:Qi7 s lo hi=some x) :
  QV P (Instr.sliceAt t (.string s) (lo.map (.int .i64)) (hi.map (.int .i64)) none)=some (.string x):=by
 unfold Qi7 at h
 split at h
 case isFalse=>cases h
 rename_i hb
 simp only [jIj] at h
 have bnd:∀ (i:Int) (y:Nat) (c:BoundsCode),0≤i→i≤y→Instr.sliceBound (.int .i64 i) y c=pure i.toNat:=by
  intro i y c h1 h2
  simp [Instr.sliceBound,asIntOf,h1,h2]
 have e:QV P (Instr.sliceAt t (.string s) (lo.map (.int .i64)) (hi.map (.int .i64)) none)=QV P ((match P.underlying t with
  | some d=>pure d
  | none=>stuck "no such type") >>= fun d=>match d with
  | .array n elem=>do
   let a ← Instr.sureAddr (.string s)
   let (l,h,m) ← Instr.sliceBounds false n n (lo.map (.int .i64)) (hi.map (.int .i64)) none
   let size ← sizeOf elem
   pure (.slice (some (if m=l then a else a.add (l * size))) (h - l) (m - l))
  | _=>Instr.slice t (.string s) (lo.map (.int .i64)) (hi.map (.int .i64)) none):=rfl
 rw [e,hu]
 simp only [pure_bind]
 have e2:QV P (Instr.slice t (.string s) (lo.map (.int .i64)) (hi.map (.int .i64)) none)=QV P ((match P.underlying t with
  | some d=>pure d
  | none=>stuck "no such type") >>= fun d=>match d,(Value.string s) with
  | .string,.string s=>do
   if (none:Option Value).isSome then stuck "Slice: full slice of a string"
   let (l,h,_) ← Instr.sliceBounds false s.size s.size (lo.map (.int .i64)) (hi.map (.int .i64)) none
   pure (.string (s.extract l h))
  | .slice elem,.slice a len cap=>do
   let (l,h,m) ← Instr.sliceBounds true len cap (lo.map (.int .i64)) (hi.map (.int .i64)) none
   let size ← sizeOf elem
   pure (.slice (if m=l then a else a.map (·.add (l * size))) (h - l) (m - l))
  | .pointer arr,x=>do
   let a ← asAddr x
   let .array n elem ← underlying arr | stuck "Slice: array type expected"
   let (l,h,m) ← Instr.sliceBounds false n n (lo.map (.int .i64)) (hi.map (.int .i64)) none
   let size ← sizeOf elem
   pure (.slice (some (if m=l then a else a.add (l * size))) (h - l) (m - l))
  | _,_=>stuck "Slice: string, slice or pointer to array expected"):=rfl
 rw [e2,hu]
 simp only [pure_bind]
 cases lo with
 | none =>
  cases hi with
  | none =>
   simp only [Option.getD_none,Int.toNat_natCast,Int.toNat_zero] at h hb
   subst h
   simp [Instr.sliceBounds]
   rfl
  | some b =>
   simp only [Option.getD_none,Option.getD_some,Int.toNat_zero] at h hb
   subst h
   simp [Instr.sliceBounds,bnd b s.size _ hb.2.1 hb.2.2]
   rfl
 | some a =>
  cases hi with
  | none =>
   simp only [Option.getD_none,Option.getD_some,Int.toNat_natCast] at h hb
   subst h
   simp [Instr.sliceBounds,bnd a s.size _ hb.1 hb.2.1]
   rfl
  | some b =>
   simp only [Option.getD_some] at h hb
   subst h
   have h0:0≤b:=by omega
   have h1:a≤(b.toNat:Int):=by omega
   simp [Instr.sliceBounds,bnd b s.size _ h0 hb.2.2,bnd a b.toNat _ hb.1 h1]
   rfl
end Go.SX
