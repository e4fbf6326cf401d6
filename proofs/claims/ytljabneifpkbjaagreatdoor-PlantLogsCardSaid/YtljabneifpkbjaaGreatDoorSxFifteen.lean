/- Regions that draw their order. -/
import Derived.Test.YtljabneifpkbjaaGreatDoorSxFourteen
namespace Go.SX
section
variable {cx:Cx} {H G:List (Nat×Blk)} {sym:Bool} {orc:List Orc} {ev ev' : Operand→AV}
theorem Qb2 {o:Oper} (h:∀ x,x∈o.op.operands.toList→ev x=ev' x) {name:Nat}:aop cx sym orc H name ev o=aop cx sym orc H name ev' o:=by
 have hm:∀ (l:List Operand),(∀ x,x∈l→x∈o.op.operands.toList)→l.map ev=l.map ev':=fun l hl=>List.map_congr_left fun x hx=>h x (hl x hx)
 cases hop:o.op with
 | move x=>simp only [aop,hop];rw [h x (by simp [hop,Op.operands])]
 | assign x=>simp only [aop,hop];rw [h x (by simp [hop,Op.operands])]
 | pick c a b=>simp only [aop,hop];rw [h c (by simp [hop,Op.operands]),h a (by simp [hop,Op.operands]),h b (by simp [hop,Op.operands])]
 | box t x=>simp only [aop,hop];rw [h x (by simp [hop,Op.operands])]
 | build t parts =>
  simp only [aop,hop]
  have:(parts.toList.map fun p=>(p.1,ev p.2))=(parts.toList.map fun p=>(p.1,ev' p.2)):=List.map_congr_left fun p hp=>by
   rw [h p.2 (by simp only [hop,Op.operands,List.mem_map];exact ⟨p,hp,rfl⟩)]
  rw [this]
 | buildSlice t n parts =>
  simp only [aop,hop]
  have:(parts.toList.map fun p=>(p.1,ev p.2))=(parts.toList.map fun p=>(p.1,ev' p.2)):=List.map_congr_left fun p hp=>by
   rw [h p.2 (by simp only [hop,Op.operands,List.mem_map];exact ⟨p,hp,rfl⟩)]
  rw [this]
 | load t a=>simp only [aop,hop];rw [h a (by simp [hop,Op.operands])]
 | store t a x=>simp only [aop,hop];rw [h a (by simp [hop,Op.operands]),h x (by simp [hop,Op.operands])]
 | nilCheck x=>simp only [aop,hop];rw [h x (by simp [hop,Op.operands])]
 | binOp op t x y yt=>simp only [aop,hop];rw [h x (by simp [hop,Op.operands]),h y (by simp [hop,Op.operands])]
 | unOp op t x=>simp only [aop,hop];rw [h x (by simp [hop,Op.operands])]
 | convert s t x=>simp only [aop,hop];rw [h x (by simp [hop,Op.operands])]
 | makeFunc f first cap =>
  simp only [aop,hop]
  rw [hm first.toList (fun x hx=>by simp [hop,Op.operands];left;simpa using hx),hm cap.toList (fun x hx=>by simp [hop,Op.operands];right;simpa using hx)]
 | makeSlice t l c=>simp only [aop,hop];rw [h l (by simp [hop,Op.operands]),h c (by simp [hop,Op.operands])]
 | slice t x lo hi mx =>
  simp only [aop,hop]
  have ho:∀ q:Option Operand,(∀ x,q=some x→x∈o.op.operands.toList)→q.map ev=q.map ev':=fun q hq=>by
   cases q with
   | none=>rfl
   | some x=>simp only [Option.map_some];rw [h x (hq x rfl)]
  rw [h x (by simp [hop,Op.operands]),ho lo (fun y hy=>by subst hy;simp [hop,Op.operands]),ho hi (fun y hy=>by subst hy;simp [hop,Op.operands]),ho mx (fun y hy=>by subst hy;simp [hop,Op.operands])]
 | fieldAddr s x f=>simp only [aop,hop];rw [h x (by simp [hop,Op.operands])]
 | field s x f=>simp only [aop,hop];rw [h x (by simp [hop,Op.operands])]
 | indexAddr t x ix=>simp only [aop,hop];rw [h x (by simp [hop,Op.operands]),h ix (by simp [hop,Op.operands])]
 | index t x ix=>simp only [aop,hop];rw [h x (by simp [hop,Op.operands]),h ix (by simp [hop,Op.operands])]
 | extract x i=>simp only [aop,hop];rw [h x (by simp [hop,Op.operands])]
 | mapUpdate t m k x=>simp only [aop,hop];rw [h m (by simp [hop,Op.operands]),h k (by simp [hop,Op.operands]),h x (by simp [hop,Op.operands])]
 | insert t m k x=>simp only [aop,hop];rw [h m (by simp [hop,Op.operands]),h k (by simp [hop,Op.operands]),h x (by simp [hop,Op.operands])]
 | lookup t m k ok=>simp only [aop,hop];rw [h m (by simp [hop,Op.operands]),h k (by simp [hop,Op.operands])]
 | range t x=>simp only [aop,hop];rw [h x (by simp [hop,Op.operands])]
 | next x isS=>simp only [aop,hop];rw [h x (by simp [hop,Op.operands])]
 | call c =>
  obtain ⟨callee,args,ats⟩:=c
  cases callee with
  | builtin b =>
   simp only [aop,hop]
   rw [hm args.toList (fun x hx=>by simp [hop,Op.operands,Call.operands];simpa using hx)]
  | _=>simp only [aop,hop]
 | _=>simp only [aop,hop]
theorem ED {p q:Rec→Bool} {tm:List (Nat×AV)} {t:Nat}:∀ (recs:List Rec),(∀ r,r∈recs→r.dst=some t→p r=q r)→look (VX (recs.filter p)++tm) t=look (VX (recs.filter q)++tm) t
 | [],_=>rfl
 | r::l,h=>by
  have ih:=ED (p:=p) (q:=q) (tm:=tm) (t:=t) l (fun r' hr'=>h r' (List.mem_cons_of_mem _ hr'))
  have hc:∀ (f:Rec→Bool),(r::l).filter f=if f r then r::l.filter f else l.filter f:=fun f=>by simp [List.filter_cons]
  by_cases hd:r.dst=some t
  ·have:=h r jMj hd
   rw [hc,hc,this]
   split
   ·simp only [VX,hd,List.cons_append,Qd]
   ·exact ih
  ·have key:∀ f:Rec→Bool,look (VX ((r::l).filter f)++tm) t=look (VX (l.filter f)++tm) t:=by
    intro f
    rw [hc]
    split
    ·simp only [VX]
     split
     ·rename_i u hu
      rw [List.cons_append,Qc]
      intro e;subst e;exact hd hu
     ·rfl
    ·rfl
   rw [key,key,ih]
theorem UD {p q:Rec→Bool} {hp:List (Nat×Blk)} {b:Nat}:∀ (recs:List Rec),(∀ r,r∈recs→look r.up b≠none→p r=q r)→look (Wx (recs.filter p)++hp) b=look (Wx (recs.filter q)++hp) b
 | [],_=>rfl
 | r::l,h=>by
  have ih:=UD (p:=p) (q:=q) (hp:=hp) (b:=b) l (fun r' hr'=>h r' (List.mem_cons_of_mem _ hr'))
  have hc:∀ (f:Rec→Bool),(r::l).filter f=if f r then r::l.filter f else l.filter f:=fun f=>by simp [List.filter_cons]
  cases hu:look r.up b with
  | some k =>
   have:=h r jMj (by rw [hu];simp)
   rw [hc,hc,this]
   split
   ·simp only [Wx,List.append_assoc];rw [Wl r.up,Wl r.up,hu]
   ·exact ih
  | none =>
   have key:∀ f:Rec→Bool,look (Wx ((r::l).filter f)++hp) b=look (Wx (l.filter f)++hp) b:=by
    intro f
    rw [hc]
    split
    ·simp only [Wx,List.append_assoc];rw [Wl,hu]
    ·rfl
   rw [key,key,ih]
theorem VZ {p:Rec→Bool} {hp:List (Nat×Blk)} {b:Nat} {k:Blk}:∀ (recs:List Rec),look (Wx (recs.filter p)++hp) b=some k→(∃ r,r∈recs∧p r=true∧look r.up b≠none) ∨ look hp b=some k
 | [],h=>.inr h
 | r::l,h=>by
  rw [List.filter_cons] at h
  split at h
  ·rename_i hp'
   simp only [Wx,List.append_assoc] at h
   rw [Wl] at h
   cases hu:look r.up b with
   | some k'=>exact .inl ⟨r,jMj,hp',by rw [hu];simp⟩
   | none =>
    rw [hu] at h
    rcases VZ l h with ⟨r',h1,h2,h3⟩ | h
    ·exact .inl ⟨r',List.mem_cons_of_mem _ h1,h2,h3⟩
    ·exact .inr h
  ·rcases VZ l h with ⟨r',h1,h2,h3⟩ | h
   ·exact .inl ⟨r',List.mem_cons_of_mem _ h1,h2,h3⟩
   ·exact .inr h
theorem Y8 (mask:Nat):∀ (recs:List Rec),Kc mask recs=recs.filter fun r=>mask.testBit r.i
 | []=>rfl
 | r::l=>by
  simp only [Kc,List.filter_cons]
  rw [Y8 mask l]
  cases mask.testBit r.i <;> rfl
end
end Go.SX
