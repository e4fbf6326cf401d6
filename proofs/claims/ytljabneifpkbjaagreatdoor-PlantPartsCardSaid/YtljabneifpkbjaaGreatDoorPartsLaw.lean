/- Own texts, merged: PSto, PSim, PAcm, PStr, PPar, PartsLaw. -/
import Derived.Test.YtljabneifpkbjaaGreatDoorPAcd
import Derived.Test.YtljabneifpkbjaaGreatDoorParts1
set_option maxRecDepth 20000
namespace Go.Proofs.YtljabneifpkbjaaGreatDoor
open Go.SX
def fM (ms:List Mir) (a:jSj):Option Mir:=ms.find? fun m=>decide (m.1=a)
theorem Qiz (a:jSj):fM [] a=none:=rfl
theorem Qhe (m:Mir) (l:List Mir) (a:jSj):fM (m::l) a=if m.1=a then some m else fM l a:=by
 unfold fM
 by_cases h:m.1=a
 ·rw [List.find?_cons_of_pos (by simpa using h),jTj h]
 ·rw [List.find?_cons_of_neg (by simpa using h),jFj h]
theorem QhS (m:Mir) (a:jSj):∀ l:List Mir,fM (l++[m]) a=(match fM l a with
  | some x=>some x
  | none=>if m.1=a then some m else none)
 | []=>by show fM [m] a=_;rw [Qhe,Qiz]
 | x::l=>by
  rw [List.cons_append,Qhe,Qhe,QhS m a l]
  by_cases h:x.1=a
  ·rw [jTj h,jTj h]
  ·rw [jFj h,jFj h]
theorem Qh1 (f:Mir→Mir) (hf:∀ m,(f m).1=m.1) (a:jSj):∀ l:List Mir,fM (l.map f) a=(fM l a).map f
 | []=>rfl
 | x::l=>by
  rw [jCj,Qhe,Qhe,Qh1 f hf a l,hf]
  by_cases h:x.1=a
  ·rw [jTj h,jTj h];rfl
  ·rw [jFj h,jFj h]
theorem Qhn (ms:List Mir) (a:jSj):(fM ms a).isSome=Zu (nmM ms) a:=by
 rw [Bool.eq_iff_iff]
 show _↔(pos (nmM ms) a).isSome=true
 rw [pos_mem]
 unfold fM nmM
 rw [List.find?_isSome,List.mem_map]
 constructor
 ·rintro ⟨x,h1,h2⟩;exact ⟨x,h1,of_decide_eq_true h2⟩
 ·rintro ⟨x,h1,h2⟩;exact ⟨x,h1,jDj h2⟩
theorem QhQ (m:Mir) (l:List Mir) (a:jSj) (h:Zu (nmM (m::l)) a=true):iM (m::l) a=if m.1=a then 0 else iM l a+1:=by
 unfold iM
 show (pos (m.1::nmM l) a).getD 0=if m.1=a then 0 else (pos (nmM l) a).getD 0+1
 rw [show pos (m.1::nmM l) a=if m.1=a then some 0 else (pos (nmM l) a).map (·+1) from rfl]
 by_cases hm:m.1=a
 ·rw [jTj hm,jTj hm];rfl
 ·rw [jFj hm,jFj hm]
  have hh:Zu (nmM l) a=true:=by
   rw [← Qhn] at h ⊢
   rw [Qhe,jFj hm] at h
   exact h
  obtain ⟨i,hi⟩:=Option.isSome_iff_exists.1 (show (pos (nmM l) a).isSome=true from hh)
  rw [hi];rfl
theorem QhD:∀ (ms:List Mir) (a:jSj),Zu (nmM ms) a=true→fM ms a=some (mAt ms a)
 | [],a,h=>by cases h
 | m::l,a,h=>by
  rw [Qhe]
  unfold mAt
  rw [QhQ m l a h]
  by_cases hm:m.1=a
  ·rw [jTj hm,jTj hm];rfl
  ·rw [jFj hm,jFj hm]
   have hh:Zu (nmM l) a=true:=by
    rw [← Qhn] at h ⊢
    rw [Qhe,jFj hm] at h
    exact h
   rw [QhD l a hh];rfl
theorem Qh0 (b a:jSj) {m' : Mir} (hm' : m'.1=b):∀ (ms:List Mir),Zu (nmM ms) b=true→fM (ms.set (iM ms b) m') a=if a=b then some m' else fM ms a
 | [],h=>by cases h
 | m::l,h=>by
  rw [QhQ m l b h]
  by_cases hm:m.1=b
  ·rw [jTj hm]
   show fM (m'::l) a=_
   rw [Qhe,Qhe,hm',hm]
   by_cases ha:a=b
   ·rw [jTj ha,jTj ha.symm]
   ·rw [jFj ha,jFj (fun h=>ha h.symm),jFj (fun h=>ha h.symm)]
  ·rw [jFj hm]
   have hh:Zu (nmM l) b=true:=by
    rw [← Qhn] at h ⊢
    rw [Qhe,jFj hm] at h
    exact h
   show fM (m::l.set (iM l b) m') a=_
   rw [Qhe,Qh0 b a hm' l hh,Qhe]
   by_cases ha:a=b
   ·rw [jTj ha,jTj ha,ha,jFj hm]
   ·rw [jFj ha,jFj ha]
theorem QhA {ms:List Mir} {a:jSj} (h:¬ Zu (nmM ms) a=true):fM ms a=none:=by
 have:=Qhn ms a
 simp only [Bool.not_eq_true] at h
 rw [h] at this
 simpa using this
end Go.Proofs.YtljabneifpkbjaaGreatDoor
set_option maxRecDepth 20000
namespace Go.Proofs.YtljabneifpkbjaaGreatDoor
open Go.SX
structure Sim (a s:jSj) (R Q:Reg):Prop where
 level:Q.level=R.level
 filled:Q.filled=R.filled
 tripped:Q.tripped=R.tripped
 tick:Q.tick≤R.tick
 secs:Q.sectors=if Zu R.sectors s=true then [s] else []
 mirs:Q.mirrors=(fM R.mirrors a).toList
 sec:∀ m,fM R.mirrors a=some m→m.2.1=s
 offs:Q.offers=[]
 heat:Q.heat=Q.light
theorem Qii (a s:jSj):Sim a s Reg.zero Reg.zero:=⟨rfl,rfl,rfl,Int.le_refl _,rfl,rfl,fun m h=>(by cases h),rfl,rfl⟩
theorem Qhf {a s:jSj} {R Q:Reg} (h:Sim a s R Q) (t:Int):Sim a s (bkd R t) (bkd Q t):=⟨h.level,h.filled,h.tripped,Int.le_refl _,h.secs,h.mirs,h.sec,h.offs,by
 have:=h.heat
 show Q.heat+ZL Q t=Q.light+ZL Q t
 omega⟩
theorem Qhh {a s:jSj} {R Q:Reg} (h:Sim a s R Q) {t:Int} (ht:R.tick≤t):Sim a s (bkd R t) Q:=⟨h.level,h.filled,h.tripped,Int.le_trans h.tick ht,h.secs,h.mirs,h.sec,h.offs,h.heat⟩
theorem QhR (l:List jSj) (x s:jSj):Zu (l++[x]) s=true↔Zu l s=true ∨ x=s:=by
 show (pos (l++[x]) s).isSome=true↔(pos l s).isSome=true ∨ x=s
 rw [pos_mem,pos_mem,List.mem_append,List.mem_singleton]
 constructor
 ·rintro (h | h)
  ·exact .inl h
  ·exact .inr h.symm
 ·rintro (h | h)
  ·exact .inl h
  ·exact .inr h.symm
theorem Qhw {a s:jSj} {R Q:Reg} (h:Sim a s R Q) {f:Mir→Mir} (hf:∀ m,(f m).1=m.1∧(f m).2.1=m.2.1) (hh:Zu (nmM R.mirrors) a=true):Sim a s (chgM R a (f (mAt R.mirrors a))) (chgM Q a (f (mAt Q.mirrors a))):=by
 have e1:=QhD _ _ hh
 have n1:(mAt R.mirrors a).1=a:=QeL hh
 have e2:Q.mirrors=[mAt R.mirrors a]:=by rw [h.mirs,e1];rfl
 have e3:Zu (nmM Q.mirrors) a=true:=by rw [e2,← Qhn,Qhe,jTj n1];rfl
 have e4:mAt Q.mirrors a=mAt R.mirrors a:=by
  have:=QhD _ _ e3
  rw [e2,Qhe,jTj n1] at this
  exact (Option.some.inj (this.trans (by rw [← e2]))).symm
 have e5:fM (R.mirrors.set (iM R.mirrors a) (f (mAt R.mirrors a))) a=some (f (mAt R.mirrors a)):=by
  rw [Qh0 a a ((hf _).1.trans n1) _ hh,jTj rfl]
 refine ⟨h.level,h.filled,h.tripped,h.tick,h.secs,?_,?_,h.offs,h.heat⟩
 ·show Q.mirrors.set (iM Q.mirrors a) (f (mAt Q.mirrors a))=(fM (R.mirrors.set (iM R.mirrors a) (f (mAt R.mirrors a))) a).toList
  rw [e5,e4,e2]
  have:iM [mAt R.mirrors a] a=0:=by rw [QhQ _ _ _ (by rw [← e2];exact e3),jTj n1]
  rw [this];rfl
 ·intro m hm
  have hm:fM (R.mirrors.set (iM R.mirrors a) (f (mAt R.mirrors a))) a=some m:=hm
  rw [e5] at hm
  rw [← Option.some.inj hm,(hf _).2]
  exact h.sec _ e1
theorem Qhk {a s b:jSj} {R Q:Reg} (h:Sim a s R Q) (hb:b≠a) {m:Mir} (hm:m.1=b) (hh:Zu (nmM R.mirrors) b=true):Sim a s (chgM R b m) Q:=by
 have e5:fM (R.mirrors.set (iM R.mirrors b) m) a=fM R.mirrors a:=by rw [Qh0 b a hm _ hh,jFj (fun e=>hb e.symm)]
 exact ⟨h.level,h.filled,h.tripped,h.tick,h.secs,h.mirs.trans (by rw [← e5];rfl),fun m hm=>h.sec m (by rw [← e5];exact hm),h.offs,h.heat⟩
theorem Qh5 {a s:jSj} {R Q:Reg} (h:Sim a s R Q) {f:Mir→Mir} (hf:∀ m,(f m).1=m.1∧(f m).2.1=m.2.1):Sim a s { R with mirrors:=R.mirrors.map f } { Q with mirrors:=Q.mirrors.map f }:=by
 have e:=Qh1 f (fun m=>(hf m).1) a R.mirrors
 refine ⟨h.level,h.filled,h.tripped,h.tick,h.secs,?_,?_,h.offs,h.heat⟩
 ·show Q.mirrors.map f=(fM (R.mirrors.map f) a).toList
  rw [e,h.mirs]
  cases fM R.mirrors a <;> rfl
 ·intro m hm
  have hm:fM (R.mirrors.map f) a=some m:=hm
  rw [e] at hm
  obtain ⟨x,hx,rfl⟩:=Option.map_eq_some_iff.1 hm
  rw [(hf x).2];exact h.sec x hx
theorem Qip (x:jSj) (m:Mir):(EN x m).1=m.1∧(EN x m).2.1=m.2.1:=by
 unfold EN Ka
 split <;> exact ⟨rfl,rfl⟩
theorem Qh6 {a s:jSj} {R Q:Reg} (h:Sim a s R Q) {num:Int} {kind text:jSj} {names:List jSj} {vals:List Int} :
  ∀ {k:Ki},Good (num,kind,names,vals,text) k→acc k R names vals=0→abtK a s names k=true→(k=.mirror→names.getD 1 ⟨#[]⟩=s)→Sim a s (app k R names vals) (app k Q names vals)
 | .sector,hg,ha,hb,_=>by
  obtain ⟨x,t,rfl,rfl,htv⟩:=hg.d11 rfl rfl
  have hx:x=s:=of_decide_eq_true hb
  subst hx
  have hq:=Qhf h t
  have hno:Zu R.sectors x=false:=YT (e:=9) (by decide) (QS ha).2.2.1
  refine ⟨hq.level,hq.filled,hq.tripped,hq.tick,?_,hq.mirs,hq.sec,hq.offs,hq.heat⟩
  show Q.sectors++[x]=if Zu (R.sectors++[x]) x=true then [x] else []
  rw [jTj ((QhR _ _ _).2 (.inr rfl)),h.secs,hno];rfl
 | .mirror,hg,ha,hb,hs=>by
  obtain ⟨x,y,t,v,rfl,rfl,htv⟩:=hg.d22 rfl rfl
  have hx:x=a:=of_decide_eq_true hb
  have hy:y=s:=hs rfl
  subst hx;subst hy
  have hq:=Qhf h t
  have hno:¬ Zu (nmM R.mirrors) x=true:=by
   have h0:(if Zu R.sectors y=true then QF (Zu (nmM R.mirrors) x) 9 else 10)=0:=(QS ha).2.2.1
   split at h0
   ·rw [YT (e:=9) (by decide) h0];decide
   ·cases h0
  have e:fM (R.mirrors++[((x,y,v,0,false,false):Mir)]) x=some (x,y,v,0,false,false):=by
   rw [QhS,QhA hno]
   dsimp only
   rw [jTj rfl]
  refine ⟨hq.level,hq.filled,hq.tripped,hq.tick,hq.secs,?_,?_,hq.offs,hq.heat⟩
  ·show Q.mirrors++[((x,y,v,0,false,false):Mir)]=(fM (R.mirrors++[((x,y,v,0,false,false):Mir)]) x).toList
   rw [e,h.mirs,QhA hno];rfl
  ·intro m hm
   have hm:fM (R.mirrors++[((x,y,v,0,false,false):Mir)]) x=some m:=hm
   rw [e] at hm
   rw [← Option.some.inj hm]
 | .soil,hg,ha,hb,_=>by
  obtain ⟨a0,t,v,rfl,rfl,htv⟩:=hg.d12 rfl rfl
  have hx:a0=a:=of_decide_eq_true hb
  subst hx
  have hk:Zu (nmM R.mirrors) a0=true:=ZW (QS ha).2.2.1
  exact Qhw (Qhf h t) (f:=fun m=>X8 m v) (fun _=>⟨rfl,rfl⟩) hk
 | .clean,hg,ha,hb,_=>by
  obtain ⟨a0,t,rfl,rfl,htv⟩:=hg.d11 rfl rfl
  have hx:a0=a:=of_decide_eq_true hb
  subst hx
  have hk:Zu (nmM R.mirrors) a0=true:=ZW (QS ha).2.2.1
  exact Qhw (Qhf h t) (f:=fun m=>X8 m 0) (fun _=>⟨rfl,rfl⟩) hk
 | .defect,hg,ha,hb,_=>by
  obtain ⟨a0,t,rfl,rfl,htv⟩:=hg.d11 rfl rfl
  have hx:a0=a:=of_decide_eq_true hb
  subst hx
  have hk:Zu (nmM R.mirrors) a0=true:=ZW (QS ha).2.2.1
  exact Qhw (Qhf h t) (f:=fun m=>zU m true) (fun _=>⟨rfl,rfl⟩) hk
 | .repair,hg,ha,hb,_=>by
  obtain ⟨a0,t,rfl,rfl,htv⟩:=hg.d11 rfl rfl
  have hx:a0=a:=of_decide_eq_true hb
  subst hx
  have hk:Zu (nmM R.mirrors) a0=true:=ZW (QS ha).2.2.1
  exact Qhw (Qhf h t) (f:=fun m=>zU m false) (fun _=>⟨rfl,rfl⟩) hk
 | .aim,hg,ha,hb,_=>by
  obtain ⟨a0,t,rfl,rfl,htv⟩:=hg.d11 rfl rfl
  have hx:a0=a:=of_decide_eq_true hb
  subst hx
  have hk:Zu (nmM R.mirrors) a0=true:=ZW (QS ha).2.2.1
  exact Qhw (Qhf h t) (f:=aimM) (fun _=>⟨rfl,rfl⟩) hk
 | .park,hg,ha,hb,_=>by
  obtain ⟨a0,t,rfl,rfl,htv⟩:=hg.d11 rfl rfl
  have hx:a0=a:=of_decide_eq_true hb
  subst hx
  have hk:Zu (nmM R.mirrors) a0=true:=ZW (QS ha).2.2.1
  exact Qhw (Qhf h t) (f:=Ka) (fun _=>⟨rfl,rfl⟩) hk
 | .dim,hg,ha,hb,_=>by
  obtain ⟨x,t,rfl,rfl,htv⟩:=hg.d11 rfl rfl
  exact Qh5 (Qhf h t) (Qip x)
 | .sun,hg,ha,hb,_=>by
  have hq:=Qhf h (vals.getD 0 0)
  exact ⟨rfl,hq.filled,hq.tripped,hq.tick,hq.secs,hq.mirs,hq.sec,hq.offs,hq.heat⟩
 | .fill,hg,ha,hb,_=>by
  have hq:=Qhf h (vals.getD 0 0)
  exact ⟨hq.level,rfl,hq.tripped,hq.tick,hq.secs,hq.mirs,hq.sec,hq.offs,hq.heat⟩
 | .drain,hg,ha,hb,_=>by
  have hq:=Qhf h (vals.getD 0 0)
  exact ⟨hq.level,rfl,hq.tripped,hq.tick,hq.secs,hq.mirs,hq.sec,hq.offs,hq.heat⟩
 | .trip,hg,ha,hb,_=>by
  have hq:=Qh5 (Qhf h (vals.getD 0 0)) (f:=Ka) (fun _=>⟨rfl,rfl⟩)
  exact ⟨hq.level,hq.filled,rfl,hq.tick,hq.secs,hq.mirs,hq.sec,hq.offs,hq.heat⟩
 | .reset,hg,ha,hb,_=>by
  have hq:=Qhf h (vals.getD 0 0)
  exact ⟨hq.level,hq.filled,rfl,hq.tick,hq.secs,hq.mirs,hq.sec,hq.offs,hq.heat⟩
 | .offer,hg,ha,hb,_=>by cases hb
 | .deliver,hg,ha,hb,_=>by cases hb
 | .bill,hg,ha,hb,_=>by cases hb
 | .undo,hg,ha,hb,_=>Qhf h (vals.getD 0 0)
theorem Qh4 {a s:jSj} {R Q:Reg} (h:Sim a s R Q) {num:Int} {kind text:jSj} {names:List jSj} {vals:List Int} :
  ∀ {k:Ki},k≠.undo→Good (num,kind,names,vals,text) k→acc k R names vals=0→abtK a s names k=false→Sim a s (app k R names vals) Q
 | .sector,_,hg,ha,hb=>by
  obtain ⟨x,t,rfl,rfl,htv⟩:=hg.d11 rfl rfl
  have hx:¬ x=s:=of_decide_eq_false hb
  have hq:=Qhh h (t:=t) (Int.not_lt.1 (QS ha).1)
  refine ⟨hq.level,hq.filled,hq.tripped,hq.tick,?_,hq.mirs,hq.sec,hq.offs,hq.heat⟩
  show Q.sectors=if Zu (R.sectors++[x]) s=true then [s] else []
  rw [h.secs]
  by_cases hs:Zu R.sectors s=true
  ·rw [jTj hs,jTj ((QhR _ _ _).2 (.inl hs))]
  ·rw [jFj hs,jFj (fun h=>((QhR _ _ _).1 h).elim hs hx)]
 | .mirror,_,hg,ha,hb=>by
  obtain ⟨x,y,t,v,rfl,rfl,htv⟩:=hg.d22 rfl rfl
  have hx:¬ x=a:=of_decide_eq_false hb
  have hq:=Qhh h (t:=t) (Int.not_lt.1 (QS ha).1)
  have e:fM (R.mirrors++[((x,y,v,0,false,false):Mir)]) a=fM R.mirrors a:=by
   rw [QhS]
   cases fM R.mirrors a with
   | none=>dsimp only;rw [jFj hx]
   | some m=>rfl
  exact ⟨hq.level,hq.filled,hq.tripped,hq.tick,hq.secs,hq.mirs.trans (congrArg Option.toList e.symm),fun m hm=>hq.sec m (e.symm.trans hm),hq.offs,hq.heat⟩
 | .soil,_,hg,ha,hb=>by
  obtain ⟨a0,t,v,rfl,rfl,htv⟩:=hg.d12 rfl rfl
  have hx:¬ a0=a:=of_decide_eq_false hb
  have hk:Zu (nmM R.mirrors) a0=true:=ZW (QS ha).2.2.1
  exact Qhk (Qhh h (t:=t) (Int.not_lt.1 (QS ha).1)) hx (QeL hk) hk
 | .clean,_,hg,ha,hb=>by
  obtain ⟨a0,t,rfl,rfl,htv⟩:=hg.d11 rfl rfl
  have hx:¬ a0=a:=of_decide_eq_false hb
  have hk:Zu (nmM R.mirrors) a0=true:=ZW (QS ha).2.2.1
  exact Qhk (Qhh h (t:=t) (Int.not_lt.1 (QS ha).1)) hx (QeL hk) hk
 | .defect,_,hg,ha,hb=>by
  obtain ⟨a0,t,rfl,rfl,htv⟩:=hg.d11 rfl rfl
  have hx:¬ a0=a:=of_decide_eq_false hb
  have hk:Zu (nmM R.mirrors) a0=true:=ZW (QS ha).2.2.1
  exact Qhk (Qhh h (t:=t) (Int.not_lt.1 (QS ha).1)) hx (QeL hk) hk
 | .repair,_,hg,ha,hb=>by
  obtain ⟨a0,t,rfl,rfl,htv⟩:=hg.d11 rfl rfl
  have hx:¬ a0=a:=of_decide_eq_false hb
  have hk:Zu (nmM R.mirrors) a0=true:=ZW (QS ha).2.2.1
  exact Qhk (Qhh h (t:=t) (Int.not_lt.1 (QS ha).1)) hx (QeL hk) hk
 | .aim,_,hg,ha,hb=>by
  obtain ⟨a0,t,rfl,rfl,htv⟩:=hg.d11 rfl rfl
  have hx:¬ a0=a:=of_decide_eq_false hb
  have hk:Zu (nmM R.mirrors) a0=true:=ZW (QS ha).2.2.1
  exact Qhk (Qhh h (t:=t) (Int.not_lt.1 (QS ha).1)) hx (QeL hk) hk
 | .park,_,hg,ha,hb=>by
  obtain ⟨a0,t,rfl,rfl,htv⟩:=hg.d11 rfl rfl
  have hx:¬ a0=a:=of_decide_eq_false hb
  have hk:Zu (nmM R.mirrors) a0=true:=ZW (QS ha).2.2.1
  exact Qhk (Qhh h (t:=t) (Int.not_lt.1 (QS ha).1)) hx (QeL hk) hk
 | .dim,_,hg,ha,hb=>by
  obtain ⟨x,t,rfl,rfl,htv⟩:=hg.d11 rfl rfl
  have hx:¬ x=s:=of_decide_eq_false hb
  have hq:=Qhh h (t:=t) (Int.not_lt.1 (QS ha).1)
  have e:fM (R.mirrors.map (EN x)) a=fM R.mirrors a:=by
   rw [Qh1 _ (fun m=>(Qip x m).1)]
   cases hm:fM R.mirrors a with
   | none=>rfl
   | some m =>
    show some (EN x m)=some m
    unfold EN
    rw [jFj (by rw [h.sec m hm];exact fun e=>hx e.symm)]
  exact ⟨hq.level,hq.filled,hq.tripped,hq.tick,hq.secs,hq.mirs.trans (congrArg Option.toList e.symm),fun m hm=>hq.sec m (e.symm.trans hm),hq.offs,hq.heat⟩
 | .sun,_,hg,ha,hb=>by cases hb
 | .fill,_,hg,ha,hb=>by cases hb
 | .drain,_,hg,ha,hb=>by cases hb
 | .trip,_,hg,ha,hb=>by cases hb
 | .reset,_,hg,ha,hb=>by cases hb
 | .offer,_,hg,ha,hb=>by
  have hq:=Qhh h (t:=vals.getD 0 0) (Int.not_lt.1 (QS ha).1)
  exact ⟨hq.level,hq.filled,hq.tripped,hq.tick,hq.secs,hq.mirs,hq.sec,hq.offs,hq.heat⟩
 | .deliver,_,hg,ha,hb=>by
  have hq:=Qhh h (t:=vals.getD 0 0) (Int.not_lt.1 (QS ha).1)
  exact ⟨hq.level,hq.filled,hq.tripped,hq.tick,hq.secs,hq.mirs,hq.sec,hq.offs,hq.heat⟩
 | .bill,_,hg,ha,hb=>by
  have hq:=Qhh h (t:=vals.getD 0 0) (Int.not_lt.1 (QS ha).1)
  exact ⟨hq.level,hq.filled,hq.tripped,hq.tick,hq.secs,hq.mirs,hq.sec,hq.offs,hq.heat⟩
 | .undo,hk,_,_,_=>absurd rfl hk
end Go.Proofs.YtljabneifpkbjaaGreatDoor
set_option maxRecDepth 20000
namespace Go.Proofs.YtljabneifpkbjaaGreatDoor
open Go.SX
theorem QhF {a s:jSj} {R Q:Reg} (h:Sim a s R Q) (hh:Zu (nmM R.mirrors) a=true):Q.mirrors=[mAt R.mirrors a]∧Zu (nmM Q.mirrors) a=true∧mAt Q.mirrors a=mAt R.mirrors a:=by
 have e1:=QhD _ _ hh
 have n1:(mAt R.mirrors a).1=a:=QeL hh
 have e2:Q.mirrors=[mAt R.mirrors a]:=by rw [h.mirs,e1];rfl
 have e3:Zu (nmM Q.mirrors) a=true:=by rw [e2,← Qhn,Qhe,jTj n1];rfl
 refine ⟨e2,e3,?_⟩
 have:=QhD _ _ e3
 rw [e2,Qhe,jTj n1] at this
 exact (Option.some.inj (this.trans (by rw [← e2]))).symm
theorem Qil {a s:jSj} {R Q:Reg} (h:Sim a s R Q):Zu Q.sectors s=Zu R.sectors s:=by
 rw [h.secs]
 by_cases hs:Zu R.sectors s=true
 ·rw [jTj hs,hs]
  unfold Zu pos
  rw [jTj rfl];rfl
 ·rw [jFj hs]
  simp only [Bool.not_eq_true] at hs
  rw [hs];rfl
theorem Qiv {a s:jSj} {R Q:Reg} (h:Sim a s R Q) {num:Int} {kind text:jSj} {names:List jSj} {vals:List Int} :
  ∀ {k:Ki},Good (num,kind,names,vals,text) k→acc k R names vals=0→abtK a s names k=true→(k=.mirror→names.getD 1 ⟨#[]⟩=s)→known k Q names=0∧spec k Q names vals=0
 | .sector,hg,ha,hb,_=>by
  obtain ⟨x,t,rfl,rfl,htv⟩:=hg.d11 rfl rfl
  have hx:x=s:=of_decide_eq_true hb
  subst hx
  have hno:Zu R.sectors x=false:=YT (e:=9) (by decide) (QS ha).2.2.1
  refine ⟨?_,?_⟩
  ·show QF (Zu Q.sectors x) 9=0
   rw [Qil h,hno];rfl
  ·show QF ((Q.sectors.length:Int) == 8) 5=0
   rw [h.secs,hno];rfl
 | .mirror,hg,ha,hb,hs=>by
  obtain ⟨x,y,t,v,rfl,rfl,htv⟩:=hg.d22 rfl rfl
  have hx:x=a:=of_decide_eq_true hb
  have hy:y=s:=hs rfl
  subst hx;subst hy
  have h0:(if Zu R.sectors y=true then QF (Zu (nmM R.mirrors) x) 9 else 10)=0:=(QS ha).2.2.1
  have hsp:Qt [inR v 1 100,QF ((R.mirrors.length:Int) == 32) 5]=0:=(QS ha).2.2.2
  by_cases hsy:Zu R.sectors y=true
  ·rw [jTj hsy] at h0
   have hno:¬ Zu (nmM R.mirrors) x=true:=by rw [YT (e:=9) (by decide) h0];decide
   have hq:Q.mirrors=[]:=by rw [h.mirs,QhA hno];rfl
   refine ⟨?_,?_⟩
   ·show (if Zu Q.sectors y=true then QF (Zu (nmM Q.mirrors) x) 9 else 10)=0
    rw [Qil h,jTj hsy,hq];rfl
   ·show Qt [inR v 1 100,QF ((Q.mirrors.length:Int) == 32) 5]=0
    rw [hq,Zv hsp (inR v 1 100) (by simp)];rfl
  ·rw [jFj hsy] at h0;cases h0
 | .soil,hg,ha,hb,_=>by
  obtain ⟨a0,t,v,rfl,rfl,htv⟩:=hg.d12 rfl rfl
  have hx:a0=a:=of_decide_eq_true hb
  subst hx
  obtain ⟨q1,q2,q3⟩:=QhF h (ZW (QS ha).2.2.1)
  have hsp:=(QS ha).2.2.2
  refine ⟨by show QF (!Zu (nmM Q.mirrors) a0) 10=0;rw [q2];rfl,?_⟩
  exact hsp
 | .clean,hg,ha,hb,_=>by
  obtain ⟨a0,t,rfl,rfl,htv⟩:=hg.d11 rfl rfl
  have hx:a0=a:=of_decide_eq_true hb
  subst hx
  obtain ⟨q1,q2,q3⟩:=QhF h (ZW (QS ha).2.2.1)
  have hsp:=(QS ha).2.2.2
  refine ⟨by show QF (!Zu (nmM Q.mirrors) a0) 10=0;rw [q2];rfl,?_⟩
  rfl
 | .defect,hg,ha,hb,_=>by
  obtain ⟨a0,t,rfl,rfl,htv⟩:=hg.d11 rfl rfl
  have hx:a0=a:=of_decide_eq_true hb
  subst hx
  obtain ⟨q1,q2,q3⟩:=QhF h (ZW (QS ha).2.2.1)
  have hsp:=(QS ha).2.2.2
  refine ⟨by show QF (!Zu (nmM Q.mirrors) a0) 10=0;rw [q2];rfl,?_⟩
  unfold spec at hsp ⊢
  show _=_
  simp only [List.getD_cons_zero,q3] at hsp ⊢
  exact hsp
 | .repair,hg,ha,hb,_=>by
  obtain ⟨a0,t,rfl,rfl,htv⟩:=hg.d11 rfl rfl
  have hx:a0=a:=of_decide_eq_true hb
  subst hx
  obtain ⟨q1,q2,q3⟩:=QhF h (ZW (QS ha).2.2.1)
  have hsp:=(QS ha).2.2.2
  refine ⟨by show QF (!Zu (nmM Q.mirrors) a0) 10=0;rw [q2];rfl,?_⟩
  unfold spec at hsp ⊢
  show _=_
  simp only [List.getD_cons_zero,q3] at hsp ⊢
  exact hsp
 | .park,hg,ha,hb,_=>by
  obtain ⟨a0,t,rfl,rfl,htv⟩:=hg.d11 rfl rfl
  have hx:a0=a:=of_decide_eq_true hb
  subst hx
  obtain ⟨q1,q2,q3⟩:=QhF h (ZW (QS ha).2.2.1)
  have hsp:=(QS ha).2.2.2
  refine ⟨by show QF (!Zu (nmM Q.mirrors) a0) 10=0;rw [q2];rfl,?_⟩
  unfold spec at hsp ⊢
  show _=_
  simp only [List.getD_cons_zero,q3] at hsp ⊢
  exact hsp
 | .aim,hg,ha,hb,_=>by
  obtain ⟨a0,t,rfl,rfl,htv⟩:=hg.d11 rfl rfl
  have hx:a0=a:=of_decide_eq_true hb
  subst hx
  obtain ⟨q1,q2,q3⟩:=QhF h (ZW (QS ha).2.2.1)
  have hsp:=(QS ha).2.2.2
  refine ⟨by show QF (!Zu (nmM Q.mirrors) a0) 10=0;rw [q2];rfl,?_⟩
  unfold spec at hsp ⊢
  simp only [List.getD_cons_zero,q3,h.filled,h.tripped] at hsp ⊢
  exact hsp
 | .dim,hg,ha,hb,_=>by
  obtain ⟨x,t,rfl,rfl,htv⟩:=hg.d11 rfl rfl
  have hx:x=s:=of_decide_eq_true hb
  subst hx
  refine ⟨?_,rfl⟩
  show QF (!Zu Q.sectors x) 10=0
  rw [Qil h]
  exact (QS ha).2.2.1
 | .sun,hg,ha,hb,_=>⟨rfl,(QS ha).2.2.2⟩
 | .fill,hg,ha,hb,_=>by
  have hsp:QF R.filled 9=0:=(QS ha).2.2.2
  exact ⟨rfl,by show QF Q.filled 9=0;rw [h.filled];exact hsp⟩
 | .drain,hg,ha,hb,_=>by
  have hsp:Qt [QF (!R.filled) 22,QF (R.mirrors.any isA) 31]=0:=(QS ha).2.2.2
  have h1:=Zv hsp (QF (!R.filled) 22) (by simp)
  have h2:=YT (e:=31) (by decide) (Zv hsp (QF (R.mirrors.any isA) 31) (by simp))
  refine ⟨rfl,?_⟩
  show Qt [QF (!Q.filled) 22,QF (Q.mirrors.any isA) 31]=0
  have h3:Q.mirrors.any isA=false:=by
   rw [h.mirs]
   cases hm:fM R.mirrors a with
   | none=>rfl
   | some m =>
    have hmem:m∈R.mirrors:=List.mem_of_find?_eq_some hm
    have hna:¬ isA m=true:=fun hA=>by
     have:R.mirrors.any isA=true:=List.any_eq_true.2 ⟨m,hmem,hA⟩
     rw [h2] at this;cases this
    simp only [Bool.not_eq_true] at hna
    show (isA m || false)=false
    rw [hna];rfl
  rw [h.filled,h1,h3];rfl
 | .trip,hg,ha,hb,_=>by
  have hsp:QF R.tripped 9=0:=(QS ha).2.2.2
  exact ⟨rfl,by show QF Q.tripped 9=0;rw [h.tripped];exact hsp⟩
 | .reset,hg,ha,hb,_=>by
  have hsp:QF (!R.tripped) 22=0:=(QS ha).2.2.2
  exact ⟨rfl,by show QF (!Q.tripped) 22=0;rw [h.tripped];exact hsp⟩
 | .offer,hg,ha,hb,_=>by cases hb
 | .deliver,hg,ha,hb,_=>by cases hb
 | .bill,hg,ha,hb,_=>by cases hb
 | .undo,hg,ha,hb,_=>⟨rfl,rfl⟩
theorem Qix {a s:jSj} {R Q:Reg} (h:Sim a s R Q) {c:Nat} (hr:Inv c R):0≤wz Q∧wz Q≤wz R:=by
 unfold wz
 rw [h.level,h.mirs]
 have hgen:∀ l:List Mir,(∀ m,m∈l→okM m)→0≤UR R.level (fM l a).toList∧UR R.level (fM l a).toList≤UR R.level l:=by
  intro l
  induction l with
  | nil=>intro _;exact ⟨Int.le_refl _,Int.le_refl _⟩
  | cons m l ih =>
   intro hm
   have h1:=(EU hr.level (hm m jMj)).2.2
   have h2:=ih fun x hx=>hm x (List.mem_cons_of_mem _ hx)
   have h3:=kl hr.level (l:=l) fun x hx=>hm x (List.mem_cons_of_mem _ hx)
   rw [Qhe]
   by_cases e:m.1=a
   ·rw [jTj e]
    show 0≤yh R.level m+0∧yh R.level m+0≤yh R.level m+UR R.level l
    omega
   ·rw [jFj e]
    show 0≤UR R.level (fM l a).toList∧UR R.level (fM l a).toList≤yh R.level m+UR R.level l
    omega
 exact hgen _ hr.mirs
theorem QhK (Q:Reg) (t u:Int):ZL Q t=ZL Q u+wz Q * (t - u):=by
 unfold ZL
 rw [← Int.mul_add]
 congr 1
 omega
theorem QhC (Q:Reg):ZL Q Q.tick=0:=by unfold ZL;rw [Int.sub_self,Int.mul_zero]
theorem Qiy {a s:jSj} {R Q:Reg} (h:Sim a s R Q) {c:Nat} (hr:Inv c R) (hl:Q.light+ZL Q R.tick≤R.light) {t:Int} (ht:R.tick≤t):Q.light+ZL Q t≤R.light+ZL R t:=by
 have h1:=Qix h hr
 have h2:wz Q * (t - R.tick)≤wz R * (t - R.tick):=Int.mul_le_mul_of_nonneg_right h1.2 (by omega)
 rw [QhK Q t R.tick]
 have h3:ZL R t=wz R * (t - R.tick):=rfl
 omega
theorem Qij {a:jSj} {R:Reg} {m:Mir} (hm:fM R.mirrors a=some m) {num:Int} {kind text:jSj} {names:List jSj} {vals:List Int} {k:Ki} (hg:Good (num,kind,names,vals,text) k) (ha:acc k R names vals=0) (hk:k≠.undo):∃ m',fM (app k R names vals).mirrors a=some m'∧m'.2.1=m.2.1:=by
 have h:Sim a m.2.1 R { R with sectors:=if Zu R.sectors m.2.1=true then [m.2.1] else [],mirrors:=(fM R.mirrors a).toList,offers:=[],heat:=R.light } :=
  ⟨rfl,rfl,rfl,Int.le_refl _,rfl,rfl,fun x hx=>by rw [hm] at hx;rw [← Option.some.inj hx],rfl,rfl⟩
 have key:∀ Q',Sim a m.2.1 (app k R names vals) Q'→Q'.mirrors≠[]→∃ m',fM (app k R names vals).mirrors a=some m'∧m'.2.1=m.2.1:=fun Q' hq hne=>by
  cases hx:fM (app k R names vals).mirrors a with
  | none=>rw [hq.mirs,hx] at hne;exact absurd rfl hne
  | some x=>exact ⟨x,rfl,hq.sec x hx⟩
 by_cases hb:abtK a m.2.1 names k=true
 ·by_cases hmi:k=.mirror
  ·subst hmi
   obtain ⟨x,y,t,v,rfl,rfl,htv⟩:=hg.d22 rfl rfl
   have hx:x=a:=of_decide_eq_true hb
   subst hx
   have h0:(if Zu R.sectors y=true then QF (Zu (nmM R.mirrors) x) 9 else 10)=0:=(QS ha).2.2.1
   split at h0
   ·have:=YT (e:=9) (by decide) h0
    rw [← Qhn,hm] at this;cases this
   ·cases h0
  ·have hq:=Qh6 h hg ha hb (fun e=>absurd e hmi)
   refine key _ hq ?_
   rw [hq.mirs]
   intro hnil
   have hc:∀ Q:Reg,Q.mirrors.length=1→(app k Q names vals).mirrors.length=1:=by
    intro Q h1
    unfold app act
    cases k <;> first | exact absurd rfl hmi | exact h1 | (show (List.set _ _ _).length=1;rw [List.length_set];exact h1) | (show (List.map _ _).length=1;rw [List.length_map];exact h1)
   have:=hc { R with sectors:=if Zu R.sectors m.2.1=true then [m.2.1] else [],mirrors:=(fM R.mirrors a).toList,offers:=[],heat:=R.light } (by show (fM R.mirrors a).toList.length=1;rw [hm];rfl)
   rw [hq.mirs,hnil] at this
   cases this
 ·simp only [Bool.not_eq_true] at hb
  have hq:=Qh4 h hk hg ha hb
  refine key _ hq ?_
  show (fM R.mirrors a).toList≠[]
  rw [hm];exact fun h=>by cases h
end Go.Proofs.YtljabneifpkbjaaGreatDoor
set_option maxRecDepth 20000
namespace Go.Proofs.YtljabneifpkbjaaGreatDoor
open Go.SX
theorem QiC (k:Ki) (r:Reg) (ns:List jSj) (vs:List Int):(act k r ns vs).tick=r.tick:=by
 cases k <;> (unfold act;try rfl)
theorem QiD (k:Ki) (r:Reg) (ns:List jSj) (vs:List Int):(act k r ns vs).light=r.light:=by
 cases k <;> (unfold act;try rfl)
theorem QhZ (k:Ki) (r:Reg) (ns:List jSj) (vs:List Int):(app k r ns vs).tick=vs.getD 0 0:=by unfold app;rw [QiC];rfl
theorem Qie (k:Ki) (r:Reg) (ns:List jSj) (vs:List Int):(app k r ns vs).light=r.light+ZL r (vs.getD 0 0):=by unfold app;rw [QiD];rfl
theorem QhM (e:Ev):∀ (l:List Ev) (i:Nat),numF i (l++[e])=numF i l++[(((i+l.length:Nat):Int)+1,e.2)]
 | [],i=>rfl
 | x::l,i=>by
  show ((i:Int)+1,x.2)::numF (i+1) (l++[e])=((i:Int)+1,x.2)::(numF (i+1) l++[(((i+(x::l).length:Nat):Int)+1,e.2)])
  rw [QhM e l (i+1),List.length_cons,show i+1+l.length=i+(l.length+1) by omega]
theorem QhY:∀ (l:List Ev) (i:Nat) (r:Reg),(numF i l).foldl appE r=l.foldl appE r
 | [],_,_=>rfl
 | x::l,i,r=>by
  show (numF (i+1) l).foldl appE (appE r ((i:Int)+1,x.2))=l.foldl appE (appE r x)
  rw [QhY l (i+1)];rfl
theorem QhL (l:List Ev) (i:Nat):QD (numF i l)=QD l:=QhY l i _
theorem Qim {e:Ev} {k:Ki} (h:Good e k) {x:Int} (hx:1≤x∧x≤1000):Good (x,e.2) k:=⟨hx,h.kind,h.names,h.vals,h.name,h.val,h.text⟩
theorem Qiu {R:Reg} {x y:jSj} {t v:Int} (ha:acc .mirror R [x,y] [t,v]=0):fM (app .mirror R [x,y] [t,v]).mirrors x=some (x,y,v,0,false,false):=by
 have h0:(if Zu R.sectors y=true then QF (Zu (nmM R.mirrors) x) 9 else 10)=0:=(QS ha).2.2.1
 have hno:¬ Zu (nmM R.mirrors) x=true:=by
  split at h0
  ·rw [YT (e:=9) (by decide) h0];decide
  ·cases h0
 show fM (R.mirrors++[((x,y,v,0,false,false):Mir)]) x=_
 rw [QhS,QhA hno]
 dsimp only
 rw [jTj rfl]
theorem QhT {Q:Reg} {t:Int} (h1:Q.light+ZL Q t≤1000000000000000) (h2:Q.heat+ZL Q t≤1000000000000000):Zk Q t=0:=by
 unfold Zk
 rw [jTj ⟨h1,h2⟩]
theorem QiB {R:Reg} {t:Int} (h:Zk R t=0):R.light+ZL R t≤1000000000000000∧R.heat+ZL R t≤1000000000000000:=by
 unfold Zk at h
 split at h
 ·assumption
 ·cases h
theorem QiA {k:Ki} {Q:Reg} {ns:List jSj} {vs:List Int} (h1:Q.tick≤vs.getD 0 0) (h2:Zk Q (vs.getD 0 0)=0) (h3:known k Q ns=0) (h4:spec k Q ns vs=0):acc k Q ns vs=0:=by
 unfold acc
 rw [jFj (by omega),h2,h3,h4];rfl
def stQ (a s:jSj) (c:List Ev) (j:Nat):List Ev:=(c.take j).filter (abt a s)
theorem QhW {a s:jSj} {c:List Ev} {j:Nat} {e:Ev} (hx:c[j]?=some e):stQ a s c (j+1)=if abt a s e=true then stQ a s c j++[e] else stQ a s c j:=by
 obtain ⟨hi,hx2⟩:=jGj hx
 unfold stQ
 rw [List.take_succ_eq_append_getElem hi,hx2,List.filter_append]
 by_cases h:abt a s e=true
 ·rw [jTj h,List.filter_cons_of_pos h];rfl
 ·rw [jFj h,List.filter_cons_of_neg h,List.filter_nil,List.append_nil]
def litQ (a s:jSj) (c:List Ev) (j:Nat):Int:=(QD (stQ a s c j)).light+ZL (QD (stQ a s c j)) (QD (c.take j)).tick
theorem QhB {a s:jSj} {c:List Ev} (hok:OkL c) (hc:c.length≤30) (H:∀ j,j≤c.length→∀ m,fM (QD (c.take j)).mirrors a=some m→m.2.1=s) :
  ∀ j,j≤c.length→Sim a s (QD (c.take j)) (QD (stQ a s c j))∧litQ a s c j≤(QD (c.take j)).light∧OkL (numF 0 (stQ a s c j))
 | 0,_=>⟨Qii a s,by show (0:Int)+ZL Reg.zero 0≤0;decide,Jx⟩
 | j+1,hj=>by
  obtain ⟨h1,h2,h3⟩:=QhB hok hc H j (by omega)
  have hx:=List.getElem?_eq_getElem (l:=c) (i:=j) (by omega)
  obtain ⟨k,hk,hg,ha⟩:=hok j _ hx
  have hinv:=yw hok hc j (by omega)
  have hR:QD (c.take (j+1))=app k (QD (c.take j)) (c[j]'(by omega)).2.2.1 (c[j]'(by omega)).2.2.2.1:=by
   rw [List.take_succ_eq_append_getElem (by omega),GA,XR hg]
  have hH:=H (j+1) hj
  unfold litQ at h2 ⊢
  rw [hR] at hH ⊢
  rw [QhW hx,QeS hg]
  generalize (c[j]'(by omega))=e at hg ha hH
  have htk:=Int.not_lt.1 (QS ha).1
  have hlit:=Qiy h1 hinv h2 htk
  rw [QhZ,Qie]
  have hms:k=.mirror→abtK a s e.2.2.1 k=true→e.2.2.1.getD 1 ⟨#[]⟩=s:=by
   intro hm hb
   subst hm
   obtain ⟨x,y,t,v,hn1,hv1,_⟩:=Good.d22 (num:=e.1) (kind:=e.2.1) (names:=e.2.2.1) (vals:=e.2.2.2.1) (text:=e.2.2.2.2) hg rfl rfl
   rw [hn1,hv1] at ha hH
   rw [hn1] at hb ⊢
   have hxa:x=a:=of_decide_eq_true hb
   subst hxa
   exact hH _ (Qiu ha)
  by_cases hb:abtK a s e.2.2.1 k=true
  ·rw [jTj hb,GA,XR hg]
   obtain ⟨hkn,hsp⟩:=Qiv h1 (num:=e.1) (kind:=e.2.1) (text:=e.2.2.2.2) hg ha hb (fun hm=>hms hm hb)
   have hbr:=QiB (QS ha).2.1
   have hbk:Zk (QD (stQ a s c j)) (e.2.2.2.1.getD 0 0)=0:=QhT (by omega) (by rw [h1.heat];omega)
   have hac:=QiA (Int.le_trans h1.tick htk) hbk hkn hsp
   refine ⟨Qh6 h1 (num:=e.1) (kind:=e.2.1) (text:=e.2.2.2.2) hg ha hb (fun hm=>hms hm hb),?_,?_⟩
   ·rw [Qie,show ZL (app k (QD (stQ a s c j)) e.2.2.1 e.2.2.2.1) (e.2.2.2.1.getD 0 0)=0 from by
     have:=QhC (app k (QD (stQ a s c j)) e.2.2.1 e.2.2.2.1)
     rwa [QhZ] at this]
    omega
   ·rw [QhM]
    have hlen:(stQ a s c j).length≤30:=by
     unfold stQ
     have:=List.length_filter_le (abt a s) (c.take j)
     rw [List.length_take] at this
     omega
    exact Qcm h3 hk (Qim hg ⟨by omega,by omega⟩) (by rw [QhL];exact hac)
  ·rw [jFj hb]
   simp only [Bool.not_eq_true] at hb
   exact ⟨Qh4 h1 hk (num:=e.1) (kind:=e.2.1) (text:=e.2.2.2.2) hg ha hb,hlit,h3⟩
end Go.Proofs.YtljabneifpkbjaaGreatDoor
set_option maxRecDepth 20000
namespace Go.Proofs.YtljabneifpkbjaaGreatDoor
open Go.SX
structure Uni (R:Reg):Prop where
 nm:(nmM R.mirrors).Nodup
 sc:R.sectors.Nodup
 ms:∀ m,m∈R.mirrors→m.2.1∈R.sectors
theorem Qih:Uni Reg.zero:=⟨List.nodup_nil,List.nodup_nil,fun _ hm=>(List.not_mem_nil hm).elim⟩
theorem QhH {l:List jSj} {x:jSj} (h:l.Nodup) (hx:¬ x∈l):(l++[x]).Nodup:=by
 rw [List.nodup_append]
 exact ⟨h,by simp,fun a ha b hb e=>by rw [List.mem_singleton.1 hb] at e;exact hx (e ▸ ha)⟩
theorem Qhv {R:Reg} (h:Uni R) {a:jSj} {f:Mir→Mir} (hf:∀ m,(f m).1=m.1∧(f m).2.1=m.2.1) (hh:Zu (nmM R.mirrors) a=true):Uni (chgM R a (f (mAt R.mirrors a))):=by
 have p3:=(WP hh).2.2
 refine ⟨?_,h.sc,fun m hm=>?_⟩
 ·show (nmM (R.mirrors.set (iM R.mirrors a) (f (mAt R.mirrors a)))).Nodup
  have e:nmM (R.mirrors.set (iM R.mirrors a) (f (mAt R.mirrors a)))=nmM R.mirrors:=by
   unfold nmM
   rw [List.map_set,(hf _).1]
   have hg:(R.mirrors.map fun x=>x.1)[iM R.mirrors a]?=some (mAt R.mirrors a).1:=by rw [List.getElem?_map,p3];rfl
   obtain ⟨h1,h2⟩:=jGj hg
   rw [← h2,List.set_getElem_self]
  rw [e];exact h.nm
 ·rcases List.mem_or_eq_of_mem_set hm with h1 | h1
  ·exact h.ms m h1
  ·rw [h1,(hf _).2];exact h.ms _ (List.mem_of_getElem? p3)
theorem Qh2 {R:Reg} (h:Uni R) {f:Mir→Mir} (hf:∀ m,(f m).1=m.1∧(f m).2.1=m.2.1):Uni { R with mirrors:=R.mirrors.map f }:=by
 refine ⟨?_,h.sc,fun m hm=>?_⟩
 ·show (nmM (R.mirrors.map f)).Nodup
  have e:nmM (R.mirrors.map f)=nmM R.mirrors:=by
   unfold nmM
   rw [List.map_map]
   exact List.map_congr_left fun m _=>(hf m).1
  rw [e];exact h.nm
 ·obtain ⟨y,hy,rfl⟩:=List.mem_map.1 hm
  rw [(hf y).2];exact h.ms y hy
theorem Qhi {l:List jSj} {x:jSj}:Zu l x=true↔x∈l:=pos_mem
theorem Qiq {R:Reg} (h:Uni R) {num:Int} {kind text:jSj} {names:List jSj} {vals:List Int} :
  ∀ {k:Ki},Good (num,kind,names,vals,text) k→acc k R names vals=0→Uni (app k R names vals)
 | .sector,hg,ha=>by
  obtain ⟨x,t,rfl,rfl,htv⟩:=hg.d11 rfl rfl
  have hno:Zu R.sectors x=false:=YT (e:=9) (by decide) (QS ha).2.2.1
  exact ⟨h.nm,QhH h.sc (fun hm=>by
   have hq:Zu R.sectors x=true:=Qhi.2 hm
   rw [hno] at hq;cases hq),fun m hm=>List.mem_append_left _ (h.ms m hm)⟩
 | .mirror,hg,ha=>by
  obtain ⟨x,y,t,v,rfl,rfl,htv⟩:=hg.d22 rfl rfl
  have h0:(if Zu R.sectors y=true then QF (Zu (nmM R.mirrors) x) 9 else 10)=0:=(QS ha).2.2.1
  by_cases hsy:Zu R.sectors y=true
  ·rw [jTj hsy] at h0
   have hno:=YT (e:=9) (by decide) h0
   refine ⟨?_,h.sc,fun m hm=>?_⟩
   ·show (nmM (R.mirrors++[((x,y,v,0,false,false):Mir)])).Nodup
    unfold nmM
    rw [List.map_append]
    exact QhH h.nm (fun hm=>by
     have hq:Zu (nmM R.mirrors) x=true:=Qhi.2 hm
     rw [hno] at hq;cases hq)
   ·rcases List.mem_append.1 hm with h1 | h1
    ·exact h.ms m h1
    ·rw [List.mem_singleton.1 h1];exact Qhi.1 hsy
  ·rw [jFj hsy] at h0;cases h0
 | .soil,hg,ha=>by
  obtain ⟨a0,t,v,rfl,rfl,htv⟩:=hg.d12 rfl rfl
  exact Qhv (R:=bkd R t) ⟨h.nm,h.sc,h.ms⟩ (a:=a0) (f:=fun m=>X8 m v) (fun _=>⟨rfl,rfl⟩) (ZW (QS ha).2.2.1)
 | .clean,hg,ha=>by
  obtain ⟨a0,t,rfl,rfl,htv⟩:=hg.d11 rfl rfl
  exact Qhv (R:=bkd R t) ⟨h.nm,h.sc,h.ms⟩ (a:=a0) (f:=fun m=>X8 m 0) (fun _=>⟨rfl,rfl⟩) (ZW (QS ha).2.2.1)
 | .defect,hg,ha=>by
  obtain ⟨a0,t,rfl,rfl,htv⟩:=hg.d11 rfl rfl
  exact Qhv (R:=bkd R t) ⟨h.nm,h.sc,h.ms⟩ (a:=a0) (f:=fun m=>zU m true) (fun _=>⟨rfl,rfl⟩) (ZW (QS ha).2.2.1)
 | .repair,hg,ha=>by
  obtain ⟨a0,t,rfl,rfl,htv⟩:=hg.d11 rfl rfl
  exact Qhv (R:=bkd R t) ⟨h.nm,h.sc,h.ms⟩ (a:=a0) (f:=fun m=>zU m false) (fun _=>⟨rfl,rfl⟩) (ZW (QS ha).2.2.1)
 | .aim,hg,ha=>by
  obtain ⟨a0,t,rfl,rfl,htv⟩:=hg.d11 rfl rfl
  exact Qhv (R:=bkd R t) ⟨h.nm,h.sc,h.ms⟩ (a:=a0) (f:=aimM) (fun _=>⟨rfl,rfl⟩) (ZW (QS ha).2.2.1)
 | .park,hg,ha=>by
  obtain ⟨a0,t,rfl,rfl,htv⟩:=hg.d11 rfl rfl
  exact Qhv (R:=bkd R t) ⟨h.nm,h.sc,h.ms⟩ (a:=a0) (f:=Ka) (fun _=>⟨rfl,rfl⟩) (ZW (QS ha).2.2.1)
 | .dim,hg,ha=>by
  obtain ⟨x,t,rfl,rfl,htv⟩:=hg.d11 rfl rfl
  exact Qh2 (R:=bkd R t) ⟨h.nm,h.sc,h.ms⟩ (Qip x)
 | .sun,hg,ha=>⟨h.nm,h.sc,h.ms⟩
 | .fill,hg,ha=>⟨h.nm,h.sc,h.ms⟩
 | .drain,hg,ha=>⟨h.nm,h.sc,h.ms⟩
 | .trip,hg,ha=>by
  have q:=Qh2 (R:=bkd R (vals.getD 0 0)) ⟨h.nm,h.sc,h.ms⟩ (f:=Ka) (fun _=>⟨rfl,rfl⟩)
  exact ⟨q.nm,q.sc,q.ms⟩
 | .reset,hg,ha=>⟨h.nm,h.sc,h.ms⟩
 | .offer,hg,ha=>⟨h.nm,h.sc,h.ms⟩
 | .deliver,hg,ha=>⟨h.nm,h.sc,h.ms⟩
 | .bill,hg,ha=>⟨h.nm,h.sc,h.ms⟩
 | .undo,hg,ha=>⟨h.nm,h.sc,h.ms⟩
theorem Qhz {l:List Ev} (h:OkL l):∀ j,j≤l.length→Uni (QD (l.take j))
 | 0,_=>by rw [List.take_zero];exact Qih
 | j+1,hj=>by
  have ih:=Qhz h j (by omega)
  have hx:=List.getElem?_eq_getElem (l:=l) (i:=j) (by omega)
  obtain ⟨k,h1,h2,h3⟩:=h j _ hx
  rw [List.take_succ_eq_append_getElem (by omega),GA,XR h2]
  exact Qiq ih h2 h3
theorem QhJ {c:List Ev} (hok:OkL c) {a:jSj}:∀ (n j:Nat),j+n=c.length→∀ m,fM (QD (c.take j)).mirrors a=some m→∃ m',fM (QD c).mirrors a=some m'∧m'.2.1=m.2.1
 | 0,j,hj,m,hm=>by
  rw [List.take_of_length_le (by omega)] at hm
  exact ⟨m,hm,rfl⟩
 | n+1,j,hj,m,hm=>by
  have hx:=List.getElem?_eq_getElem (l:=c) (i:=j) (by omega)
  obtain ⟨k,h1,h2,h3⟩:=hok j _ hx
  obtain ⟨m1,h4,h5⟩:=Qij hm h2 h3 h1
  have e:QD (c.take (j+1))=app k (QD (c.take j)) (c[j]'(by omega)).2.2.1 (c[j]'(by omega)).2.2.2.1:=by
   rw [List.take_succ_eq_append_getElem (by omega),GA,XR h2]
  obtain ⟨m2,h6,h7⟩:=QhJ hok n (j+1) (by omega) m1 (by rw [e];exact h4)
  exact ⟨m2,h6,h7.trans h5⟩
theorem Qiw {c:List Ev} (hok:OkL c) {a:jSj} {mA:Mir} (hA:fM (QD c).mirrors a=some mA):∀ j,j≤c.length→∀ m,fM (QD (c.take j)).mirrors a=some m→m.2.1=mA.2.1:=fun j hj m hm=>by
 obtain ⟨m',h1,h2⟩:=QhJ hok (c.length - j) j (by omega) m hm
 rw [hA] at h1
 rw [← h2,← Option.some.inj h1]
theorem Qik {a s:jSj} {c:List Ev} (hok:OkL c) (hc:c.length≤30) (H:∀ j,j≤c.length→∀ m,fM (QD (c.take j)).mirrors a=some m→m.2.1=s) {j:Nat} (hj:j < c.length) :
  litQ a s c (j+1)=litQ a s c j+UR (QD (c.take j)).level (fM (QD (c.take j)).mirrors a).toList * ((QD (c.take (j+1))).tick - (QD (c.take j)).tick):=by
 obtain ⟨h1,h2,h3⟩:=QhB hok hc H j (by omega)
 have hx:=List.getElem?_eq_getElem (l:=c) (i:=j) (by omega)
 obtain ⟨k,hk,hg,ha⟩:=hok j _ hx
 have hR:QD (c.take (j+1))=app k (QD (c.take j)) (c[j]'(by omega)).2.2.1 (c[j]'(by omega)).2.2.2.1:=by
  rw [List.take_succ_eq_append_getElem (by omega),GA,XR hg]
 have hr:wz (QD (stQ a s c j))=UR (QD (c.take j)).level (fM (QD (c.take j)).mirrors a).toList:=by
  unfold wz
  rw [h1.level,h1.mirs]
 unfold litQ
 rw [hR,QhW hx,← hr]
 generalize (c[j]'(by omega))=e at hg ha
 rw [QhZ,show (QD (stQ a s c j)).light+ZL (QD (stQ a s c j)) (QD (c.take j)).tick+wz (QD (stQ a s c j)) * (e.2.2.2.1.getD 0 0 - (QD (c.take j)).tick)=(QD (stQ a s c j)).light+ZL (QD (stQ a s c j)) (e.2.2.2.1.getD 0 0) by rw [QhK (QD (stQ a s c j)) (e.2.2.2.1.getD 0 0) (QD (c.take j)).tick];omega]
 by_cases hb:abt a s e=true
 ·rw [jTj hb,GA,XR hg,Qie,show ZL (app k (QD (stQ a s c j)) e.2.2.1 e.2.2.2.1) (e.2.2.2.1.getD 0 0)=0 from by
   have:=QhC (app k (QD (stQ a s c j)) e.2.2.1 e.2.2.2.1)
   rwa [QhZ] at this,Int.add_zero]
 ·rw [jFj hb]
def sumA (f:jSj→Int):List jSj→Int
 | []=>0
 | a::l=>f a+sumA f l
theorem Qhm {f g:jSj→Int}:∀ {l:List jSj},(∀ a,a∈l→f a=g a)→sumA f l=sumA g l
 | [],_=>rfl
 | a::l,h=>by
  show f a+sumA f l=g a+sumA g l
  rw [h a jMj,Qhm fun x hx=>h x (List.mem_cons_of_mem _ hx)]
theorem QhV (f g:jSj→Int) (d:Int):∀ l:List jSj,sumA (fun a=>f a+g a * d) l=sumA f l+sumA g l * d
 | []=>by show (0:Int)=0+0 * d;rw [Int.zero_mul,Int.add_zero]
 | a::l=>by
  show f a+g a * d+sumA (fun a=>f a+g a * d) l=f a+sumA f l+(g a+sumA g l) * d
  rw [QhV f g d l,Int.add_mul];omega
theorem Qhj:∀ l:List jSj,sumA (fun _=>0) l=0
 | []=>rfl
 | a::l=>by show 0+sumA (fun _=>0) l=0;rw [Qhj l];rfl
theorem Qhy {f g:jSj→Int} {x:jSj} {v:Int} (hx:f x=v+g x) (ho:∀ a,a≠x→f a=g a):∀ {l:List jSj},l.Nodup→x∈l→sumA f l=v+sumA g l
 | [],_,h=>by cases h
 | a::l,hn,h=>by
  rw [List.nodup_cons] at hn
  show f a+sumA f l=v+(g a+sumA g l)
  by_cases e:a=x
  ·subst e
   rw [hx,Qhm (f:=f) (g:=g) fun y hy=>ho y fun e=>hn.1 (e ▸ hy)];omega
  ·rw [ho a e,Qhy hx ho hn.2 ((List.mem_cons.1 h).resolve_left fun h=>e h.symm)];omega
theorem QhU (lv:Int) {az:List jSj} (hn:az.Nodup):∀ (ms:List Mir),(nmM ms).Nodup→(∀ m,m∈ms→m.1∈az)→sumA (fun a=>UR lv (fM ms a).toList) az=UR lv ms
 | [],_,_=>Qhj az
 | m::ms,hd,hs=>by
  have hd2:¬ m.1∈nmM ms∧(nmM ms).Nodup:=List.nodup_cons.1 hd
  have hno:fM ms m.1=none:=QhA fun h=>hd2.1 (Qhi.1 h)
  rw [Qhy (f:=fun a=>UR lv (fM (m::ms) a).toList) (g:=fun a=>UR lv (fM ms a).toList) (x:=m.1) (v:=yh lv m) (by
   show UR lv (fM (m::ms) m.1).toList=yh lv m+UR lv (fM ms m.1).toList
   rw [Qhe,jTj rfl,hno];rfl) (fun a ha=>by
   show UR lv (fM (m::ms) a).toList=UR lv (fM ms a).toList
   rw [Qhe,jFj (fun e=>ha e.symm)]) hn (hs m jMj),QhU lv hn ms hd2.2 fun x hx=>hs x (List.mem_cons_of_mem _ hx)]
  rfl
def Qhu (c:List Ev) (a:jSj):jSj:=(mAt (QD c).mirrors a).2.1
theorem Qh3 {c:List Ev} (hok:OkL c) (hc:c.length≤30):∀ j,j≤c.length→sumA (fun a=>litQ a (Qhu c a) c j) (nmM (QD c).mirrors)=(QD (c.take j)).light
 | 0,_=>by
  have e:sumA (fun a=>litQ a (Qhu c a) c 0) (nmM (QD c).mirrors)=sumA (fun _=>0) (nmM (QD c).mirrors):=Qhm fun a _=>by show (0:Int)+ZL Reg.zero 0=0;decide
  rw [e,Qhj];rfl
 | j+1,hj=>by
  have hx:=List.getElem?_eq_getElem (l:=c) (i:=j) (by omega)
  obtain ⟨k,hk,hg,ha⟩:=hok j _ hx
  have hu:=Qhz hok j (by omega)
  have huf:=Qhz hok c.length (jLj _)
  rw [List.take_length] at huf
  have hR:QD (c.take (j+1))=app k (QD (c.take j)) (c[j]'(by omega)).2.2.1 (c[j]'(by omega)).2.2.2.1:=by
   rw [List.take_succ_eq_append_getElem (by omega),GA,XR hg]
  have hsub:∀ m,m∈(QD (c.take j)).mirrors→m.1∈nmM (QD c).mirrors:=fun m hm=>by
   have hh:Zu (nmM (QD (c.take j)).mirrors) m.1=true:=Qhi.2 (List.mem_map.2 ⟨m,hm,rfl⟩)
   obtain ⟨m',h1,_⟩:=QhJ hok (c.length - j) j (by omega) _ (QhD _ _ hh)
   have:(fM (QD c).mirrors m.1).isSome=true:=by rw [h1];rfl
   rw [Qhn] at this
   exact Qhi.1 this
  have e:sumA (fun a=>litQ a (Qhu c a) c (j+1)) (nmM (QD c).mirrors)=sumA (fun a=>litQ a (Qhu c a) c j+UR (QD (c.take j)).level (fM (QD (c.take j)).mirrors a).toList * ((QD (c.take (j+1))).tick - (QD (c.take j)).tick)) (nmM (QD c).mirrors):=Qhm fun a hm=>by
   have hh:Zu (nmM (QD c).mirrors) a=true:=Qhi.2 hm
   exact Qik hok hc (Qiw hok (QhD _ _ hh)) (by omega)
  rw [e,QhV,Qh3 hok hc j (by omega),QhU _ huf.nm _ hu.nm hsub,hR,Qie,QhZ];rfl
end Go.Proofs.YtljabneifpkbjaaGreatDoor
set_option maxRecDepth 20000
namespace Go.Proofs.YtljabneifpkbjaaGreatDoor
open Go.SX
theorem QhP (x:jSj):∀ (l:List Mir) (s:Int×Int),Y6 (E:=Int×Int) (fun s m=>.inl (cg x s m)) (fun s=>s) l s=(s.1+(cntM x l).1,s.2+(cntM x l).2)
 | [],s=>by show s=(s.1+0,s.2+0);rw [Int.add_zero,Int.add_zero]
 | m::l,s=>by
  have e:cntM x (m::l)=((cg x (0,0) m).1+(cntM x l).1,(cg x (0,0) m).2+(cntM x l).2):=QhP x l (cg x (0,0) m)
  show Y6 (E:=Int×Int) (fun s m=>.inl (cg x s m)) (fun s=>s) l (cg x s m)=_
  rw [QhP x l,e]
  unfold cg
  by_cases h:m.2.1=x
  ·rw [jTj h,jTj h]
   by_cases ha:isA m=true
   ·rw [jTj ha,jTj ha]
    show (s.1+1+(cntM x l).1,s.2+1+(cntM x l).2)=(s.1+(0+1+(cntM x l).1),s.2+(0+1+(cntM x l).2))
    congr 1 <;> omega
   ·rw [jFj ha,jFj ha]
    show (s.1+1+(cntM x l).1,s.2+(cntM x l).2)=(s.1+(0+1+(cntM x l).1),s.2+(0+(cntM x l).2))
    congr 1 <;> omega
  ·rw [jFj h,jFj h]
   show (s.1+(cntM x l).1,s.2+(cntM x l).2)=(s.1+(0+(cntM x l).1),s.2+(0+(cntM x l).2))
   congr 1 <;> omega
theorem Qhl (x:jSj) (m:Mir) (l:List Mir):cntM x (m::l)=((if m.2.1=x then 1 else 0)+(cntM x l).1,(if m.2.1=x then (if isA m=true then 1 else 0) else 0)+(cntM x l).2):=by
 have e:cntM x (m::l)=((cg x (0,0) m).1+(cntM x l).1,(cg x (0,0) m).2+(cntM x l).2):=QhP x l (cg x (0,0) m)
 rw [e]
 unfold cg
 by_cases h:m.2.1=x
 ·rw [jTj h,jTj h,jTj h]
  by_cases ha:isA m=true
  ·rw [jTj ha,jTj ha];rfl
  ·rw [jFj ha,jFj ha];rfl
 ·rw [jFj h,jFj h,jFj h]
theorem Qic {ss:List jSj} (hn:ss.Nodup):∀ (ms:List Mir),(∀ m,m∈ms→m.2.1∈ss)→sumA (fun x=>(cntM x ms).1) ss=(ms.length:Int)∧sumA (fun x=>(cntM x ms).2) ss=((YQ ms).length:Int)
 | [],_=>⟨Qhj ss,Qhj ss⟩
 | m::ms,hs=>by
  obtain ⟨h1,h2⟩:=Qic hn ms fun x hx=>hs x (List.mem_cons_of_mem _ hx)
  have hm:=hs m jMj
  refine ⟨?_,?_⟩
  ·rw [Qhy (f:=fun x=>(cntM x (m::ms)).1) (g:=fun x=>(cntM x ms).1) (x:=m.2.1) (v:=1) (by show (cntM m.2.1 (m::ms)).1=_;rw [Qhl,jTj rfl]) (fun a ha=>by
    show (cntM a (m::ms)).1=_
    rw [Qhl,jFj (fun e=>ha e.symm),Int.zero_add]) hn hm,h1,List.length_cons]
   omega
  ·rw [Qhy (f:=fun x=>(cntM x (m::ms)).2) (g:=fun x=>(cntM x ms).2) (x:=m.2.1) (v:=if isA m=true then 1 else 0) (by show (cntM m.2.1 (m::ms)).2=_;rw [Qhl];dsimp only;rw [jTj rfl]) (fun a ha=>by
    show (cntM a (m::ms)).2=_
    rw [Qhl]
    dsimp only
    rw [jFj (fun e=>ha e.symm),Int.zero_add]) hn hm,h2]
   unfold YQ
   by_cases ha:isA m=true
   ·rw [jTj ha,List.filter_cons_of_pos ha,jCj,List.length_cons];omega
   ·rw [jFj ha,List.filter_cons_of_neg ha,Int.zero_add]
theorem Qid (x:jSj):∀ ms:List Mir,(0≤(cntM x ms).1∧(cntM x ms).1≤(ms.length:Int))∧0≤(cntM x ms).2∧(cntM x ms).2≤(ms.length:Int)
 | []=>⟨⟨Int.le_refl 0,Int.le_refl 0⟩,Int.le_refl 0,Int.le_refl 0⟩
 | m::ms=>by
  have h:=Qid x ms
  rw [Qhl,List.length_cons]
  dsimp only
  split
  ·split <;> omega
  ·omega
theorem Qh7 {α:Type} (f:α→jSj) (g:jSj→Int):∀ (l:List α) (s:Int),Y6 (E:=Int) (fun (s:Int) (m:α)=>.inl (s+g (f m))) (fun s=>s) l s=s+sumA g (l.map f)
 | [],s=>by show s=s+0;rw [Int.add_zero]
 | m::l,s=>by
  show Y6 (E:=Int) (fun (s:Int) (m:α)=>.inl (s+g (f m))) (fun s=>s) l (s+g (f m))=s+(g (f m)+sumA g (l.map f))
  rw [Qh7 f g l,Int.add_assoc]
theorem kwn {k j:Ki} (h:k≠j):kw k≠kw j:=fun e=>h (by have:=congrArg yJ e;rw [E7,E7] at this;exact Option.some.inj this)
theorem Qin {e:Ev} {k:Ki} (h:Good e k):chk e=0:=by
 unfold chk
 rw [jTj (YC.2 h.num),h.kind,E7]
 dsimp only
 rw [jTj ⟨h.names,h.vals⟩,jTj (List.all_eq_true.2 h.name),jTj (show e.2.2.2.1.all wq=true from List.all_eq_true.2 fun v hv=>jDj (YC.2 (h.val v hv))),jTj h.text]
theorem Qia:∀ (l:List Ev) (i j:Nat) (e:Ev),(numF i l)[j]?=some e→e.1=((i+j:Nat):Int)+1
 | [],i,j,e,h=>by cases h
 | x::l,i,0,e,h=>by
  unfold numF at h
  simp only [List.getElem?_cons_zero,jIj] at h
  rw [← h];rfl
 | x::l,i,j+1,e,h=>by
  unfold numF at h
  rw [List.getElem?_cons_succ] at h
  rw [Qia l (i+1) j e h,show i+1+j=i+(j+1) by omega]
theorem Qh8:∀ (l cnt:List Ev) (i:Nat) (c:List Ev),rep i cnt l=.inr c→∀ e,e∈c→e∈cnt ∨ e∈l
 | [],cnt,i,c,h,e,he=>by cases h;exact .inl he
 | x::l,cnt,i,c,h,e,he=>by
  unfold rep at h
  by_cases h0:YM i cnt x=0
  ·rw [jTj h0] at h
   rcases Qh8 l _ _ c h e he with h1 | h1
   ·unfold VO at h1
    split at h1
    ·exact .inl (List.dropLast_subset cnt h1)
    ·rcases List.mem_append.1 h1 with h2 | h2
     ·exact .inl h2
     ·rw [List.mem_singleton.1 h2];exact .inr jMj
   ·exact .inr (List.mem_cons_of_mem _ h1)
  ·rw [jFj h0] at h;cases h
theorem QhO {D:List Ev} (hok:OkL D) (hn:∀ (i:Nat) e,D[i]?=some e→e.1=(i:Int)+1) {j:Nat} {e:Ev} (hx:D[j]?=some e):YM j (D.take j) e=0∧¬ isU e=true:=by
 obtain ⟨k,hk,hg,ha⟩:=hok j e hx
 have hu:¬ isU e=true:=by rw [KY hg];simpa using hk
 refine ⟨?_,hu⟩
 unfold YM
 rw [jTj (Qin hg),jTj (hn j e hx),jFj hu,Gq hg]
 exact ha
theorem QhG {D:List Ev} (hok:OkL D) (hn:∀ (i:Nat) e,D[i]?=some e→e.1=(i:Int)+1):∀ j,j≤D.length→rep 0 [] (D.take j)=.inr (D.take j)
 | 0,_=>by rw [List.take_zero];rfl
 | j+1,hj=>by
  have hx:=List.getElem?_eq_getElem (l:=D) (i:=j) (by omega)
  obtain ⟨h1,h2⟩:=QhO hok hn hx
  have hl:(D.take j).length=j:=by rw [List.length_take];omega
  rw [List.take_succ_eq_append_getElem (by omega),Qgk,QhG hok hn j (by omega)]
  dsimp only
  rw [Nat.zero_add,hl,jTj h1]
  unfold VO
  rw [jFj h2]
theorem Qio {m:Mir}:∀ {ms:List Mir},(nmM ms).Nodup→m∈ms→fM ms m.1=some m
 | [],_,h=>by cases h
 | x::ms,hd,h=>by
  have hd2:¬ x.1∈nmM ms∧(nmM ms).Nodup:=List.nodup_cons.1 hd
  rw [Qhe]
  by_cases e:x.1=m.1
  ·rw [jTj e]
   rcases List.mem_cons.1 h with h1 | h1
   ·rw [h1]
   ·exact absurd (e ▸ List.mem_map.2 ⟨m,h1,rfl⟩) hd2.1
  ·rw [jFj e]
   rcases List.mem_cons.1 h with h1 | h1
   ·exact absurd (by rw [h1]) e
   ·exact Qio hd2.2 h1
theorem QiE (a s:jSj) (e:Ev) (x:Int):abt a s (x,e.2)=abt a s e:=rfl
theorem Qib (a s:jSj):∀ (l:List Ev) (i:Nat),(∀ e,e∈l→abt a s e=true)→(numF i l).filter (abt a s)=numF i l
 | [],i,_=>rfl
 | e::l,i,h=>by
  show (((i:Int)+1,e.2)::numF (i+1) l).filter (abt a s)=_
  rw [List.filter_cons_of_pos (by rw [QiE];exact h e jMj),Qib a s l (i+1) fun x hx=>h x (List.mem_cons_of_mem _ hx)];rfl
theorem Qh9:∀ (l:List Ev) (i:Nat),numF i (numF i l)=numF i l
 | [],i=>rfl
 | e::l,i=>by
  show ((i:Int)+1,e.2)::numF (i+1) (numF (i+1) l)=((i:Int)+1,e.2)::numF (i+1) l
  rw [Qh9 l (i+1)]
theorem Qig {e:Ev} {x:Int} (h:Yf e):Yf (x,e.2):=h
theorem QhN:∀ (l:List Ev) (i:Nat) (x:Ev),x∈numF i l→∃ e,e∈l∧x=(x.1,e.2)
 | [],_,x,h=>by cases h
 | e::l,i,x,h=>by
  unfold numF at h
  rcases List.mem_cons.1 h with rfl | h
  ·exact ⟨e,jMj,rfl⟩
  ·obtain ⟨y,h1,h2⟩:=QhN l _ x h
   exact ⟨y,List.mem_cons_of_mem _ h1,h2⟩
theorem Qif {c:List Ev} (hok:OkL c) (hc:c.length≤20) (hsc:∀ e,e∈c→Yf e) {m:Mir} (hm:m∈(QD c).mirrors) :
  Zu (nmM (QD c).mirrors) m.1=true∧mAt (QD c).mirrors m.1=m∧Sim m.1 m.2.1 (QD c) (QD (stoN c m.1))∧OkL (stoN c m.1)∧(stoN c m.1).length≤c.length∧(∀ e,e∈stoN c m.1→Yf e)∧(∀ (i:Nat) e,(stoN c m.1)[i]?=some e→e.1=(i:Int)+1) ∧
  stoN (stoN c m.1) m.1=stoN c m.1∧(QD (stoN c m.1)).mirrors=[m]∧(QD (stoN c m.1)).light+ZL (QD (stoN c m.1)) (QD c).tick=litQ m.1 (Qhu c m.1) c c.length∧litQ m.1 (Qhu c m.1) c c.length≤(QD c).light:=by
 have hu:=Qhz hok c.length (jLj _)
 rw [List.take_length] at hu
 have hf:=Qio hu.nm hm
 have hh:Zu (nmM (QD c).mirrors) m.1=true:=Qhi.2 (List.mem_map.2 ⟨m,hm,rfl⟩)
 have ha:mAt (QD c).mirrors m.1=m:=by
  have:=QhD _ _ hh
  rw [hf] at this
  exact (Option.some.inj this).symm
 have hse:Qhu c m.1=m.2.1:=by unfold Qhu;rw [ha]
 obtain ⟨h1,h2,h3⟩:=QhB hok (by omega) (Qiw hok hf) c.length (jLj _)
 have eq1:stoN c m.1=numF 0 (stQ m.1 m.2.1 c c.length):=by
  unfold stoN stQ
  rw [ha,List.take_length]
 have eq2:QD (stoN c m.1)=QD (stQ m.1 m.2.1 c c.length):=by rw [eq1,QhL]
 rw [List.take_length] at h1 h2
 have hq:=QhF h1 hh
 rw [ha] at hq
 have hst:∀ e,e∈stQ m.1 m.2.1 c c.length→e∈c∧abt m.1 m.2.1 e=true:=fun e he=>by
  unfold stQ at he
  rw [List.take_length] at he
  exact List.mem_filter.1 he
 refine ⟨hh,ha,by rw [eq2];exact h1,by rw [eq1];exact h3,?_,fun e he=>?_,fun i e he=>?_,?_,by rw [eq2];exact hq.1,?_,by rw [hse];exact h2⟩
 ·rw [eq1,QeE]
  unfold stQ
  rw [List.take_length]
  exact List.length_filter_le _ _
 ·rw [eq1] at he
  obtain ⟨x,h4,h5⟩:=QhN _ _ _ he
  rw [h5]
  exact Qig (hsc x (hst x h4).1)
 ·rw [eq1] at he
  have:=Qia _ _ _ _ he
  rw [Nat.zero_add] at this
  exact this
 ·show numF 0 ((stoN c m.1).filter (abt m.1 (mAt (QD (stoN c m.1)).mirrors m.1).2.1))=stoN c m.1
  rw [eq2,hq.2.2,eq1,Qib _ _ _ _ fun e he=>(hst e he).2,Qh9]
 ·rw [eq2,hse]
  unfold litQ
  rw [List.take_length]
theorem Qit {n:Nat} (hn:100≤n) {a0:jVj} {t3:RepT} {t4:Int×Int×Int} {sa:Int×Int} {ta2:jSj×jSj×Int×Int×Bool×Bool} {z:Int} {Ds:List Ev} (hok:OkL Ds) (hl:Ds.length≤30) (hs:∀ e,e∈Ds→Yf e) (hnum:∀ (i:Nat) e,Ds[i]?=some e→e.1=(i:Int)+1) :
  Q2 (Qhd n a0 t3 t4 sa ta2 (Ds.map Zr,z)) n 0=some ():=by
 have q:=ZK (step:=Qhd n a0 t3 t4 sa ta2 (Ds.map Zr,z)) (E:=Unit) (fun (_:Unit) (_:Ev)=>.inl ()) (fun _=>()) (fun i _=>(i:Int)) Ds (fun _ _=>True)
  (fun i _ e hx _=>by
   have hi:=(jGj hx).1
   obtain ⟨k,hk,hg,ha⟩:=hok i e hx
   refine ⟨?_,trivial⟩
   have hrp:=QhG hok hnum i (by omega)
   have hac:=Qf8 hn (Ds.take i) (by rw [List.length_take];omega) (fun x hx=>hs x (List.mem_of_mem_take hx)) e (hs e (List.mem_of_getElem? hx))
   rw [hrp] at hac
   have hac:Qfe n ((Ds.take i).map Zr) e.1 e.2.1 (e.2.2.1.map Sd) (e.2.2.2.1.map I) e.2.2.2.2=some 0:=hac.trans (congrArg some (by
    show YM (Ds.take i).length (Ds.take i) e=0
    rw [List.length_take,Nat.min_eq_left (by omega)]
    exact (QhO hok hnum hx).1))
   unfold Qhd
   dsimp only
   rw [jTj (ZD hx),qf hx,jBj]
   dsimp only
   rw [jTj (by unfold Qh;omega),jTj (hnum i e hx),jFj (kne (l:=#[117,110,100,111]) hg.kind (kwn hk)),jTj ⟨Int.le_refl 0,Int.natCast_nonneg i,by rw [List.length_map];omega,.inr rfl⟩,Int.toNat_natCast,show Int.toNat 0=0 from rfl,List.drop_zero,← List.map_take,hac,jBj,jTj rfl];rfl)
  (fun _ _=>by unfold Qhd;dsimp only;rw [jFj (by simp)]) (s:=()) (k:=n) trivial (by omega)
 have e:∀ l:List Ev,Y6 (E:=Unit) (fun (_:Unit) (_:Ev)=>.inl ()) (fun _=>()) l ()=():=fun _=>rfl
 rw [e] at q
 exact q
theorem Qis {n:Nat} (hn:100≤n) {l c:List Ev} (hl:l.length≤18) (hs:∀ e,e∈l→Yf e) (hr:rep 0 [] l=.inr c) {t4:Int×Int×Int} :
  Q2 (Qhc n (l.map Zr) ((QD c).tick,(QD c).level,(QD c).filled,(QD c).tripped,(QD c).light,(QD c).heat,(QD c).money,(QD c).sectors.map Sd,(QD c).mirrors.map QY,(QD c).offers.map Zj,0,0) t4) n (0,0)=some (QD c).light:=by
 obtain ⟨hok,hcl⟩:=Qaq l [] 0 c Jx (jLj 0) hr
 have hinv:=GG hok (by omega)
 have hlm:=hinv.lenM
 have hsc:∀ e,e∈c→Yf e:=fun e he=>hs e ((Qh8 l [] 0 c hr e he).resolve_left (fun h=>by cases h))
 have hlg:=hinv.light
 have hti:=hinv.tick
 have q:=ZK (step:=Qhc n (l.map Zr) ((QD c).tick,(QD c).level,(QD c).filled,(QD c).tripped,(QD c).light,(QD c).heat,(QD c).money,(QD c).sectors.map Sd,(QD c).mirrors.map QY,(QD c).offers.map Zj,0,0) t4) (E:=Int) (fun (s:Int) (m:Mir)=>.inl (s+litQ m.1 (Qhu c m.1) c c.length)) (fun s=>s) (fun i s=>((s,(i:Int)):Int×Int)) (QD c).mirrors (fun i s=>0≤s∧s≤1000000000000000 * (i:Int))
  (fun i s m hx hsb=>by
   have hi:=(jGj hx).1
   have hm:=List.mem_of_getElem? hx
   obtain ⟨hh,ha,hsim,hokD,hlD,hsD,hnD,hself,hmir,hlit,hle⟩:=Qif hok (by omega) hsc hm
   have hrD:rep 0 [] (stoN c m.1)=.inr (stoN c m.1):=by
    have:=QhG hokD hnD (stoN c m.1).length (jLj _)
    rwa [List.take_length] at this
   have hiD:=GG hokD (by omega)
   have h10:QF (!Zu (nmM (QD c).mirrors) m.1) 10=0:=by rw [hh];rfl
   have g1:Ei n (l.map Zr) m.1=some ((stoN c m.1).map Zr,0):=by
    have:=QeF hn l (by omega) hs m.1
    rw [hr] at this
    exact this.trans (congrArg some (jTj h10))
   have g2:=Qfu hn (stoN c m.1) (by omega) hsD
   rw [hrD,Qf0] at g2
   have g3:Ei n ((stoN c m.1).map Zr) m.1=some ((stoN c m.1).map Zr,0):=by
    have:=QeF hn (stoN c m.1) (by omega) hsD m.1
    rw [hrD] at this
    refine this.trans (congrArg some ?_)
    refine Eq.trans (jTj ?_) ?_
    ·rw [hmir,← Qhn,Qhe,jTj rfl];rfl
    ·rw [hself]
   have hgq:=K4 hiD (by omega) (t:=(QD c).tick) ⟨hsim.tick,hti.2⟩
   have hlq:=hiD.light
   have hbk:Zk (QD (stoN c m.1)) (QD c).tick=0:=QhT (by omega) (by rw [hsim.heat];omega)
   have g4:Yh n ((stoN c m.1).map Zr) (QD c).tick=some (litQ m.1 (Qhu c m.1) c c.length,(QD (stoN c m.1)).heat+ZL (QD (stoN c m.1)) (QD c).tick,0):=by
    have:=yH hn (stoN c m.1) (by omega) hsD (QD c).tick
    rw [hrD] at this
    refine this.trans (congrArg some ?_)
    refine Eq.trans (jTj ?_) (Eq.trans (jTj hbk) ?_)
    ·rw [YC.2 hti,jEj (by have:=hsim.tick;omega)];rfl
    ·rw [hlit]
   have g5:Qd1 n ((stoN c m.1).map Zr) ((stoN c m.1).map Zr)=some true:=Qec _ (QeJ hokD) (by omega) (by omega) hn
   have hmir2:(QD (stoN c m.1)).mirrors.map QY=[QY m]:=by rw [hmir];rfl
   refine ⟨?_,by simp only [Int.natCast_add,Int.natCast_one];omega⟩
   unfold Qhc
   dsimp only
   rw [jTj (ZD hx),Xr unM hx,jBj,g1,jBj]
   dsimp only
   rw [jTj rfl,jFj (by rw [List.length_map,List.length_map];omega),Qit hn hokD (by omega) hsD hnD,jBj,g2,jBj,g3,jBj,g4,jBj]
   dsimp only
   rw [hmir2,jTj rfl,jTj rfl,jTj rfl,g5,jBj,jTj rfl,jTj (show ((([QY m]:jVj).length:Nat):Int)=1 from rfl),show el QM [QY m] 0=some m from rfl,jBj,jTj (by simp [Qgs]),jTj hsim.level,jFj (by rw [hsim.filled];simp),jFj (by rw [hsim.tripped];simp),jTj (by unfold Qh;omega),jTj (by unfold Qh;omega)];rfl)
  (fun s _=>by unfold Qhc;dsimp only;rw [jFj (by simp)]) (s:=0) (by simp) (k:=n) (by omega)
 rw [Qh7 (fun m:Mir=>m.1) (fun a=>litQ a (Qhu c a) c c.length),Int.zero_add] at q
 have hsum:=Qh3 hok (by omega) c.length (jLj _)
 rw [List.take_length] at hsum
 exact q.trans (congrArg some hsum)
theorem QhX (ms:List Mir):∀ (l:List jSj) (s:Int×Int),Y6 (E:=Int×Int) (fun (s:Int×Int) (x:jSj)=>.inl (s.1+(cntM x ms).1,s.2+(cntM x ms).2)) (fun s=>s) l s=(s.1+sumA (fun x=>(cntM x ms).1) l,s.2+sumA (fun x=>(cntM x ms).2) l)
 | [],s=>by show s=(s.1+0,s.2+0);rw [Int.add_zero,Int.add_zero]
 | x::l,s=>by
  show Y6 (E:=Int×Int) (fun (s:Int×Int) (x:jSj)=>.inl (s.1+(cntM x ms).1,s.2+(cntM x ms).2)) (fun s=>s) l (s.1+(cntM x ms).1,s.2+(cntM x ms).2)=(s.1+((cntM x ms).1+sumA (fun x=>(cntM x ms).1) l),s.2+((cntM x ms).2+sumA (fun x=>(cntM x ms).2) l))
  rw [QhX ms l,Int.add_assoc,Int.add_assoc]
theorem Qir {n:Nat} (hn:100≤n) {l c:List Ev} (hl:l.length≤18) (hs:∀ e,e∈l→Yf e) (hr:rep 0 [] l=.inr c) {t4:Int×Int×Int} {t6:Int} :
  Q2 (Qhb n (l.map Zr) ((QD c).tick,(QD c).level,(QD c).filled,(QD c).tripped,(QD c).light,(QD c).heat,(QD c).money,(QD c).sectors.map Sd,(QD c).mirrors.map QY,(QD c).offers.map Zj,0,0) t4 t6) n (0,0,0)=some (((QD c).mirrors.length:Int),((YQ (QD c).mirrors).length:Int)):=by
 obtain ⟨hok,hcl⟩:=Qaq l [] 0 c Jx (jLj 0) hr
 have hinv:=GG hok (by omega)
 have hlm:=hinv.lenM
 have hls:=hinv.secs
 have hu:=Qhz hok c.length (jLj _)
 rw [List.take_length] at hu
 have q:=ZK (step:=Qhb n (l.map Zr) ((QD c).tick,(QD c).level,(QD c).filled,(QD c).tripped,(QD c).light,(QD c).heat,(QD c).money,(QD c).sectors.map Sd,(QD c).mirrors.map QY,(QD c).offers.map Zj,0,0) t4 t6) (E:=Int×Int) (fun (s:Int×Int) (x:jSj)=>.inl (s.1+(cntM x (QD c).mirrors).1,s.2+(cntM x (QD c).mirrors).2)) (fun s=>s) (fun i s=>(((i:Int),s.1,s.2):Int×Int×Int)) (QD c).sectors (fun i s=>(0≤s.1∧s.1≤100 * (i:Int))∧0≤s.2∧s.2≤100 * (i:Int))
  (fun i s x hx hsb=>by
   have hi:=(jGj hx).1
   have hb:=Qid x (QD c).mirrors
   have hh:Zu (QD c).sectors x=true:=Qhi.2 (List.mem_of_getElem? hx)
   have g1:XD n (l.map Zr) x=some ((cntM x (QD c).mirrors).1,(cntM x (QD c).mirrors).2,0):=by
    have:=Qey hn l (by omega) hs x
    rw [hr] at this
    exact this.trans (congrArg some (jTj (by rw [hh];rfl)))
   refine ⟨?_,by
    show (0≤s.1+(cntM x (QD c).mirrors).1∧s.1+(cntM x (QD c).mirrors).1≤100 * ((i+1:Nat):Int))∧0≤s.2+(cntM x (QD c).mirrors).2∧s.2+(cntM x (QD c).mirrors).2≤100 * ((i+1:Nat):Int)
    simp only [Int.natCast_add,Int.natCast_one];omega⟩
   unfold Qhb
   dsimp only
   rw [jTj (ZD hx),jH hx,jBj,g1,jBj]
   dsimp only
   rw [jTj rfl,jTj (by unfold Qh;omega),jTj (by unfold Qh;omega),jTj (by unfold Qh;omega)];rfl)
  (fun s _=>by unfold Qhb;dsimp only;rw [jFj (by simp)]) (s:=(0,0)) (by simp) (k:=n) (by omega)
 obtain ⟨h1,h2⟩:=Qic hu.sc (QD c).mirrors hu.ms
 rw [QhX,Int.zero_add,Int.zero_add,h1,h2] at q
 exact q
theorem QhI (l:List Ev):Qhg 1000 (l.map Zr)=some true:=by
 unfold Qhg
 rw [show Qe7 1000 (l.map Zr) 18=_ from Qf9 (n:=1000) (by decide) l 18 (by decide),jBj]
 by_cases hB:okB l 18=true
 case neg=>rw [jFj hB];rfl
 obtain ⟨⟨hl,hs⟩,c,hr⟩:=QgZ hB
 obtain ⟨hok,hcl⟩:=Qaq l [] 0 c Jx (jLj 0) hr
 have hinv:=GG hok (by omega)
 have hlg:=hinv.light
 have hht:=hinv.heat
 have g2:=yp (n:=1000) (by decide) l (by omega) hs
 rw [hr,Qf0] at g2
 have hg0:=QhC (QD c)
 have g3:Yh 1000 (l.map Zr) (QD c).tick=some ((QD c).light,(QD c).heat+ZL (QD c) (QD c).tick,0):=by
  have:=yH (n:=1000) (by decide) l (by omega) hs (QD c).tick
  rw [hr] at this
  refine this.trans (congrArg some ?_)
  refine Eq.trans (jTj ?_) (Eq.trans (jTj (QhT (by omega) (by omega))) ?_)
  ·rw [YC.2 hinv.tick,jEj (by omega)];rfl
  ·rw [hg0,Int.add_zero]
 have g4:YH 1000 (l.map Zr)=some ((YQ (QD c).mirrors).map Sd,0):=by
  have:=uO (n:=1000) (by decide) l (by omega) hs
  rw [hr] at this
  exact this
 rw [jTj hB,g2,jBj]
 dsimp only
 rw [g3,jBj]
 dsimp only
 rw [jTj rfl,Qis (by decide) hl hs hr,jBj,Qir (by decide) hl hs hr,jBj,g4,jBj]
 dsimp only
 rw [jTj rfl,jTj rfl,jTj (by simp)];rfl
end Go.Proofs.YtljabneifpkbjaaGreatDoor
