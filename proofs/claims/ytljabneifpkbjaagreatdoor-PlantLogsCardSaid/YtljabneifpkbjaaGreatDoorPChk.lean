/- Own texts, merged: PCom, PReg, PNam, PPrk, PChk. -/
import Derived.Test.YtljabneifpkbjaaGreatDoorGen5
import Derived.Test.YtljabneifpkbjaaGreatDoorSxTwentyFive
set_option maxRecDepth 20000
namespace Go.Proofs.YtljabneifpkbjaaGreatDoor
open Go.SX
abbrev Sd (b:jSj):D:=.v (.string b)
def mkS (l:List UInt8):jSj:=⟨l.toArray⟩
theorem yD (s:jSj):mkS s.data.toList=s:=by cases s;simp [mkS]
theorem Qjx (l:List UInt8):(mkS l).data.toList=l:=by simp [mkS]
theorem dlen (s:jSj):s.data.toList.length=s.size:=by cases s;rfl
theorem Qbl (s:jSj):∀ (m i:Nat) (r:List UInt8),i+m=s.size→ByteArray.toList.loop s i r=r.reverse++s.data.toList.drop i
 | 0,i,r,h=>by
  rw [ByteArray.toList.loop,jFj (by omega),List.drop_eq_nil_of_le (by rw [dlen];omega),List.append_nil]
 | m+1,i,r,h=>by
  have hi:i < s.data.toList.length:=by rw [dlen];omega
  rw [ByteArray.toList.loop,jTj (by omega),Qbl s m (i+1) _ (by omega),List.reverse_cons,List.append_assoc]
  congr 1
  rw [List.drop_eq_getElem_cons hi]
  have:s.get! i=s.data.toList[i]:=by
   cases s with
   | mk a =>
    simp only [ByteArray.get!]
    have hi' : i < a.size:=hi
    rw [getElem!_pos a i hi']
    simp
  rw [this];rfl
theorem jW (s:jSj):s.toList=s.data.toList:=by
 unfold ByteArray.toList
 rw [Qbl s s.size 0 [] (by omega)];rfl
theorem Qab {a b:jSj} (h:a.data.toList=b.data.toList):a=b:=by rw [← yD a,← yD b,h]
theorem XZ (a b:jSj):(a.toList == b.toList)=decide (a=b):=by
 rw [Bool.eq_iff_iff,beq_iff_eq,decide_eq_true_eq,jW,jW]
 exact ⟨Qab,fun h=>by rw [h]⟩
theorem kq (a:jSj) (l:Array UInt8):((a.toList == (⟨l⟩:jSj).toList)=true)=(a.data.toList=l.toList):=by
 rw [XZ,decide_eq_true_eq,eq_iff_iff]
 exact ⟨fun h=>by rw [h],fun h=>Qab h⟩
def Qt:List Int→Int
 | []=>0
 | x::l=>if x=0 then Qt l else x
theorem ZD {α β:Type} {f:α→β} {l:List α} {i:Nat} {x:α} (h:l[i]?=some x):(i:Int) < ((l.map f).length:Int):=by
 have:=(jGj h).1
 simp;omega
theorem EM {ms:List Int} {i:Nat} {x:Int} (h:ms[i]?=some x):el Vt (ms.map I) (i:Int)=some x:=Xr (un:=Vt) (enc:=I) (fun _=>rfl) h
theorem jH {l:List jSj} {i:Nat} {x:jSj} (h:l[i]?=some x):el Ww (l.map Sd) (i:Int)=some x:=Xr (un:=Ww) (enc:=Sd) (fun _=>rfl) h
def fG (_:Unit) (x:Int):Unit⊕(Int⊕Unit):=if x=0 then .inl () else .inr (.inl x)
theorem Es:∀ (l:List Int),Y6 fG (fun _=>.inr ()) l ()=if Qt l=0 then .inr () else .inl (Qt l)
 | []=>rfl
 | x::l=>by
  unfold Y6 fG
  by_cases h:x=0
  ·rw [jTj h];simp only [Qt,jTj h];exact Es l
  ·rw [jFj h];simp only [Qt,jFj h]
theorem Xp {n:Nat} (ms:List Int) (hm:ms.length < 9223372036854775807) (hn:ms.length < n):Qo n (ms.map I)=some (Qt ms):=by
 unfold Qo
 have:=ZK (step:=Vi n (ms.map I)) fG (fun _=>.inr ()) (fun i _=>(i:Int)) ms (fun _ _=>True)
  (fun i s x hx _=>by
   unfold fG Vi
   have hi:=(jGj hx).1
   by_cases h:x=0
   ·rw [jTj h]
    refine ⟨?_,trivial⟩
    rw [jTj (ZD hx),EM hx,jBj,jTj h,jTj (by unfold Qh;omega)];rfl
   ·rw [jFj h]
    dsimp only
    rw [jTj (ZD hx),EM hx,jBj,jFj h])
  (fun s _=>by unfold Vi;rw [jFj (by simp)]) (s:=()) trivial hn
 rw [show (0:Int)=((0:Nat):Int) from rfl,this,Es]
 by_cases h:Qt ms=0
 ·rw [jTj h,h];rfl
 ·rw [jFj h];rfl
theorem uy {n:Nat} (ms:List Int) (hm:ms.length < 9223372036854775807) (hn:ms.length < n):YG n (ms.map I)=some (Qt ms):=by
 unfold YG
 have:=ZK (step:=Vh n (ms.map I)) fG (fun _=>.inr ()) (fun i _=>(i:Int)) ms (fun _ _=>True)
  (fun i s x hx _=>by
   unfold fG Vh
   have hi:=(jGj hx).1
   by_cases h:x=0
   ·rw [jTj h]
    refine ⟨?_,trivial⟩
    rw [jTj (ZD hx),EM hx,jBj,jTj h,jTj (by unfold Qh;omega)];rfl
   ·rw [jFj h]
    dsimp only
    rw [jTj (ZD hx),EM hx,jBj,jFj h])
  (fun s _=>by unfold Vh;rw [jFj (by simp)]) (s:=()) trivial hn
 rw [show (0:Int)=((0:Nat):Int) from rfl,this,Es]
 by_cases h:Qt ms=0
 ·rw [jTj h,h];rfl
 ·rw [jFj h];rfl
theorem wX {n:Nat} (hn:10≤n) (a b c:Int):Qo n [I a,I b,I c]=some (Qt [a,b,c]):=Xp [a,b,c] (by simp) (by simp;omega)
theorem Qcv {n:Nat} (ms:List Int) (hm:ms.length < 9223372036854775807) (hn:ms.length < n):V5 n (ms.map I)=some (Qt ms):=by
 unfold V5;rw [uy ms hm hn];rfl
theorem Zv:∀ {l:List Int},Qt l=0→∀ x,x∈l→x=0
 | [],_,x,hx=>by cases hx
 | y::l,h,x,hx=>by
  unfold Qt at h
  split at h
  ·rename_i hy
   cases hx with
   | head=>exact hy
   | tail _ hx=>exact Zv h x hx
  ·rename_i hy;exact absurd h hy
def inR (x lo hi:Int):Int:=if x < lo then 3 else if x > hi then 3 else 0
def QF (b:Bool) (e:Int):Int:=if b then e else 0
theorem V2 (n:Nat) (x lo hi:Int):ZE n x lo hi=some (inR x lo hi):=by
 unfold ZE Kx Qm inR
 by_cases h:x < lo
 ·simp [h]
 ·by_cases h2:x > hi
  ·simp [h,h2]
  ·simp [h,h2]
theorem YC {x lo hi:Int}:inR x lo hi=0↔lo≤x∧x≤hi:=by
 unfold inR
 constructor
 ·intro h
  repeat' split at h
  all_goals omega
 ·intro h
  rw [jFj (by omega),jFj (by omega)]
theorem qO (x lo hi:Int):inR x lo hi=0 ∨ inR x lo hi=3:=by
 unfold inR
 repeat' split
 all_goals simp
theorem YL (n:Nat) (x lo hi:Int):Wt n x lo hi=some (decide (inR x lo hi≠0)):=by
 unfold Wt inR
 by_cases h:x < lo
 ·simp [h]
 ·by_cases h2:x > hi
  ·simp [h,h2]
  ·simp [h,h2]
theorem Zd (n:Nat) (b:Bool) (e:Int):Qm n b e=some (QF b e):=by
 unfold Qm QF;cases b <;> rfl
theorem wi (n:Nat) (b:Bool) (e:Int):Yt n b e=some (QF b e):=by
 unfold Yt Kw QF;cases b <;> rfl
def Yy (s:jSj) (i:Nat):Nat:=(s.get! i).toNat
def ER (p c:Nat):Prop:=(97≤c∧c≤122) ∨ (65≤c∧c≤90) ∨ (p≠0∧(c=95 ∨ (48≤c∧c≤57)))
instance (p c:Nat):Decidable (ER p c):=by unfold ER;infer_instance
def JU (s:jSj):Nat→Nat→Bool
 | 0,_=>true
 | m+1,p=>decide (ER p (Yy s p)) && JU s m (p+1)
theorem QaR {s:jSj} {p:Nat} (h:Yy s p < 128):Utf8.decode s p=(Yy s p,1):=by
 unfold Yy at h ⊢
 unfold Utf8.decode
 simp only [Nat.add_zero]
 rw [jTj h]
theorem Qaa {s:jSj} {p:Nat} (h:¬ Yy s p < 128):128≤(Utf8.decode s p).1:=by
 unfold Yy at h
 unfold Utf8.decode
 simp only [Nat.add_zero]
 rw [jFj h]
 have hr:128≤Utf8.runeError:=by decide
 repeat' split
 all_goals first | exact hr | (simp only [jAj,decide_eq_true_eq,ge_iff_le] at *;omega)
theorem QdM (n:Nat) {s:jSj} {p:Nat} (h:p < s.size):Wn n s p=if ER p (Yy s p) then some (.inl (p+1)) else some (.inr (.inl ())):=by
 unfold Wn
 rw [jTj h]
 by_cases hb:Yy s p < 128
 ·rw [QaR hb]
  dsimp only
  generalize Yy s p=c at hb ⊢
  by_cases hk:ER p c
  ·rw [jTj hk]
   unfold ER at hk
   repeat' split
   all_goals first | rfl | (exfalso;omega)
  ·rw [jFj hk]
   unfold ER at hk
   repeat' split
   all_goals first | rfl | (exfalso;omega)
 ·have hd:=Qaa hb
  have hno:¬ ER p (Yy s p):=by unfold ER;omega
  rw [jFj hno]
  generalize (Utf8.decode s p).1=c at hd ⊢
  repeat' split
  all_goals first | rfl | (exfalso;omega)
theorem Qdl (n:Nat) {s:jSj}:∀ (m k p:Nat),p+m=s.size→m < k→Q2 (Wn n s) k p=some (if JU s m p=true then .inr () else .inl ())
 | m,0,p,_,h=>by omega
 | 0,k+1,p,hp,_=>by
  rw [JB (e:=.inr ()) (by unfold Wn;rw [jFj (by omega)])];rfl
 | m+1,k+1,p,hp,hk=>by
  have hs:=QdM n (s:=s) (p:=p) (by omega)
  by_cases h:ER p (Yy s p)
  ·rw [jTj h] at hs
   rw [E3 hs,Qdl n m k (p+1) (by omega) (by omega)]
   simp [JU,h]
  ·rw [jFj h] at hs
   rw [JB hs]
   simp [JU,h]
def Us (s:jSj):Bool:=decide (s.size≠0) && decide (s.size≤24) && JU s s.size 0
theorem uM (s:jSj):∀ (m i:Nat) (r:List UInt8),i+m=s.size→(ByteArray.toList.loop s i r).length=r.length+m
 | 0,i,r,h=>by rw [ByteArray.toList.loop,jFj (by omega),List.length_reverse];rfl
 | m+1,i,r,h=>by rw [ByteArray.toList.loop,jTj (by omega),uM s m (i+1) _ (by omega),List.length_cons];omega
theorem Gx (s:jSj):s.toList.length=s.size:=by
 unfold ByteArray.toList
 rw [uM s s.size 0 [] (by omega)];simp
theorem yy (s:jSj):(s.toList == (⟨#[]⟩:jSj).toList)=decide (s.size=0):=by
 rw [Bool.eq_iff_iff,beq_iff_eq,decide_eq_true_eq]
 constructor
 ·intro h
  have h1:s.toList.length=0:=by rw [h,Gx];rfl
  rw [Gx] at h1
  exact h1
 ·intro h
  have h1:s.toList.length=0:=by rw [Gx];exact h
  have h2:(⟨#[]⟩:jSj).toList.length=0:=by rw [Gx];rfl
  rw [List.eq_nil_of_length_eq_zero h1,List.eq_nil_of_length_eq_zero h2]
theorem QbL {n:Nat} {s:jSj} (h:s.size < n):Yi n s=some (Us s):=by
 unfold Yi
 rw [show Q2 (Wn n s) n 0=_ from Qdl n s.size n 0 (by omega) h,jBj]
 unfold Us
 by_cases h1:JU s s.size 0=true
 ·rw [jTj h1,h1]
  dsimp only
  rw [yy]
  by_cases h2:s.size=0
  ·simp [h2]
  ·simp [h2];omega
 ·rw [jFj h1]
  simp only [Bool.not_eq_true] at h1
  rw [h1];simp
theorem Qcb {s:jSj} {p:Nat} (h:p < s.size):WQ s (p:Int)=some ((Yy s p:Nat):Int):=by
 have e:s[p]?=some (s.get! p):=by
  have h1:s[p]?=some s[p]:=by simp [h]
  rw [h1]
  congr 1
  cases s with
  | mk d =>
   have hd:p < d.size:=h
   show d[p]=d[p]!
   simp [hd]
 unfold WQ Yy
 rw [jTj (Int.natCast_nonneg p),Int.toNat_natCast,e]
theorem QdL (n:Nat) {s:jSj} {p:Nat} (h:p < s.size) (hp:p < 1000):Wm n s (p:Int)=if ER p (Yy s p) then some (.inl (((p+1:Nat):Int))) else some (.inr (.inl ())):=by
 unfold Wm
 have hi:Qh ((p:Int)+1):=by unfold Qh;omega
 rw [jTj (by omega),Qcb h,jBj]
 simp only [jTj hi]
 generalize Yy s p=c
 have e:((p:Int)+1)=((p+1:Nat):Int):=rfl
 rw [← e]
 by_cases hk:ER p c
 ·rw [jTj hk]
  unfold ER at hk
  repeat' split
  all_goals first | rfl | (exfalso;omega)
 ·rw [jFj hk]
  unfold ER at hk
  repeat' split
  all_goals first | rfl | (exfalso;omega)
theorem Qdk (n:Nat) {s:jSj}:∀ (m k p:Nat),p+m=s.size→s.size < 1000→m < k→Q2 (Wm n s) k (p:Int)=some (if JU s m p=true then .inr () else .inl ())
 | m,0,p,_,_,h=>by omega
 | 0,k+1,p,hp,_,_=>by
  rw [JB (e:=.inr ()) (by unfold Wm;rw [jFj (by omega)])];rfl
 | m+1,k+1,p,hp,hz,hk=>by
  have hs:=QdL n (s:=s) (p:=p) (by omega) (by omega)
  by_cases h:ER p (Yy s p)
  ·rw [jTj h] at hs
   rw [E3 hs,Qdk n m k (p+1) (by omega) hz (by omega)]
   simp [JU,h]
  ·rw [jFj h] at hs
   rw [JB hs]
   simp [JU,h]
theorem wx {n:Nat} (hn:100≤n) (s:jSj):Yg n s=some (Us s):=by
 unfold Yg Us
 rw [yy]
 by_cases h1:s.size=0
 ·simp [h1]
 rw [jFj (by simpa using h1)]
 by_cases h2:(s.size:Int) > 24
 ·rw [jTj h2]
  have:¬ s.size≤24:=by omega
  simp [this]
 ·rw [jFj h2]
  have h3:s.size≤24:=by omega
  rw [show Q2 (Wm n s) n 0=_ from Qdk n s.size n 0 (by omega) (by omega) (by omega),jBj]
  by_cases h4:JU s s.size 0=true
  ·rw [jTj h4,h4];simp [h1,h3]
  ·rw [jFj h4]
   simp only [Bool.not_eq_true] at h4
   rw [h4];simp
end Go.Proofs.YtljabneifpkbjaaGreatDoor
set_option maxRecDepth 20000
namespace Go.Proofs.YtljabneifpkbjaaGreatDoor
open Go.SX
abbrev Mir:=jSj×jSj×Int×Int×Bool×Bool
abbrev Off:=jSj×Int×Int×Int×Int×Int×Bool
def isA (m:Mir):Bool:=m.2.2.2.2.2
structure Reg where
 tick:Int
 level:Int
 filled:Bool
 tripped:Bool
 light:Int
 heat:Int
 money:Int
 sectors:List jSj
 mirrors:List Mir
 offers:List Off
def Reg.zero:Reg:=⟨0,0,false,false,0,0,0,[],[],[]⟩
def yh (lv:Int) (m:Mir):Int:=if isA m=true then m.2.2.1 * (1000 - m.2.2.2.1) * lv else 0
def UR (lv:Int):List Mir→Int
 | []=>0
 | m::l=>yh lv m+UR lv l
def wz (r:Reg):Int:=UR r.level r.mirrors
def ZL (r:Reg) (t:Int):Int:=wz r * (t - r.tick)
def Zk (r:Reg) (t:Int):Int:=if r.light+ZL r t≤1000000000000000∧r.heat+ZL r t≤1000000000000000 then 0 else 4
end Go.Proofs.YtljabneifpkbjaaGreatDoor
set_option maxRecDepth 20000
namespace Go.Proofs.YtljabneifpkbjaaGreatDoor
open Go.SX
theorem UV {α E:Type} {step:Int×jVj→Option ((Int×jVj)⊕E)} (ex:jVj→E) (l:List α) (f:α→jVj) (hf:∀ x,(f x).length≤1)
  (hstep:∀ (i:Nat) (out:jVj) (x:α),l[i]?=some x→out.length≤i→step ((i:Int),out)=some (.inl (((i+1:Nat):Int),out++f x)))
  (hend:∀ out:jVj,out.length≤l.length→step ((l.length:Int),out)=some (.inr (ex out))) {k:Nat} (hk:l.length < k):Q2 step k (0,[])=some (ex (l.flatMap f)):=by
 have:=ZK (step:=step) (E:=E) (fun (s:jVj) (x:α)=>.inl (s++f x)) ex (fun i s=>((i:Int),s)) l (fun i s=>s.length≤i)
  (fun i s x hx hi=>⟨hstep i s x hx hi,by
   rw [List.length_append]
   have:=hf x
   omega⟩)
  (fun s hs=>hend s hs) (k:=k) (s:=[]) (Nat.zero_le _) hk
 have e:∀ (l:List α) (s:jVj),Y6 (E:=E) (fun (s:jVj) (x:α)=>.inl (s++f x)) ex l s=ex (s++l.flatMap f):=by
  intro l
  induction l with
  | nil=>intro s;simp [Y6]
  | cons x l ih =>
   intro s
   show Y6 (E:=E) (fun (s:jVj) (x:α)=>.inl (s++f x)) ex l (s++f x)=_
   rw [ih,List.flatMap_cons,List.append_assoc]
 rw [e,List.nil_append] at this
 exact this
theorem wW {α β:Type} (f:α→β) (l:List α):l.flatMap (fun x=>[f x])=l.map f:=by
 induction l with
 | nil=>rfl
 | cons x l ih=>rw [List.flatMap_cons,ih];rfl
theorem V7 {b n:Nat} (hb:b≤200) (h:n≤5000):Wa b n:=by
 have h1:n * b≤5000 * 200:=Nat.mul_le_mul h hb
 show n * b≤140737488355328
 omega
def pos:List jSj→jSj→Option Nat
 | [],_=>none
 | x::l,s=>if x=s then some 0 else (pos l s).map (·+1)
def Zu (l:List jSj) (s:jSj):Bool:=(pos l s).isSome
def nmM (l:List Mir):List jSj:=l.map fun x=>x.1
def nmO (l:List Off):List jSj:=l.map fun x=>x.1
end Go.Proofs.YtljabneifpkbjaaGreatDoor
set_option maxRecDepth 20000
namespace Go.Proofs.YtljabneifpkbjaaGreatDoor
open Go.SX
def Ka (m:Mir):Mir:=(m.1,m.2.1,m.2.2.1,m.2.2.2.1,m.2.2.2.2.1,false)
def EN (s:jSj) (m:Mir):Mir:=if m.2.1=s then Ka m else m
def Ws (o:Off):Int:=o.2.2.2.1 - o.2.2.2.2.2.1
def U5 (o:Off):Int:=o.2.2.2.2.1 * o.2.2.2.2.2.1 - 2 * o.2.2.2.2.1 * Ws o
end Go.Proofs.YtljabneifpkbjaaGreatDoor
set_option maxRecDepth 20000
namespace Go.Proofs.YtljabneifpkbjaaGreatDoor
open Go.SX
inductive Ki where
 | sector
 | mirror
 | soil
 | clean
 | defect
 | repair
 | aim
 | park
 | dim
 | sun
 | fill
 | drain
 | trip
 | reset
 | offer
 | deliver
 | bill
 | undo
 deriving DecidableEq
def kw:Ki→List UInt8
 | .sector=>[115,101,99,116,111,114]
 | .mirror=>[109,105,114,114,111,114]
 | .soil=>[115,111,105,108]
 | .clean=>[99,108,101,97,110]
 | .defect=>[100,101,102,101,99,116]
 | .repair=>[114,101,112,97,105,114]
 | .aim=>[97,105,109]
 | .park=>[112,97,114,107]
 | .dim=>[100,105,109]
 | .sun=>[115,117,110]
 | .fill=>[102,105,108,108]
 | .drain=>[100,114,97,105,110]
 | .trip=>[116,114,105,112]
 | .reset=>[114,101,115,101,116]
 | .offer=>[111,102,102,101,114]
 | .deliver=>[100,101,108,105,118,101,114]
 | .bill=>[98,105,108,108]
 | .undo=>[117,110,100,111]
def kr:Ki→List UInt8
 | .sector=>[83]
 | .mirror=>[77,115]
 | .soil=>[109]
 | .clean=>[109]
 | .defect=>[109]
 | .repair=>[109]
 | .aim=>[109]
 | .park=>[109]
 | .dim=>[115]
 | .sun=>[]
 | .fill=>[]
 | .drain=>[]
 | .trip=>[]
 | .reset=>[]
 | .offer=>[79]
 | .deliver=>[111]
 | .bill=>[111]
 | .undo=>[]
def kn (k:Ki):Nat:=(kr k).length
def kv:Ki→Nat
 | .sector=>1
 | .mirror=>2
 | .soil=>2
 | .clean=>1
 | .defect=>1
 | .repair=>1
 | .aim=>1
 | .park=>1
 | .dim=>1
 | .sun=>2
 | .fill=>1
 | .drain=>1
 | .trip=>1
 | .reset=>1
 | .offer=>5
 | .deliver=>2
 | .bill=>1
 | .undo=>0
def allKd:List Ki:=[.sector,.mirror,.soil,.clean,.defect,.repair,.aim,.park,.dim,.sun,.fill,.drain,.trip,.reset,.offer,.deliver,.bill,.undo]
def yJ (l:List UInt8):Option Ki:=allKd.find? fun k=>decide (kw k=l)
theorem E7 (k:Ki):yJ (kw k)=some k:=by cases k <;> decide
theorem qM {l:List UInt8} {k:Ki} (h:yJ l=some k):l=kw k:=by
 have:=List.find?_some h
 simpa using (of_decide_eq_true this).symm
theorem kE {l:List UInt8} (h:yJ l=none) (k:Ki):l≠kw k:=by
 intro e
 rw [e,E7] at h;cases h
theorem kne {a:jSj} {L:List UInt8} (h:a.data.toList=L) {l:Array UInt8} (hn:L≠l.toList):¬ ((a.toList == (⟨l⟩:jSj).toList)=true):=by
 rw [kq,h];exact hn
theorem keq {a:jSj} {L:List UInt8} (h:a.data.toList=L) {l:Array UInt8} (hn:L=l.toList):(a.toList == (⟨l⟩:jSj).toList)=true:=by
 rw [kq,h];exact hn
theorem kno {a:jSj} (h:yJ a.data.toList=none) (k:Ki) {l:Array UInt8} (hl:l.toList=kw k):¬ ((a.toList == (⟨l⟩:jSj).toList)=true):=by
 rw [kq,hl];exact kE h k
theorem JF (n:Nat) {a:jSj}:∀ {k:Ki},a.data.toList=kw k→Q1 n a=some (mkS (kr k),(kv k:Int),true)
 | .sector,h=>by unfold Q1;rw [jTj (keq h rfl)];rfl
 | .mirror,h=>by unfold Q1;(iterate 1 rw [jFj (kne h (by decide))]);rw [jTj (keq h rfl)];rfl
 | .soil,h=>by unfold Q1;(iterate 2 rw [jFj (kne h (by decide))]);rw [jTj (keq h rfl)];rfl
 | .clean,h=>by unfold Q1;(iterate 3 rw [jFj (kne h (by decide))]);rw [jTj (keq h rfl)];rfl
 | .defect,h=>by unfold Q1;(iterate 4 rw [jFj (kne h (by decide))]);rw [jTj (keq h rfl)];rfl
 | .repair,h=>by unfold Q1;(iterate 5 rw [jFj (kne h (by decide))]);rw [jTj (keq h rfl)];rfl
 | .aim,h=>by unfold Q1;(iterate 6 rw [jFj (kne h (by decide))]);rw [jTj (keq h rfl)];rfl
 | .park,h=>by unfold Q1;(iterate 7 rw [jFj (kne h (by decide))]);rw [jTj (keq h rfl)];rfl
 | .dim,h=>by unfold Q1;(iterate 8 rw [jFj (kne h (by decide))]);rw [jTj (keq h rfl)];rfl
 | .sun,h=>by unfold Q1;(iterate 9 rw [jFj (kne h (by decide))]);rw [jTj (keq h rfl)];rfl
 | .fill,h=>by unfold Q1;(iterate 10 rw [jFj (kne h (by decide))]);rw [jTj (keq h rfl)];rfl
 | .drain,h=>by unfold Q1;(iterate 11 rw [jFj (kne h (by decide))]);rw [jTj (keq h rfl)];rfl
 | .trip,h=>by unfold Q1;(iterate 12 rw [jFj (kne h (by decide))]);rw [jTj (keq h rfl)];rfl
 | .reset,h=>by unfold Q1;(iterate 13 rw [jFj (kne h (by decide))]);rw [jTj (keq h rfl)];rfl
 | .offer,h=>by unfold Q1;(iterate 14 rw [jFj (kne h (by decide))]);rw [jTj (keq h rfl)];rfl
 | .deliver,h=>by unfold Q1;(iterate 15 rw [jFj (kne h (by decide))]);rw [jTj (keq h rfl)];rfl
 | .bill,h=>by unfold Q1;(iterate 16 rw [jFj (kne h (by decide))]);rw [jTj (keq h rfl)];rfl
 | .undo,h=>by unfold Q1;(iterate 17 rw [jFj (kne h (by decide))]);rw [jTj (keq h rfl)];rfl
theorem Qdb (n:Nat) {a:jSj} (h:yJ a.data.toList=none):Q1 n a=some (⟨#[]⟩,0,false):=by
 unfold Q1
 rw [jFj (kno h .sector rfl),jFj (kno h .mirror rfl),jFj (kno h .soil rfl),jFj (kno h .clean rfl),jFj (kno h .defect rfl),jFj (kno h .repair rfl),jFj (kno h .aim rfl),jFj (kno h .park rfl),jFj (kno h .dim rfl),jFj (kno h .sun rfl),jFj (kno h .fill rfl),jFj (kno h .drain rfl),jFj (kno h .trip rfl),jFj (kno h .reset rfl),jFj (kno h .offer rfl),jFj (kno h .deliver rfl),jFj (kno h .bill rfl),jFj (kno h .undo rfl)]
theorem QdZ {a b:jSj} (h:(a == b)=true):a=b:=by
 cases a;cases b
 have h' : (ByteArray.mk _ == ByteArray.mk _)=true:=h
 simp only [ByteArray.mk.injEq]
 exact eq_of_beq h
theorem QbA {s:jSj}:∀ {j:Value},X9 (.string s) j=some true→j=.string s:=by
 intro j h
 cases j <;> simp [X9] at h
 rw [QdZ h]
theorem kA:∀ (es:jVj) (s:jSj),(VY (.string s) es).isSome=true→∃ x,D.tup [.v (.string s),x]∈es
 | [],s,h=>by simp [VY] at h
 | e::es,s,h=>by
  unfold VY at h
  split at h
  ·rename_i j x hk
   split at h
   ·rename_i hs
    have:j=.string s:=QbA hs
    subst this
    refine ⟨x,?_⟩
    unfold SX.keyOf at hk
    split at hk <;> try cases hk
    rename_i l
    unfold Qck at hk
    split at hk
    ·cases hk
    ·rename_i a l
     split at hk
     ·cases hk
     ·rename_i y r
      split at hk
      ·split at hk
       ·rename_i k hv
        cases hk
        unfold vOf at hv
        split at hv <;> cases hv
        exact jMj
       ·cases hk
      ·cases hk
   ·obtain ⟨x,hx⟩:=kA es s h
    exact ⟨x,List.mem_cons_of_mem _ hx⟩
  ·cases h
theorem Qby {a:jSj} (h:(VY (.string a) Wr).isSome=true):∃ k,a.data.toList=kw k:=by
 obtain ⟨x,hx⟩:=kA _ _ h
 unfold Wr at hx
 simp only [List.mem_cons,D.tup.injEq,List.cons.injEq,D.v.injEq,Value.string.injEq,List.not_mem_nil,or_false] at hx
 rcases hx with h | h | h | h | h | h | h | h | h | h | h | h | h | h | h | h | h | h
 ·exact ⟨.sector,by rw [h.1];rfl⟩
 ·exact ⟨.mirror,by rw [h.1];rfl⟩
 ·exact ⟨.soil,by rw [h.1];rfl⟩
 ·exact ⟨.clean,by rw [h.1];rfl⟩
 ·exact ⟨.defect,by rw [h.1];rfl⟩
 ·exact ⟨.repair,by rw [h.1];rfl⟩
 ·exact ⟨.aim,by rw [h.1];rfl⟩
 ·exact ⟨.park,by rw [h.1];rfl⟩
 ·exact ⟨.dim,by rw [h.1];rfl⟩
 ·exact ⟨.sun,by rw [h.1];rfl⟩
 ·exact ⟨.fill,by rw [h.1];rfl⟩
 ·exact ⟨.drain,by rw [h.1];rfl⟩
 ·exact ⟨.trip,by rw [h.1];rfl⟩
 ·exact ⟨.reset,by rw [h.1];rfl⟩
 ·exact ⟨.offer,by rw [h.1];rfl⟩
 ·exact ⟨.deliver,by rw [h.1];rfl⟩
 ·exact ⟨.bill,by rw [h.1];rfl⟩
 ·exact ⟨.undo,by rw [h.1];rfl⟩
theorem Qdp:∀ (k:Ki),((VY (.string (mkS (kw k))) Wr).bind J8).map (fun x=>(x.1,x.2.1))=some (mkS (kr k),(kv k:Int))
 | .sector=>by kernel_rfl
 | .mirror=>by kernel_rfl
 | .soil=>by kernel_rfl
 | .clean=>by kernel_rfl
 | .defect=>by kernel_rfl
 | .repair=>by kernel_rfl
 | .aim=>by kernel_rfl
 | .park=>by kernel_rfl
 | .dim=>by kernel_rfl
 | .sun=>by kernel_rfl
 | .fill=>by kernel_rfl
 | .drain=>by kernel_rfl
 | .trip=>by kernel_rfl
 | .reset=>by kernel_rfl
 | .offer=>by kernel_rfl
 | .deliver=>by kernel_rfl
 | .bill=>by kernel_rfl
 | .undo=>by kernel_rfl
theorem QcY {a:jSj} {k:Ki} (h:a.data.toList=kw k):(VY (.string a) Wr).isSome=true∧∃ f g,(VY (.string a) Wr).bind J8=some (mkS (kr k),(kv k:Int),f,g):=by
 have ha:a=mkS (kw k):=by rw [← h,yD]
 subst ha
 have:=Qdp k
 cases hm:VY (.string (mkS (kw k))) Wr with
 | none=>rw [hm] at this;cases this
 | some d =>
  rw [hm,jBj] at this
  refine ⟨rfl,?_⟩
  obtain ⟨x,hx,hy⟩:=Option.map_eq_some_iff.1 this
  refine ⟨x.2.2.1,x.2.2.2,?_⟩
  rw [jBj,hx]
  obtain ⟨h1,h2⟩:=Prod.mk.inj hy
  rw [← h1,← h2]
abbrev Ev:=Int×jSj×List jSj×List Int×jSj
def Zr (e:Ev):D:=QP (e.1,e.2.1,e.2.2.1.map Sd,e.2.2.2.1.map I,e.2.2.2.2)
def Yf (e:Ev):Prop:=e.2.1.size≤40∧e.2.2.1.length≤6∧e.2.2.2.1.length≤8∧e.2.2.2.2.size≤200∧∀ s,s∈e.2.2.1→s.size≤40
def wq (v:Int):Bool:=decide (inR v 0 999999999=0)
def chk (e:Ev):Int:=if inR e.1 1 1000=0 then (match yJ e.2.1.data.toList with
 | none=>13
 | some k=>if e.2.2.1.length=kn k∧e.2.2.2.1.length=kv k then (if e.2.2.1.all Us=true then (if e.2.2.2.1.all wq=true then (if e.2.2.2.2.size=0 then 0 else 1) else 3) else 8) else 2) else 3
structure Good (e:Ev) (k:Ki):Prop where
 num:1≤e.1∧e.1≤1000
 kind:e.2.1.data.toList=kw k
 names:e.2.2.1.length=kn k
 vals:e.2.2.2.1.length=kv k
 name:∀ s,s∈e.2.2.1→Us s=true
 val:∀ v,v∈e.2.2.2.1→0≤v∧v≤999999999
 text:e.2.2.2.2.size=0
theorem qn {e:Ev} (h:chk e=0):∃ k,Good e k:=by
 unfold chk at h
 split at h
 case isFalse=>cases h
 rename_i h1
 split at h
 ·cases h
 rename_i k hk
 split at h
 case isFalse=>cases h
 rename_i h2
 split at h
 case isFalse=>cases h
 rename_i h3
 split at h
 case isFalse=>cases h
 rename_i h4
 split at h
 case isFalse=>cases h
 rename_i h5
 refine ⟨k,YC.1 h1,qM hk,h2.1,h2.2,List.all_eq_true.1 h3,fun v hv=>?_,h5⟩
 have:=List.all_eq_true.1 h4 v hv
 exact YC.1 (of_decide_eq_true this)
theorem Qc4 {n:Nat} (hn:100≤n) (l:List jSj) (hl:l.length≤60) (hs:∀ s,s∈l→s.size < n):Wf n (l.map Sd)=some ((l.map fun s=>QF (!Us s) 8).map I):=by
 unfold Wf
 have:=UV (step:=WN n (l.map Sd)) (E:=jVj) (fun out=>out) l (fun s=>[I (QF (!Us s) 8)]) (fun _=>jLj _)
  (fun i out x hx ho=>by
   have hi:=(jGj hx).1
   unfold WN Vs
   dsimp only
   rw [jTj (ZD hx),jH hx,jBj,QbL (by have:=hs x (List.mem_of_getElem? hx);omega),jBj,Zd,jBj,jBj,jTj (V7 (by decide) (by omega)),jTj (by unfold Qh;omega)];rfl)
  (fun out _=>by unfold WN;dsimp only;rw [jFj (by simp)]) (k:=n) (by omega)
 rw [this,jBj,wW,List.map_map]
 rfl
theorem Qc3 {n:Nat} (hn:100≤n) (l:List Int) (hl:l.length≤60):ZU n (l.map I)=some ((l.map fun v=>inR v 0 999999999).map I):=by
 unfold ZU
 have:=UV (step:=Wp n (l.map I)) (E:=jVj) (fun out=>out) l (fun v=>[I (inR v 0 999999999)]) (fun _=>jLj _)
  (fun i out x hx ho=>by
   have hi:=(jGj hx).1
   unfold Wp Vr
   dsimp only
   rw [jTj (ZD hx),EM hx,jBj,V2,jBj,jBj,jTj (V7 (by decide) (by omega)),jTj (by unfold Qh;omega)];rfl)
  (fun out _=>by unfold Wp;dsimp only;rw [jFj (by simp)]) (k:=n) (by omega)
 rw [this,jBj,wW,List.map_map]
 rfl
theorem kH:∀ (l:List jSj),Qt (l.map fun s=>QF (!Us s) 8)=if l.all Us=true then 0 else 8
 | []=>rfl
 | s::l=>by
  have ih:=kH l
  rw [jCj]
  unfold Qt QF
  unfold QF at ih
  cases h:Us s with
  | true=>simp only [Bool.not_true,Bool.false_eq_true,if_false,if_true,List.all_cons,h,Bool.true_and];exact ih
  | false=>simp [h]
theorem uU:∀ (l:List Int),Qt (l.map fun v=>inR v 0 999999999)=if l.all wq=true then 0 else 3
 | []=>rfl
 | v::l=>by
  have ih:=uU l
  rw [jCj]
  unfold Qt
  rcases qO v 0 999999999 with h | h
  ·rw [jTj h,ih];simp [wq,h]
  ·rw [h,jFj (by decide)];simp [wq,h]
theorem Qa8 (s:jSj):(!(s.toList == (⟨#[]⟩:jSj).toList))=decide (s.size≠0):=by
 rw [yy];by_cases h:s.size=0 <;> simp [h]
theorem QkC {n:Nat} (hn:100≤n) (e:Ev) (h2:e.2.2.1.length≤6) (h3:e.2.2.2.1.length≤8) (h5:∀ s,s∈e.2.2.1→s.size < n):WX n e.1 e.2.1 (e.2.2.1.map Sd) (e.2.2.2.1.map I) e.2.2.2.2=some (chk e):=by
 have hend:(Wf n (e.2.2.1.map Sd)).bind (fun t9=>(Qo n t9).bind fun t10=>(ZU n (e.2.2.2.1.map I)).bind fun t11=>(Qo n t11).bind fun t12 =>
   (Qm n (!(e.2.2.2.2.toList == (⟨#[]⟩:jSj).toList)) 1).bind fun t13=>(Qo n ([I t10,I t12,I t13])).bind fun t14=>some t14) =
   some (if e.2.2.1.all Us=true then (if e.2.2.2.1.all wq=true then (if e.2.2.2.2.size=0 then 0 else 1) else 3) else 8):=by
  rw [Qc4 hn _ (by omega) h5,jBj,Xp _ (by simp;omega) (by simp;omega),jBj,Qc3 hn _ (by omega),jBj,Xp _ (by simp;omega) (by simp;omega),jBj,
   kH,uU,Zd,jBj,wX (by omega),jBj,Qa8]
  unfold QF Qt Qt Qt Qt
  by_cases g1:e.2.2.1.all Us=true <;> by_cases g2:e.2.2.2.1.all wq=true <;> by_cases g3:e.2.2.2.2.size=0 <;> simp [g1,g2,g3]
 unfold WX
 cases hk:yJ e.2.1.data.toList with
 | none =>
  have hno:¬ (VY (.string e.2.1) Wr).isSome=true:=fun h=>by
   obtain ⟨k,hk'⟩:=Qby h
   exact kE hk k hk'
  rw [jFj hno,V2,jBj]
  unfold Uo VN
  simp only [jBj,Zd]
  unfold chk
  rw [hk]
  have hx:∀ x:Int,Qo n ([I (inR e.1 1 1000),I 13,I x])=some (if inR e.1 1 1000=0 then 13 else 3):=by
   intro x
   rw [wX (by omega)]
   unfold Qt Qt
   rcases qO e.1 1 1000 with h | h <;> rw [h] <;> simp
  have hz:¬ (if inR e.1 1 1000=0 then (13:Int) else 3)=0:=by split <;> decide
  split
  ·rw [hx,jBj,jFj hz]
  ·rw [hx,jBj,jFj hz]
 | some k =>
  obtain ⟨hsome,f,g,hget⟩:=QcY (qM hk)
  rw [jTj hsome,hget,jBj,V2,jBj]
  unfold Up VN
  simp only [jBj,Zd]
  unfold chk
  rw [hk]
  have hx:∀ x:Int,Qo n ([I (inR e.1 1 1000),I 0,I x])=some (if inR e.1 1 1000=0 then x else 3):=by
   intro x
   rw [wX (by omega)]
   unfold Qt Qt Qt Qt
   rcases qO e.1 1 1000 with h | h <;> rw [h] <;> simp
   intro h;exact h.symm
  have hsz:((mkS (kr k)).size:Int)=(kn k:Int):=by unfold kn mkS ByteArray.size;simp
  simp only [hx,jBj,List.length_map,hsz]
  by_cases g0:inR e.1 1 1000=0
  ·simp only [g0,if_true]
   by_cases g1:e.2.2.1.length=kn k
   ·rw [jTj (by omega)]
    by_cases g2:e.2.2.2.1.length=kv k
    ·have hg:e.2.2.1.length=kn k∧e.2.2.2.1.length=kv k:=⟨g1,g2⟩
     have:(((e.2.2.2.1.length:Nat):Int) != (kv k:Int))=false:=by simp [g2]
     rw [this]
     simp only [QF,Bool.false_eq_true,if_false,if_true]
     rw [jTj hg]
     simp only [Zd,jBj,QF] at hend
     exact hend
    ·have:(((e.2.2.2.1.length:Nat):Int) != (kv k:Int))=true:=by simp;omega
     rw [this]
     simp only [QF,if_true]
     rw [jFj (by decide),jFj (fun h=>g2 h.2)]
   ·rw [jFj (by omega),jFj (by decide),jFj (fun h=>g1 h.1)]
  ·simp only [g0,if_false]
   split
   ·rw [jFj (by decide)]
   ·rw [jFj (by decide)]
def nG (_:Unit) (s:jSj):Unit⊕(Unit⊕Unit):=if Us s=true then .inl () else .inr (.inl ())
theorem Qba:∀ (l:List jSj),Y6 nG (fun _=>.inr ()) l ()=if l.all Us=true then .inr () else .inl ()
 | []=>rfl
 | s::l=>by
  unfold Y6 nG
  by_cases h:Us s=true
  ·rw [jTj h];simp only [List.all_cons,h,Bool.true_and];exact Qba l
  ·rw [jFj h];simp [h]
def vG (_:Unit) (v:Int):Unit⊕(Unit⊕Unit):=if wq v=true then .inl () else .inr (.inl ())
theorem Qa9:∀ (l:List Int),Y6 vG (fun _=>.inr ()) l ()=if l.all wq=true then .inr () else .inl ()
 | []=>rfl
 | v::l=>by
  unfold Y6 vG
  by_cases h:wq v=true
  ·rw [jTj h];simp only [List.all_cons,h,Bool.true_and];exact Qa9 l
  ·rw [jFj h];simp [h]
theorem V3 {n:Nat} (hn:100≤n) (e:Ev) (hs:Yf e):WX n e.1 e.2.1 (e.2.2.1.map Sd) (e.2.2.2.1.map I) e.2.2.2.2=some (chk e) :=
 QkC hn e hs.2.1 hs.2.2.1 fun s h=>Nat.lt_of_le_of_lt (hs.2.2.2.2 s h) (by omega)
theorem Qj4 {n:Nat} (hn:100≤n) (e:Ev) (hs:e.2.2.1.length≤6∧e.2.2.2.1.length≤8):WV n e.1 e.2.1 (e.2.2.1.map Sd) (e.2.2.2.1.map I) e.2.2.2.2=some (chk e):=by
 obtain ⟨h2,h3⟩:=hs
 unfold WV chk
 rw [YL,jBj]
 by_cases g0:inR e.1 1 1000=0
 ·rw [jFj (by simp [g0]),jTj g0]
  cases hk:yJ e.2.1.data.toList with
  | none=>rw [Qdb n hk];simp
  | some k =>
   rw [JF n (qM hk),jBj]
   dsimp only
   have hsz:((mkS (kr k)).size:Int)=(kn k:Int):=by unfold kn mkS ByteArray.size;simp
   rw [jTj rfl]
   simp only [List.length_map,hsz]
   by_cases g1:e.2.2.1.length=kn k
   ·rw [jTj (by omega)]
    by_cases g2:e.2.2.2.1.length=kv k
    ·have hg:e.2.2.1.length=kn k∧e.2.2.2.1.length=kv k:=⟨g1,g2⟩
     rw [jTj (by omega),jTj hg]
     have q1:=ZK (step:=Z4 n e.1 e.2.1 (e.2.2.1.map Sd) (e.2.2.2.1.map I) e.2.2.2.2 (mkS (kr k),(kv k:Int),true)) nG (fun _=>.inr ()) (fun i _=>(i:Int)) e.2.2.1 (fun _ _=>True)
      (fun i _ s hx _=>by
       have hi:=(jGj hx).1
       have hlt:(i:Int) < ((mkS (kr k)).size:Int):=by rw [hsz];omega
       unfold nG Z4
       by_cases h:Us s=true
       ·rw [jTj h]
        refine ⟨?_,trivial⟩
        dsimp only
        rw [jTj hlt,jH hx,jBj,wx hn,jBj,jTj h,jTj (by unfold Qh;omega)];rfl
       ·rw [jFj h]
        dsimp only
        rw [jTj hlt,jH hx,jBj,wx hn,jBj,jFj h])
      (fun s _=>by unfold Z4;dsimp only;rw [jFj (by rw [hsz];omega)]) (s:=()) (k:=n) trivial (by omega)
     have q2:=ZK (step:=Z3 n e.1 e.2.1 (e.2.2.1.map Sd) (e.2.2.2.1.map I) e.2.2.2.2 (mkS (kr k),(kv k:Int),true)) vG (fun _=>.inr ()) (fun i _=>(i:Int)) e.2.2.2.1 (fun _ _=>True)
      (fun i _ v hx _=>by
       have hi:=(jGj hx).1
       unfold vG Z3 wq
       by_cases h:inR v 0 999999999=0
       ·rw [jTj (jDj h)]
        refine ⟨?_,trivial⟩
        dsimp only
        rw [jTj (by omega),EM hx,jBj,YL,jBj,jFj (by simp [h]),jTj (by unfold Qh;omega)];rfl
       ·rw [jFj (by simpa using h)]
        dsimp only
        rw [jTj (by omega),EM hx,jBj,YL,jBj,jTj (by simp [h])])
      (fun s _=>by unfold Z3;dsimp only;rw [jFj (by omega)]) (s:=()) (k:=n) trivial (by omega)
     rw [show Q2 (Z4 n e.1 e.2.1 (e.2.2.1.map Sd) (e.2.2.2.1.map I) e.2.2.2.2 (mkS (kr k),(kv k:Int),true)) n 0=_ from q1,Qba,jBj]
     by_cases g3:e.2.2.1.all Us=true
     ·rw [jTj g3,jTj g3]
      dsimp only
      rw [show Q2 (Z3 n e.1 e.2.1 (e.2.2.1.map Sd) (e.2.2.2.1.map I) e.2.2.2.2 (mkS (kr k),(kv k:Int),true)) n 0=_ from q2,Qa9,jBj]
      by_cases g4:e.2.2.2.1.all wq=true
      ·rw [jTj g4,jTj g4]
       dsimp only
       rw [Qa8]
       by_cases g5:e.2.2.2.2.size=0 <;> simp [g5]
      ·rw [jFj g4,jFj g4]
     ·rw [jFj g3,jFj g3]
    ·rw [jFj (by omega),jFj (fun h=>g2 h.2)]
   ·rw [jFj (by omega),jFj (fun h=>g1 h.1)]
 ·rw [jTj (by simp [g0]),jFj g0]
theorem Ga {n:Nat} (hn:100≤n) (e:Ev) (hs:Yf e):WV n e.1 e.2.1 (e.2.2.1.map Sd) (e.2.2.2.1.map I) e.2.2.2.2=some (chk e):=Qj4 hn e ⟨hs.2.1,hs.2.2.1⟩
theorem gs1 {β:Type} {x:D} {a:jSj} {l:jVj} {f:jSj→Option β}:(el Ww (x::Sd a::l) 1).bind f=f a:=rfl
section
variable {num:Int} {kind text:jSj} {names:List jSj} {vals:List Int} {k:Ki}
end
theorem g0 {t x:Int} {l:List Int} (h:t < x):(t::l).getD 0 0 < x:=h
end Go.Proofs.YtljabneifpkbjaaGreatDoor
