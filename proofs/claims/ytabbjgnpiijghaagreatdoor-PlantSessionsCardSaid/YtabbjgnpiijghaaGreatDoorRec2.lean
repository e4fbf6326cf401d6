/- Own texts. -/
import Derived.Test.YtabbjgnpiijghaaGreatDoorGen5
import Derived.Test.YtabbjgnpiijghaaGreatDoorSxTwentyFive
import Derived.WalkKit
import Derived.WalkSpells
import Derived.WalkLawsBesides
import Derived.Laws.Externs
import Derived.Shelf.Strings.OnBuilder
import Derived.Shelf.Strconv.Itoa3
import Derived.Shelf.LaysM
import Derived.Shelf.Small.Strs
import Derived.Shelf.Strings.Search1
import Derived.Shelf.Strings.Search3
import Derived.Shelf.Strings.Count
import Derived.Shelf.Strings.SlTrimAscii
set_option linter.unusedSimpArgs false
set_option linter.unusedVariables false
set_option linter.unnecessarySimpa false
set_option maxRecDepth 20000
namespace Go.Proofs.YtabbjgnpiijghaaGreatDoor
open Go.SX
abbrev Sd (b:jSj):D:=.v (.string b)
def mkS (l:List UInt8):jSj:=⟨l.toArray⟩
theorem yD (s:jSj):mkS s.data.toList=s:=by cases s;simp[mkS]
theorem Qjx (l:List UInt8):(mkS l).data.toList=l:=by simp[mkS]
theorem dlen (s:jSj):s.data.toList.length=s.size:=by cases s;rfl
theorem Qbl (s:jSj):∀(m i:Nat) (r:List UInt8),i+m=s.size->ByteArray.toList.loop s i r=r.reverse++s.data.toList.drop i
 | 0,i,r,h=>by rw[ByteArray.toList.loop,jFj (by omega),List.drop_eq_nil_of_le (by rw[dlen];omega),List.append_nil]
 | m+1,i,r,h=>by
  have hi:i<s.data.toList.length:=by rw[dlen];omega
  rw[ByteArray.toList.loop,jTj (by omega),Qbl s m (i+1) _ (by omega),List.reverse_cons,List.append_assoc];congr 1
  rw[List.drop_eq_getElem_cons hi];have:s.get! i=s.data.toList[i]:=by
   cases s with
   | mk a =>
    simp only[ByteArray.get!];have b : i<a.size:=hi;rw[getElem!_pos a i b];simp
  rw[this];rfl
theorem jW (s:jSj):s.toList=s.data.toList:=by unfold ByteArray.toList;rw[Qbl s s.size 0 [] (by omega)];rfl
theorem Qab {a b:jSj}(h:a.data.toList=b.data.toList):a=b:=by rw[<-yD a,<-yD b,h]
theorem XZ (a b:jSj):(a.toList==b.toList)=decide (a=b):=by rw[Bool.eq_iff_iff,beq_iff_eq,decide_eq_true_eq,jW,jW];exact⟨Qab,fun h=>by rw[h]⟩
theorem kq (a:jSj)(l:Array UInt8):((a.toList==(⟨l⟩:jSj).toList)=true)=(a.data.toList=l.toList):=by rw[XZ,decide_eq_true_eq,eq_iff_iff];exact⟨fun h=>by rw[h],fun h=>Qab h⟩
def Qt:List Int->Int
 | []=>0
 | x::l=>if x=0 then Qt l else x
theorem ZD {α a:Type}{f:α->a}{l:List α}{i:Nat}{x:α}(h:l[i]?=some x):(i:Int)<((l.map f).length:Int):=by have:=(jGj h).1;simp;omega
theorem EM {ms:List Int}{i:Nat}{x:Int}(h:ms[i]?=some x):el Vt (ms.map I) (i:Int)=some x:=Xr (un:=Vt) (enc:=I) (fun _=>rfl) h
theorem jH {l:List jSj}{i:Nat}{x:jSj}(h:l[i]?=some x):el Ww (l.map Sd) (i:Int)=some x:=Xr (un:=Ww) (enc:=Sd) (fun _=>rfl) h
theorem Q4 {α:Type}{un:D->Option α}{enc:α->D}(a:∀x,un (enc x)=some x){l:List α}{i:Nat}{x:α}(h:l[i]?=some x):(nth (l.map enc) (Int.toNat (i:Int))).bind un=some x:=by rw[jtj,Ub,List.getElem?_map,h];exact a x
def fG (_:Unit)(x:Int):Unit⊕(Int⊕Unit):=if x=0 then .inl () else .inr (.inl x)
theorem Es:∀(l:List Int),Y6 fG (fun _=>.inr ()) l ()=if Qt l=0 then .inr () else .inl (Qt l)
 | []=>rfl
 | x::l=>by
  unfold Y6 fG;by_cases h:x=0
  ·rw[jTj h];simp only[Qt,jTj h];exact Es l
  ·rw[jFj h];simp only[Qt,jFj h]
theorem Xp {n:Nat}(ms:List Int)(c:ms.length<9223372036854775807)(b:ms.length<n):Qo n (ms.map I)=some (Qt ms):=by
 unfold Qo;have:=ZK (step:=Vi n (ms.map I)) fG (fun _=>.inr ()) (fun i _=>(i:Int)) ms (fun _ _=>True)
  (fun i s x a _=>by
   unfold fG Vi;have hi:=(jGj a).1;by_cases h:x=0
   ·rw[jTj h];refine⟨?_,trivial⟩;rw[jTj (ZD a),EM a,jBj,jTj h,jTj (by unfold Qh;omega)];rfl
   ·rw[jFj h];dsimp only;rw[jTj (ZD a),EM a,jBj,jFj h])
  (fun s _=>by unfold Vi;rw[jFj (by simp)]) (s:=()) trivial b
 rw[show(0:Int)=((0:Nat):Int) from rfl,this,Es];by_cases h:Qt ms=0
 ·rw[jTj h,h];rfl
 ·rw[jFj h];rfl
theorem VE {n:Nat}(c:10<=n)(a b:Int):Qo n [I a,I b]=some (Qt [a,b]):=Xp [a,b] (by simp) (by simp;omega)
theorem wX {n:Nat}(d:10<=n)(a b c:Int):Qo n [I a,I b,I c]=some (Qt [a,b,c]):=Xp [a,b,c] (by simp) (by simp;omega)
theorem QaK {n:Nat}(e:10<=n)(a b c d:Int):Qo n [I a,I b,I c,I d]=some (Qt [a,b,c,d]):=Xp [a,b,c,d] (by simp) (by simp;omega)
theorem Zv:∀{l:List Int},Qt l=0->∀x,x∈l->x=0
 | [],_,x,hx=>by cases hx
 | y::l,h,x,hx=>by
  unfold Qt at h;split at h
  ·rename_i a;cases hx with
   | head=>exact a
   | tail _ hx=>exact Zv h x hx
  ·rename_i a;exact absurd h a
def inR (x lo hi:Int):Int:=if x<lo then 3 else if x>hi then 3 else 0
def QF (b:Bool)(e:Int):Int:=if b then e else 0
theorem V2 (n:Nat)(x lo hi:Int):ZE n x lo hi=some (inR x lo hi):=by
 unfold ZE Kx Qm inR;by_cases h:x<lo
 ·simp[h]
 ·by_cases a:x>hi
  ·simp[h,a]
  ·simp[h,a]
theorem YC {x lo hi:Int}:inR x lo hi=0↔lo<=x/\x<=hi:=by
 unfold inR;constructor
 ·intro h;repeat' split at h
  all_goals omega
 ·intro h;rw[jFj (by omega),jFj (by omega)]
theorem qO (x lo hi:Int):inR x lo hi=0\/inR x lo hi=3:=by
 unfold inR;repeat' split
 all_goals simp
theorem YL (n:Nat)(x lo hi:Int):Wt n x lo hi=some (decide (inR x lo hi≠0)):=by
 unfold Wt inR;by_cases h:x<lo
 ·simp[h]
 ·by_cases a:x>hi
  ·simp[h,a]
  ·simp[h,a]
theorem Zd (n:Nat)(b:Bool)(e:Int):Qm n b e=some (QF b e):=by unfold Qm QF;cases b<;>rfl
def Yy (s:jSj)(i:Nat):Nat:=(s.get! i).toNat
def ER (p c:Nat):Prop:=(97<=c/\c<=122)\/(65<=c/\c<=90)\/(p≠0/\(c=95\/(48<=c/\c<=57)))
instance (p c:Nat):Decidable (ER p c):=by unfold ER;infer_instance
def JU (s:jSj):Nat->Nat->Bool
 | 0,_=>true
 | m+1,p=>decide (ER p (Yy s p))&&JU s m (p+1)
theorem QaR {s:jSj}{p:Nat}(h:Yy s p<128):Utf8.decode s p=(Yy s p,1):=by unfold Yy at h ⊢;unfold Utf8.decode;simp only[Nat.add_zero];rw[jTj h]
theorem Qaa {s:jSj}{p:Nat}(h:¬Yy s p<128):128<=(Utf8.decode s p).1:=by
 unfold Yy at h;unfold Utf8.decode;simp only[Nat.add_zero];rw[jFj h];have a:128<=Utf8.runeError:=by decide
 repeat' split
 all_goals first|exact a|(simp only[jAj,decide_eq_true_eq,ge_iff_le] at *;omega)
theorem QdM (n:Nat){s:jSj}{p:Nat}(h:p<s.size):Wn n s p=if ER p (Yy s p) then some (.inl (p+1)) else some (.inr (.inl ())):=by
 unfold Wn;rw[jTj h];by_cases b:Yy s p<128
 ·rw[QaR b];dsimp only;generalize Yy s p=c at b ⊢;by_cases a:ER p c
  ·rw[jTj a];unfold ER at a;repeat' split
   all_goals first|rfl|(exfalso;omega)
  ·rw[jFj a];unfold ER at a;repeat' split
   all_goals first|rfl|(exfalso;omega)
 ·have e:=Qaa b;have d:¬ER p (Yy s p):=by unfold ER;omega
  rw[jFj d];generalize (Utf8.decode s p).1=c at e ⊢;repeat' split
  all_goals first|rfl|(exfalso;omega)
theorem Qdl (n:Nat){s:jSj}:∀(m k p:Nat),p+m=s.size->m<k->Q2 (Wn n s) k p=some (if JU s m p=true then .inr () else .inl ())
 | m,0,p,_,h=>by omega
 | 0,k+1,p,hp,_=>by rw[JB (e:=.inr ()) (by unfold Wn;rw[jFj (by omega)])];rfl
 | m+1,k+1,p,hp,hk=>by
  have a:=QdM n (s:=s) (p:=p) (by omega);by_cases h:ER p (Yy s p)
  ·rw[jTj h] at a;rw[E3 a,Qdl n m k (p+1) (by omega) (by omega)];simp[JU,h]
  ·rw[jFj h] at a;rw[JB a];simp[JU,h]
def Us (s:jSj):Bool:=decide (s.size≠0)&&decide (s.size<=24)&&JU s s.size 0
theorem uM (s:jSj):∀(m i:Nat) (r:List UInt8),i+m=s.size->(ByteArray.toList.loop s i r).length=r.length+m
 | 0,i,r,h=>by rw[ByteArray.toList.loop,jFj (by omega),List.length_reverse];rfl
 | m+1,i,r,h=>by rw[ByteArray.toList.loop,jTj (by omega),uM s m (i+1) _ (by omega),List.length_cons];omega
theorem Gx (s:jSj):s.toList.length=s.size:=by unfold ByteArray.toList;rw[uM s s.size 0 [] (by omega)];simp
theorem yy (s:jSj):(s.toList==(⟨#[]⟩:jSj).toList)=decide (s.size=0):=by
 rw[Bool.eq_iff_iff,beq_iff_eq,decide_eq_true_eq];constructor
 ·intro h;have a:s.toList.length=0:=by rw[h,Gx];rfl
  rw[Gx] at a;exact a
 ·intro h;have a:s.toList.length=0:=by rw[Gx];exact h
  have b:(⟨#[]⟩:jSj).toList.length=0:=by rw[Gx];rfl
  rw[List.eq_nil_of_length_eq_zero a,List.eq_nil_of_length_eq_zero b]
theorem QbL {n:Nat}{s:jSj}(h:s.size<n):Yi n s=some (Us s):=by
 unfold Yi;rw[show Q2 (Wn n s) n 0=_ from Qdl n s.size n 0 (by omega) h,jBj];unfold Us;by_cases a:JU s s.size 0=true
 ·rw[jTj a,a];dsimp only;rw[yy];by_cases b:s.size=0
  ·simp[b]
  ·simp[b];omega
 ·rw[jFj a];simp only[Bool.not_eq_true] at a;rw[a];simp
theorem Qcb {s:jSj}{p:Nat}(h:p<s.size):WQ s (p:Int)=some ((Yy s p:Nat):Int):=by
 have e:s[p]?=some (s.get! p):=by
  have a:s[p]?=some s[p]:=by simp[h]
  rw[a];congr 1
  cases s with
  | mk d =>
   have b:p<d.size:=h;show d[p]=d[p]!;simp[b]
 unfold WQ Yy;rw[jTj (Int.natCast_nonneg p),jtj,e]
theorem QdL (n:Nat){s:jSj}{p:Nat}(h:p<s.size)(hp:p<1000):Wm n s (p:Int)=if ER p (Yy s p) then some (.inl (((p+1:Nat):Int))) else some (.inr (.inl ())):=by
 unfold Wm;have hi:Qh ((p:Int)+1):=by unfold Qh;omega
 rw[jTj (by omega),Qcb h,jBj];simp only[jTj hi];generalize Yy s p=c;have e:((p:Int)+1)=((p+1:Nat):Int):=rfl;rw[<-e];by_cases a:ER p c
 ·rw[jTj a];unfold ER at a;repeat' split
  all_goals first|rfl|(exfalso;omega)
 ·rw[jFj a];unfold ER at a;repeat' split
  all_goals first|rfl|(exfalso;omega)
theorem Qdk (n:Nat){s:jSj}:∀(m k p:Nat),p+m=s.size->s.size<1000->m<k->Q2 (Wm n s) k (p:Int)=some (if JU s m p=true then .inr () else .inl ())
 | m,0,p,_,_,h=>by omega
 | 0,k+1,p,hp,_,_=>by rw[JB (e:=.inr ()) (by unfold Wm;rw[jFj (by omega)])];rfl
 | m+1,k+1,p,hp,hz,hk=>by
  have a:=QdL n (s:=s) (p:=p) (by omega) (by omega);by_cases h:ER p (Yy s p)
  ·rw[jTj h] at a;rw[E3 a,Qdk n m k (p+1) (by omega) hz (by omega)];simp[JU,h]
  ·rw[jFj h] at a;rw[JB a];simp[JU,h]
theorem wx {n:Nat}(e:1700<=n)(s:jSj):Yg n s=some (Us s):=by
 unfold Yg Us;rw[yy];by_cases b:s.size=0
 ·simp[b]
 rw[jFj (by simpa using b)];by_cases c:(s.size:Int)>24
 ·rw[jTj c];have:¬s.size<=24:=by omega
  simp[this]
 ·rw[jFj c];have d:s.size<=24:=by omega
  rw[show Q2 (Wm n s) n 0=_ from Qdk n s.size n 0 (by omega) (by omega) (by omega),jBj];by_cases a:JU s s.size 0=true
  ·rw[jTj a,a];simp[b,d]
  ·rw[jFj a];simp only[Bool.not_eq_true] at a;rw[a];simp
abbrev Mir:=jSj×jSj×Int×Int×Bool×Bool
abbrev Off:=jSj×Int×Int×Int×Int×Int×Bool
def QY (m:Mir):D:=QB m
def Zj (o:Off):D:=Q7 o
theorem unM (m:Mir):QM (QY m)=some m:=rfl
theorem unO (o:Off):Z6 (Zj o)=some o:=rfl
def isA (m:Mir):Bool:=m.2.2.2.2.2
structure Reg where
 tick:Int
 level:Int
 filled:Bool
 tripped:Bool
 light:Int
 heat:Int
 money:Int
 sectors:List jSj
 mirrors:List Mir
 offers:List Off
def Reg.zero:Reg:=⟨0,0,false,false,0,0,0,[],[],[]⟩
def okM (m:Mir):Prop:=(1<=m.2.2.1/\m.2.2.1<=100)/\(0<=m.2.2.2.1/\m.2.2.2.1<=1000)
def okO (o:Off):Prop:=(1<=o.2.2.2.1/\o.2.2.2.1<=1000)/\(0<=o.2.2.2.2.1/\o.2.2.2.2.1<=1000)/\(0<=o.2.2.2.2.2.1/\o.2.2.2.2.2.1<=o.2.2.2.1)
structure Inv (c:Nat) (r:Reg):Prop where
 tick:0<=r.tick/\r.tick<=999999999
 level:0<=r.level/\r.level<=1000
 light:0<=r.light/\r.light<=1000000000000000
 heat:0<=r.heat/\r.heat<=1000000000000000
 money : -(2000000*(c:Int))<=r.money/\r.money<=2000000*(c:Int)
 secs:r.sectors.length<=8
 lenM:r.mirrors.length<=min c 32
 lenO:r.offers.length<=min c 32
 mirs:∀m,m∈r.mirrors->okM m
 offs:∀o,o∈r.offers->okO o
theorem Qdu {g c p q:Int}(hp:0<=p)(f : -p<=g/\g<=p)(a:0<=q)(hc : -q<=c/\c<=q) : -(p*q)<=g*c/\g*c<=p*q:=by have h:=Int.natAbs_mul g c;have b:g.natAbs*c.natAbs<=p.natAbs*q.natAbs:=Nat.mul_le_mul (by omega) (by omega);have d:=Int.natAbs_mul p q;have e:0<=p*q:=Int.mul_nonneg hp a;omega
theorem wF {g c p q:Int}(a:0<=g/\g<=p)(hc:0<=c/\c<=q):0<=g*c/\g*c<=p*q :=
 ⟨Int.mul_nonneg a.1 hc.1,(Qdu (by omega) ⟨by omega,a.2⟩ (by omega) ⟨by omega,hc.2⟩).2⟩
def yh (a:Int)(m:Mir):Int:=if isA m=true then m.2.2.1*(1000 - m.2.2.2.1)*a else 0
def UR (a:Int):List Mir->Int
 | []=>0
 | m::l=>yh a m+UR a l
def wz (r:Reg):Int:=UR r.level r.mirrors
theorem EU {d:Int}(e:0<=d/\d<=1000){m:Mir}(f:okM m):(0<=m.2.2.1*(1000 - m.2.2.2.1)/\m.2.2.1*(1000 - m.2.2.2.1)<=100000)/\(0<=m.2.2.1*(1000 - m.2.2.2.1)*d/\m.2.2.1*(1000 - m.2.2.2.1)*d<=100000000)/\(0<=yh d m/\yh d m<=100000000):=by obtain⟨h,i⟩:=f;have a:=wF (g:=m.2.2.1) (c:=1000 - m.2.2.2.1) (p:=100) (q:=1000) (by omega) (by omega);have b:=wF (g:=m.2.2.1*(1000 - m.2.2.2.1)) (c:=d) (p:=100000) (q:=1000) (by omega) e;refine⟨by omega,by omega,?_⟩;unfold yh;split<;>omega
theorem kl {a:Int}(b:0<=a/\a<=1000):∀{l:List Mir},(∀m,m∈l->okM m)->0<=UR a l/\UR a l<=100000000*(l.length:Int)
 | [],_=>by simp[UR]
 | m::l,h=>by have d:=(EU b (h m jMj)).2.2;have e:=kl b (l:=l) fun x c=>h x (jmj _ c);simp only[UR,List.length_cons];omega
def rG (a:Int)(s:Int)(m:Mir):Int⊕Int:=.inl (s+yh a m)
theorem XK (a:Int):∀(l:List Mir) (s:Int),Y6 (rG a) (fun s=>s) l s=s+UR a l
 | [],s=>by simp[Y6,UR]
 | m::l,s=>by unfold Y6 rG;simp only;have:=XK a l (s+yh a m);unfold rG at this;rw[this];simp only[UR];omega
theorem Qbc {n:Nat}(a0 a1:jVj)(a2 b:Int)(a4 a5:Bool)(a6 a7 a8:Int)(g c:jVj)(j:0<=b/\b<=1000)(ms:List Mir)(d:∀m,m∈ms->okM m)(h:ms.length<=992)(q:1700<=n):Wq n a0 a1 a2 b a4 a5 a6 a7 a8 g (ms.map QY) c=some (UR b ms):=by
 unfold Wq;have:=ZK (step:=Z0 n a0 a1 a2 b a4 a5 a6 a7 a8 g (ms.map QY) c) (rG b) (fun s=>s) (fun i s=>(((i:Int),s):Int×Int)) ms (fun i s=>0<=s/\s<=100000000*(i:Int))
  (fun i s m a r=>by
   have hi:=(jGj a).1;obtain⟨b1,o,p⟩:=EU j (d m (jgj a));unfold rG;refine⟨?_,?_⟩
   ·unfold Z0;dsimp only;rw[jTj (ZD a),jTj ⟨Int.natCast_nonneg i,ZD a⟩,Q4 unM a,jBj];unfold yh isA;by_cases f:m.2.2.2.2.2=true
    ·rw[jTj f,jTj f,jTj (by unfold Qh;have:=(d m (jgj a)).2;omega),jTj (by unfold Qh;omega),jTj (by unfold Qh;omega),jTj (by unfold Qh;omega),jTj (by unfold Qh;omega)];rfl
    ·rw[jFj f,jFj f,jTj (by unfold Qh;omega),Int.add_zero];rfl
   ·simp only[Int.natCast_add,Int.natCast_one];omega)
  (fun s _=>by unfold Z0;dsimp only;rw[jFj (by simp)]) (s:=0) (by simp) (k:=n) (by omega)
 have e:=this;rw[XK,Int.zero_add] at e;exact(congrArg (fun x:Option Int=>x.bind fun l=>some l) e)
theorem Qci {n:Nat}(a0 b:Int)(a2 a3:Bool)(a4 a5 a6:Int)(a7 f:jVj)(h:0<=b/\b<=1000)(ms:List Mir)(c:∀m,m∈ms->okM m)(g:ms.length<=992)(p:1700<=n):WD n a0 b a2 a3 a4 a5 a6 a7 (ms.map QY) f=some (UR b ms):=by
 unfold WD;have:=ZK (step:=ZF n a0 b a2 a3 a4 a5 a6 a7 (ms.map QY) f) (rG b) (fun s=>s) (fun i s=>(((i:Int),s):Int×Int)) ms (fun i s=>0<=s/\s<=100000000*(i:Int))
  (fun i s m a q=>by
   have hi:=(jGj a).1;obtain⟨b1,l,o⟩:=EU h (c m (jgj a));unfold rG;refine⟨?_,?_⟩
   ·unfold ZF;dsimp only;rw[jTj (ZD a),jTj ⟨Int.natCast_nonneg i,ZD a⟩,Q4 unM a,jBj];unfold yh isA;by_cases d:m.2.2.2.2.2=true
    ·rw[jTj d,jTj d,jTj (by unfold Qh;have:=(c m (jgj a)).2;omega),jTj (by unfold Qh;omega),jTj (by unfold Qh;omega),jTj (by unfold Qh;omega),jTj (by unfold Qh;omega)];rfl
    ·rw[jFj d,jFj d,jTj (by unfold Qh;omega),Int.add_zero];rfl
   ·simp only[Int.natCast_add,Int.natCast_one];omega)
  (fun s _=>by unfold ZF;dsimp only;rw[jFj (by simp)]) (s:=0) (by simp) (k:=n) (by omega)
 have e:=this;rw[XK,Int.zero_add] at e;exact(congrArg (fun x:Option Int=>x.bind fun j=>some j) e)
theorem ww {n:Nat}(a0 a:Int)(a2 a3:Bool)(a4 a5 a6:Int)(a7 f:jVj)(h:0<=a/\a<=1000)(ms:List Mir)(b:∀m,m∈ms->okM m)(g:ms.length<=992)(p:1700<=n):Yr n a0 a a2 a3 a4 a5 a6 a7 (ms.map QY) f=some (UR a ms):=by
 unfold Yr;have:=ZK (step:=Vw n a0 a a2 a3 a4 a5 a6 a7 (ms.map QY) f) (rG a) (fun s=>s) (fun i s=>((s,(i:Int)):Int×Int)) ms (fun i s=>0<=s/\s<=100000000*(i:Int))
  (fun i s m c q=>by
   have hi:=(jGj c).1;obtain⟨b1,l,o⟩:=EU h (b m (jgj c));unfold rG;refine⟨?_,?_⟩
   ·unfold Vw;dsimp only;rw[jTj (ZD c),Xr unM c,jBj];unfold yh isA;by_cases d:m.2.2.2.2.2=true
    ·rw[jTj d,jTj d,jTj (by unfold Qh;have:=(b m (jgj c)).2;omega),jTj (by unfold Qh;omega),jTj (by unfold Qh;omega),jTj (by unfold Qh;omega),jTj (by unfold Qh;omega)];rfl
    ·rw[jFj d,jFj d,jTj (by unfold Qh;omega),Int.add_zero];rfl
   ·simp only[Int.natCast_add,Int.natCast_one];omega)
  (fun s _=>by unfold Vw;dsimp only;rw[jFj (by simp)]) (s:=0) (by simp) (k:=n) (by omega)
 have e:=this;rw[XK,Int.zero_add] at e;exact(congrArg (fun x:Option Int=>x.bind fun j=>some j) e)
def ZL (r:Reg)(t:Int):Int:=wz r*(t - r.tick)
def okT (r:Reg)(t:Int):Prop:=r.tick<=t/\t<=999999999
def Zk (r:Reg)(t:Int):Int:=if r.light+ZL r t<=1000000000000000/\r.heat+ZL r t<=1000000000000000 then 0 else 4
theorem K4 {c:Nat}{r:Reg}(d:Inv c r)(hc:c<=992){t:Int}(f:okT r t):(0<=wz r/\wz r<=4000000000)/\(0<=ZL r t/\ZL r t<=4000000000000000000):=by
 obtain⟨i,j⟩:=f;have h:=d.tick;have l:=d.lenM;have a:0<=wz r/\wz r<=100000000*(r.mirrors.length:Int):=kl d.level d.mirs;have e : 0<=wz r/\wz r<=4000000000:=by omega
 have b:=wF (g:=wz r) (c:=t - r.tick) (p:=4000000000) (q:=1000000000) e (by omega);refine⟨e,?_⟩;unfold ZL;omega
theorem Z7 {n c:Nat}{evs cnt:jVj}{r:Reg}(a:Inv c r)(hc:c<=992)(d:1700<=n){t:Int}(b:okT r t):Q8 n t evs cnt r.tick r.level r.filled r.tripped r.light r.heat r.money (r.sectors.map Sd) (r.mirrors.map QY) (r.offers.map Zj)=some (r.light+ZL r t,r.heat+ZL r t):=by obtain⟨b1,f⟩:=K4 a hc b;obtain⟨g,h⟩:=b;have i:=a.tick;have j:=a.light;have l:=a.heat;unfold Q8;rw[Qbc _ _ _ _ _ _ _ _ _ _ _ a.level _ a.mirs (by have:=a.lenM;omega) d,jBj,jTj (by unfold Qh;omega)];have e:UR r.level r.mirrors*(t - r.tick)=ZL r t:=rfl;simp only[e];rw[jTj (by unfold Qh;omega),jTj (by unfold Qh;omega),jTj (by unfold Qh;omega)]
theorem Wc {n c:Nat}{r:Reg}(a:Inv c r)(hc:c<=992)(d:1700<=n){t:Int}(b:okT r t):Wh n t r.tick r.level r.filled r.tripped r.light r.heat r.money (r.sectors.map Sd) (r.mirrors.map QY) (r.offers.map Zj)=some (r.light+ZL r t,r.heat+ZL r t):=by obtain⟨b1,f⟩:=K4 a hc b;obtain⟨g,h⟩:=b;have i:=a.tick;have j:=a.light;have l:=a.heat;unfold Wh;rw[Qci _ _ _ _ _ _ _ _ _ a.level _ a.mirs (by have:=a.lenM;omega) d,jBj,jTj (by unfold Qh;omega)];have e:UR r.level r.mirrors*(t - r.tick)=ZL r t:=rfl;simp only[e];rw[jTj (by unfold Qh;omega),jTj (by unfold Qh;omega),jTj (by unfold Qh;omega)]
theorem minB (a b m:Int):(!((a==min a m)&&((b==min b m)&&true)))=decide (¬(a<=m/\b<=m)):=by rw[Bool.eq_iff_iff];simp only[Bool.not_eq_true',Bool.and_true,Bool.and_eq_false_iff,beq_eq_false_iff_ne,ne_eq,decide_eq_true_eq];omega
theorem Za {n c:Nat}{evs cnt:jVj}{r:Reg}(d:Inv c r)(hc:c<=992)(b:1700<=n){t:Int}(e:okT r t):Qp n t evs cnt r.tick r.level r.filled r.tripped r.light r.heat r.money (r.sectors.map Sd) (r.mirrors.map QY) (r.offers.map Zj)=some (Zk r t):=by
 unfold Qp;rw[Z7 d hc b e,jBj];dsimp only;rw[Zd,jBj,Qbi,Qbi,minB];unfold QF Zk;by_cases a:r.light+ZL r t<=1000000000000000/\r.heat+ZL r t<=1000000000000000
 ·rw[jTj a];simp[a]
 ·rw[jFj a,jTj (jDj a)]
theorem Zs {n c:Nat}{r:Reg}(a:Inv c r)(hc:c<=992)(g:1700<=n){t:Int}(f:okT r t):Vp n r.tick r.level r.filled r.tripped r.light r.heat r.money (r.sectors.map Sd) (r.mirrors.map QY) (r.offers.map Zj) t=some (if Zk r t=0 then(r.light+ZL r t,r.heat+ZL r t,0) else(0,0,4)):=by
 obtain⟨b1,h⟩:=K4 a hc f;obtain⟨i,j⟩:=f;have l:=a.tick;have m:=a.light;have o:=a.heat;unfold Vp;rw[ww _ _ _ _ _ _ _ _ _ a.level _ a.mirs (by have:=a.lenM;omega) g,jBj,jTj (by unfold Qh;omega)];have e:UR r.level r.mirrors*(t - r.tick)=ZL r t:=rfl;simp only[e];rw[jTj (by unfold Qh;omega),jTj (by unfold Qh;omega)];unfold Zk;by_cases b:ZL r t>1000000000000000 - r.light
 ·rw[jTj b,jFj (by omega:¬(r.light+ZL r t<=1000000000000000/\r.heat+ZL r t<=1000000000000000)),jFj (by decide)]
 ·rw[jFj b,jTj (by unfold Qh;omega)];by_cases d:ZL r t>1000000000000000 - r.heat
  ·rw[jTj d,jFj (by omega:¬(r.light+ZL r t<=1000000000000000/\r.heat+ZL r t<=1000000000000000)),jFj (by decide)]
  ·rw[jFj d,jTj (by unfold Qh;omega),jTj (by unfold Qh;omega),jTj (by omega:r.light+ZL r t<=1000000000000000/\r.heat+ZL r t<=1000000000000000),jTj rfl]
theorem UV {α E:Type}{step:Int×jVj->Option (Int×jVj⊕E)}(b:jVj->E)(l:List α)(f:α->jVj)(d:∀x,(f x).length<=1)
  (a:∀(i:Nat) (out:jVj) (x:α),l[i]?=some x->out.length<=i->step ((i:Int),out)=some (.inl (((i+1:Nat):Int),out++f x)))
  (c:∀out:jVj,out.length<=l.length->step ((l.length:Int),out)=some (.inr (b out))) {k:Nat} (g:l.length<k):Q2 step k (0,[])=some (b (l.flatMap f)):=by
 have:=ZK (step:=step) (E:=E) (fun(s:jVj) (x:α)=>.inl (s++f x)) b (fun i s=>((i:Int),s)) l (fun i s=>s.length<=i)
  (fun i s x j hi=>⟨a i s x j hi,by rw[jaj];have:=d x;omega⟩)
  (fun s h=>c s h) (k:=k) (s:=[]) (Nat.zero_le _) g
 have e:∀(l:List α) (s:jVj),Y6 (E:=E) (fun(s:jVj) (x:α)=>.inl (s++f x)) b l s=b (s++l.flatMap f):=by
  intro l;induction l with
  | nil=>intro s;simp[Y6]
  | cons x l ih =>
   intro s;show Y6 (E:=E) (fun(s:jVj) (x:α)=>.inl (s++f x)) b l (s++f x)=_;rw[ih,List.flatMap_cons,List.append_assoc]
 rw[e,List.nil_append] at this;exact this
theorem wW {α a:Type}(f:α->a)(l:List α):l.flatMap (fun x=>[f x])=l.map f:=by
 induction l with
 | nil=>rfl
 | cons x l ih=>rw[List.flatMap_cons,ih];rfl
theorem V7 {b n:Nat}(a:b<=200)(h:n<=5000):Wa b n:=by have c:n*b<=5000*200:=Nat.mul_le_mul h a;show n*b<=140737488355328;omega
def pos:List jSj->jSj->Option Nat
 | [],_=>none
 | x::l,s=>if x=s then some 0 else(pos l s).map (·+1)
def YJ (l:List jSj)(s:jSj):Int:=match pos l s with
 | some i=>(i:Int)
 | none=>-1
theorem wB:∀{l:List jSj} {s:jSj} {i:Nat},pos l s=some i->i<l.length/\l[i]?=some s
 | [],s,i,h=>by cases h
 | x::l,s,i,h=>by
  unfold pos at h;split at h
  ·rename_i e;cases h;subst e;exact⟨by simp,rfl⟩
  ·obtain⟨j,b,rfl⟩:=Option.map_eq_some_iff.1 h;obtain⟨c,a⟩:=wB b;exact⟨by simp;omega,by simpa using a⟩
theorem pos_mem:∀{l:List jSj} {s:jSj},(pos l s).isSome=true↔s∈l
 | [],s=>by simp[pos]
 | x::l,s=>by
  unfold pos;by_cases h:x=s
  ·rw[jTj h];simp[h]
  ·rw[jFj h,Option.isSome_map,pos_mem];simp only[List.mem_cons];constructor
   ·exact .inr
   ·rintro(e|e)
    ·exact absurd e.symm h
    ·exact e
theorem wC {l:List jSj}{s:jSj}:YJ l s<0↔¬s∈l:=by
 rw[<-pos_mem];unfold YJ;cases pos l s with
 | none=>simp
 | some i=>simp
theorem posI_nn {l:List jSj}{s:jSj}:YJ l s>=0↔s∈l:=by
 have:=wC (l:=l) (s:=s);by_cases h:s∈l
 ·have:¬YJ l s<0:=fun b=>(this.1 b) h;constructor
  ·exact fun _=>h
  ·intro _;omega
 ·have c:=this.2 h;constructor
  ·intro a;omega
  ·intro a;exact absurd a h
def pG {α:Type}(f:α->jSj)(a:jSj)(s:Nat)(x:α):Nat⊕(Int⊕Unit):=if f x=a then .inr (.inl (s:Int)) else .inl (s+1)
theorem Xd {α:Type}(f:α->jSj)(a:jSj):∀(l:List α) (s:Nat),Y6 (pG f a) (fun _=>.inr ()) l s=(match pos (l.map f) a with
 | some i=>.inl ((s+i:Nat):Int)
 | none=>.inr ())
 | [],s=>rfl
 | x::l,s=>by
  unfold Y6 pG;rw[jCj];unfold pos;by_cases h:f x=a
  ·rw[jTj h,jTj h];rfl
  ·rw[jFj h,jFj h];have:=Xd f a l (s+1);unfold pG at this;simp only;rw[this];cases pos (l.map f) a with
   | none=>rfl
   | some i=>simp only[Option.map_some];congr 2;omega
theorem Qdx {n:Nat}(l:List jSj)(s:jSj)(d:l.length<=5000)(b:l.length<n):Q2 (Wj n (l.map Sd) s) n 0=some (match pos (l.map (fun x=>x)) s with
  | some i=>.inl (i:Int)
  | none=>.inr ()):=by
 have:=ZK (step:=Wj n (l.map Sd) s) (pG (fun x=>x) s) (fun _=>.inr ()) (fun i (_:Nat)=>(i:Int)) l (fun i t=>t=i)
  (fun i t x a c=>by
   have hi:=(jGj a).1;subst c;unfold pG Wj;by_cases h:(fun x=>x) x=s
   ·rw[jTj h];dsimp only;rw[jTj (ZD a),jH a,jBj,jTj (by rw[XZ];exact jDj h.symm)]
   ·rw[jFj h];refine⟨?_,rfl⟩;rw[jTj (ZD a),jH a,jBj,jFj (by rw[XZ];exact fun e=>h ((of_decide_eq_true e).symm)),jTj (by unfold Qh;omega)];rfl)
  (fun t _=>by unfold Wj;rw[jFj (by simp)]) (s:=0) rfl b
 rw[show(0:Int)=((0:Nat):Int) from rfl,this,Xd];cases pos (l.map (fun x=>x)) s with
 | none=>rfl
 | some i=>simp only[Nat.zero_add]
theorem Wb {n:Nat}(l:List jSj)(s:jSj)(a:l.length<=5000)(b:l.length<n):QE n (l.map Sd) s=some (YJ l s):=by unfold QE YJ;rw[Qdx l s a b,jBj,List.map_id'];cases pos l s<;>rfl
def Zu (l:List jSj)(s:jSj):Bool:=(pos l s).isSome
theorem W4 {n:Nat}(l:List jSj)(s:jSj)(a:l.length<=5000)(b:l.length<n):Zb n (l.map Sd) s=some (Zu l s):=by
 unfold Zb;rw[Wb l s a b,jBj];congr 1
 rw[Bool.eq_iff_iff,decide_eq_true_eq,posI_nn];exact pos_mem.symm
theorem atL1 {n:Nat}{a0 a1:Int}{a2 a3:Bool}{a4 a5 a6:Int}{a8 b:jVj}(l:List jSj)(s:jSj)(f:l.length<=5000)(c:l.length<n):Q2 (VI n a0 a1 a2 a3 a4 a5 a6 (l.map Sd) a8 b s) n 0=some (match pos (l.map (fun x=>x)) s with
  | some i=>.inl (i:Int)
  | none=>.inr ()):=by
 have:=ZK (step:=VI n a0 a1 a2 a3 a4 a5 a6 (l.map Sd) a8 b s) (pG (fun x=>x) s) (fun _=>.inr ()) (fun i (_:Nat)=>(i:Int)) l (fun i t=>t=i)
  (fun i t x a d=>by
   have hi:=(jGj a).1;subst d;unfold pG VI;by_cases h:(fun x=>x) x=s
   ·rw[jTj h];dsimp only;rw[jTj (ZD a),jH a,jBj,jTj (by rw[XZ];exact jDj h)]
   ·rw[jFj h];refine⟨?_,rfl⟩;rw[jTj (ZD a),jH a,jBj,jFj (by rw[XZ];exact fun e=>h (of_decide_eq_true e)),jTj (by unfold Qh;omega)];rfl)
  (fun t _=>by unfold VI;rw[jFj (by simp)]) (s:=0) rfl c
 rw[show(0:Int)=((0:Nat):Int) from rfl,this,Xd];cases pos (l.map (fun x=>x)) s with
 | none=>rfl
 | some i=>simp only[Nat.zero_add]
theorem atL2 {n:Nat}{a0 a1:Int}{a2 a3:Bool}{a4 a5 a6:Int}{a7 b:jVj}(l:List Mir)(s:jSj)(f:l.length<=5000)(c:l.length<n):Q2 (VH n a0 a1 a2 a3 a4 a5 a6 a7 (l.map QY) b s) n 0=some (match pos (l.map (fun x=>x.1)) s with
  | some i=>.inl (i:Int)
  | none=>.inr ()):=by
 have:=ZK (step:=VH n a0 a1 a2 a3 a4 a5 a6 a7 (l.map QY) b s) (pG (fun x=>x.1) s) (fun _=>.inr ()) (fun i (_:Nat)=>(i:Int)) l (fun i t=>t=i)
  (fun i t x a d=>by
   have hi:=(jGj a).1;subst d;unfold pG VH;by_cases h:(fun x=>x.1) x=s
   ·rw[jTj h];dsimp only;rw[jTj (ZD a),Xr unM a,jBj,jTj (by rw[XZ];exact jDj h)]
   ·rw[jFj h];refine⟨?_,rfl⟩;rw[jTj (ZD a),Xr unM a,jBj,jFj (by rw[XZ];exact fun e=>h (of_decide_eq_true e)),jTj (by unfold Qh;omega)];rfl)
  (fun t _=>by unfold VH;rw[jFj (by simp)]) (s:=0) rfl c
 rw[show(0:Int)=((0:Nat):Int) from rfl,this,Xd];cases pos (l.map (fun x=>x.1)) s with
 | none=>rfl
 | some i=>simp only[Nat.zero_add]
theorem atL3 {n:Nat}{a0 a1:Int}{a2 a3:Bool}{a4 a5 a6:Int}{a7 a8:jVj}(l:List Off)(s:jSj)(d:l.length<=5000)(b:l.length<n):Q2 (VG n a0 a1 a2 a3 a4 a5 a6 a7 a8 (l.map Zj) s) n 0=some (match pos (l.map (fun x=>x.1)) s with
  | some i=>.inl (i:Int)
  | none=>.inr ()):=by
 have:=ZK (step:=VG n a0 a1 a2 a3 a4 a5 a6 a7 a8 (l.map Zj) s) (pG (fun x=>x.1) s) (fun _=>.inr ()) (fun i (_:Nat)=>(i:Int)) l (fun i t=>t=i)
  (fun i t x a c=>by
   have hi:=(jGj a).1;subst c;unfold pG VG;by_cases h:(fun x=>x.1) x=s
   ·rw[jTj h];dsimp only;rw[jTj (ZD a),Xr unO a,jBj,jTj (by rw[XZ];exact jDj h)]
   ·rw[jFj h];refine⟨?_,rfl⟩;rw[jTj (ZD a),Xr unO a,jBj,jFj (by rw[XZ];exact fun e=>h (of_decide_eq_true e)),jTj (by unfold Qh;omega)];rfl)
  (fun t _=>by unfold VG;rw[jFj (by simp)]) (s:=0) rfl b
 rw[show(0:Int)=((0:Nat):Int) from rfl,this,Xd];cases pos (l.map (fun x=>x.1)) s with
 | none=>rfl
 | some i=>simp only[Nat.zero_add]
def nmM (l:List Mir):List jSj:=l.map fun x=>x.1
def nmO (l:List Off):List jSj:=l.map fun x=>x.1
theorem Zo (l:List Mir):(nmM l).length=l.length:=by unfold nmM;simp
theorem Vq (l:List Off):(nmO l).length=l.length:=by unfold nmO;simp
theorem at_s {n:Nat}{a0 a1:Int}{a2 a3:Bool}{a4 a5 a6:Int}{a8 a:jVj}(l:List jSj)(s:jSj)(b:l.length<=5000)(c:l.length<n):WW n a0 a1 a2 a3 a4 a5 a6 (l.map Sd) a8 a 115 s=some (YJ l s):=by unfold WW YJ;rw[jTj rfl,atL1 l s b c,jBj,List.map_id'];cases pos l s<;>rfl
theorem yT {n:Nat}{a0 a1:Int}{a2 a3:Bool}{a4 a5 a6:Int}{a7 a:jVj}(l:List Mir)(s:jSj)(b:l.length<=5000)(c:l.length<n):WW n a0 a1 a2 a3 a4 a5 a6 a7 (l.map QY) a 109 s=some (YJ (nmM l) s):=by unfold WW YJ nmM;rw[jFj (by decide),jTj rfl,atL2 l s b c,jBj];cases pos (l.map fun x=>x.1) s<;>rfl
theorem at_o {n:Nat}{a0 a1:Int}{a2 a3:Bool}{a4 a5 a6:Int}{a7 a8:jVj}(l:List Off)(s:jSj)(a:l.length<=5000)(b:l.length<n):WW n a0 a1 a2 a3 a4 a5 a6 a7 a8 (l.map Zj) 111 s=some (YJ (nmO l) s):=by unfold WW YJ nmO;rw[jFj (by decide),jFj (by decide),jTj rfl,atL3 l s a b,jBj];cases pos (l.map fun x=>x.1) s<;>rfl
theorem UC {n:Nat}{a1 a2:jVj}{a3 a4:Int}{a5 a6:Bool}{a7 a8 d:Int}{a b:jVj}(l:List Mir)(f:l.length<=4000)(e:l.length<n):Qw n 109 a1 a2 a3 a4 a5 a6 a7 a8 d a (l.map QY) b=some ((nmM l).map Sd):=by
 unfold Qw;have:=UV (step:=ZP n a1 a2 a3 a4 a5 a6 a7 a8 d a (l.map QY) b) (E:=jVj) (fun out=>out) l (fun x=>[Sd x.1]) (fun _=>jLj _)
  (fun i out x c g=>by have hi:=(jGj c).1;unfold ZP ZN;dsimp only;rw[jTj (ZD c),jTj ⟨Int.natCast_nonneg i,ZD c⟩,Q4 unM c,jBj,jBj,jTj (V7 (by decide) (by omega)),jTj (by unfold Qh;omega)];rfl)
  (fun out _=>by unfold ZP;dsimp only;rw[jFj (by simp)]) e
 rw[jFj (by decide),jTj rfl,this,jBj,wW];unfold nmM;rw[List.map_map];rfl
theorem EC {n:Nat}{a1 a2:jVj}{a3 a4:Int}{a5 a6:Bool}{a7 a8 d:Int}{a b:jVj}(l:List Off)(f:l.length<=4000)(e:l.length<n):Qw n 111 a1 a2 a3 a4 a5 a6 a7 a8 d a b (l.map Zj)=some ((nmO l).map Sd):=by
 unfold Qw;have:=UV (step:=ZO n a1 a2 a3 a4 a5 a6 a7 a8 d a b (l.map Zj)) (E:=jVj) (fun out=>out) l (fun x=>[Sd x.1]) (fun _=>jLj _)
  (fun i out x c g=>by have hi:=(jGj c).1;unfold ZO ZM;dsimp only;rw[jTj (ZD c),jTj ⟨Int.natCast_nonneg i,ZD c⟩,Q4 unO c,jBj,jBj,jTj (V7 (by decide) (by omega)),jTj (by unfold Qh;omega)];rfl)
  (fun out _=>by unfold ZO;dsimp only;rw[jFj (by simp)]) e
 rw[jFj (by decide),jFj (by decide),this,jBj,wW];unfold nmO;rw[List.map_map];rfl
theorem XN {n:Nat}{a1 a2:Int}{a3 a4:Bool}{a5 a6 a7:Int}{a8 a:jVj}(l:List Mir)(d:l.length<=4000)(c:l.length<n):QQ n 109 a1 a2 a3 a4 a5 a6 a7 a8 (l.map QY) a=some ((nmM l).map Sd):=by
 unfold QQ;have:=UV (step:=ZA n a1 a2 a3 a4 a5 a6 a7 a8 (l.map QY) a) (E:=jVj) (fun out=>out) l (fun x=>[Sd x.1]) (fun _=>jLj _)
  (fun i out x b e=>by have hi:=(jGj b).1;unfold ZA ZN;dsimp only;rw[jTj (ZD b),jTj ⟨Int.natCast_nonneg i,ZD b⟩,Q4 unM b,jBj,jBj,jTj (V7 (by decide) (by omega)),jTj (by unfold Qh;omega)];rfl)
  (fun out _=>by unfold ZA;dsimp only;rw[jFj (by simp)]) c
 rw[jFj (by decide),jTj rfl,this,jBj,wW];unfold nmM;rw[List.map_map];rfl
theorem Qbh {n:Nat}{a1 a2:Int}{a3 a4:Bool}{a5 a6 a7:Int}{a8 b:jVj}(l:List Off)(d:l.length<=4000)(c:l.length<n):QQ n 111 a1 a2 a3 a4 a5 a6 a7 a8 b (l.map Zj)=some ((nmO l).map Sd):=by
 unfold QQ;have:=UV (step:=Zz n a1 a2 a3 a4 a5 a6 a7 a8 b (l.map Zj)) (E:=jVj) (fun out=>out) l (fun x=>[Sd x.1]) (fun _=>jLj _)
  (fun i out x a e=>by have hi:=(jGj a).1;unfold Zz ZM;dsimp only;rw[jTj (ZD a),jTj ⟨Int.natCast_nonneg i,ZD a⟩,Q4 unO a,jBj,jBj,jTj (V7 (by decide) (by omega)),jTj (by unfold Qh;omega)];rfl)
  (fun out _=>by unfold Zz;dsimp only;rw[jFj (by simp)]) c
 rw[jFj (by decide),jFj (by decide),this,jBj,wW];unfold nmO;rw[List.map_map];rfl
theorem WH {s:List Mir}{i:Nat}{y:Mir}:List.set (s.map QY) i (QY y)=(s.set i y).map QY:=by rw[List.map_set]
theorem wv {s:List Mir}{i:Nat}{x:Mir}(h:s[i]?=some x):s.set i x=s:=by obtain⟨b,a⟩:=jGj h;rw[<-a,List.set_getElem_self]
theorem KC {step:Int×jVj->Option (Int×jVj⊕jVj)}(f:Mir->Mir)(ms:List Mir)
  (a:∀(i:Nat) (s:List Mir) (x:Mir),s.length=ms.length->s[i]?=some x->step ((i:Int),s.map QY)=some (.inl (((i+1:Nat):Int),(s.set i (f x)).map QY)))
  (b:∀s:List Mir,s.length=ms.length->step ((ms.length:Int),s.map QY)=some (.inr (s.map QY))) {k:Nat} (g:ms.length<k) :
  Q2 step k (0,ms.map QY)=some ((ms.map f).map QY):=by
 have h:∀(m i:Nat) (k:Nat),i+m=ms.length->m<k->Q2 step k ((i:Int),((ms.take i).map f++ms.drop i).map QY)=some ((ms.map f).map QY):=by
  intro m;induction m with
  | zero =>
   intro i k hi g;obtain⟨k,rfl⟩:∃j,k=j+1:=⟨k - 1,by omega⟩
   have e:i=ms.length:=by omega
   subst e;rw[List.take_length,List.drop_length,List.append_nil,JB (b _ (by simp))]
  | succ m ih =>
   intro i k hi g;obtain⟨k,rfl⟩:∃j,k=j+1:=⟨k - 1,by omega⟩
   have d:i<ms.length:=by omega
   have c:((ms.take i).map f++ms.drop i).length=ms.length:=by simp;omega
   have n:((ms.take i).map f++ms.drop i)[i]?=some ms[i]:=by rw[List.getElem?_append_right (by simp;omega)];simp;rw[jej (by omega)];congr 2;omega
   rw[E3 (a i _ _ c n)];have e:((ms.take i).map f++ms.drop i).set i (f ms[i])=(ms.take (i+1)).map f++ms.drop (i+1):=by
    rw[List.set_append_right _ _ (by simp;omega)];have l:((ms.take i).map f).length=i:=by simp;omega
    rw[l,Nat.sub_self,List.drop_eq_getElem_cons d,List.set_cons_zero,List.take_succ_eq_append_getElem d,List.map_append];simp
   rw[e];exact ih (i+1) k (by omega) (by omega)
 have:=h ms.length 0 k (by omega) g;simpa using this
def Ka (m:Mir):Mir:=(m.1,m.2.1,m.2.2.1,m.2.2.2.1,m.2.2.2.2.1,false)
def EN (s:jSj)(m:Mir):Mir:=if m.2.1=s then Ka m else m
theorem QdO {n:Nat}{a0:Int}{a1 s:jSj}{a3:jVj}{a4:jSj}{a5 a6:Int}{a7 a8:Bool}{g a b:Int}{c d:jVj}(ms:List Mir)(m:ms.length<=5000)(j:ms.length<n):WR n a0 a1 [Sd s] a3 a4 a5 a6 a7 a8 g a b c (ms.map QY) d=some ((ms.map (EN s)).map QY):=by
 unfold WR;have:=KC (step:=Z1 n a0 a1 [Sd s] a3 a4 a5 a6 a7 a8 g a b c (ms.map QY) d) (EN s) ms
  (fun i u x l f=>by
   have hi:=(jGj f).1;unfold Z1 WC;dsimp only;rw[jTj (by simp;omega),jTj ⟨Int.natCast_nonneg i,ZD f⟩,Q4 unM f,jBj];rw[show el Ww [Sd s] 0=some s from rfl,jBj,jBj];unfold EN;by_cases h:x.2.1=s
   ·rw[jTj (by rw[XZ];exact jDj h),jTj (by unfold Qh;omega),jTj h,<-WH,jtj];rfl
   ·rw[jFj (by rw[XZ];exact fun e=>h (of_decide_eq_true e)),jTj (by unfold Qh;omega),jFj h,wv f];rfl)
  (fun u l=>by unfold Z1;dsimp only;rw[jFj (by simp)]) j
 rw[this];rfl
theorem Qdr {n:Nat}{a0:Int}{a1 s:jSj}{a3:jVj}{a4:jSj}{a5 a6:jVj}{a7 a8:Int}{l a:Bool}{b c d:Int}{f g:jVj}(ms:List Mir)(p:ms.length<=5000)(m:ms.length<n):WF n a0 a1 [Sd s] a3 a4 a5 a6 a7 a8 l a b c d f (ms.map QY) g=some ((ms.map (EN s)).map QY):=by
 unfold WF;have:=KC (step:=ZH n a0 a1 [Sd s] a3 a4 a5 a6 a7 a8 l a b c d f (ms.map QY) g) (EN s) ms
  (fun i u x o j=>by
   have hi:=(jGj j).1;unfold ZH WC;dsimp only;rw[jTj (by simp;omega),jTj ⟨Int.natCast_nonneg i,ZD j⟩,Q4 unM j,jBj];rw[show el Ww [Sd s] 0=some s from rfl,jBj,jBj];unfold EN;by_cases h:x.2.1=s
   ·rw[jTj (by rw[XZ];exact jDj h),jTj (by unfold Qh;omega),jTj h,<-WH,jtj];rfl
   ·rw[jFj (by rw[XZ];exact fun e=>h (of_decide_eq_true e)),jTj (by unfold Qh;omega),jFj h,wv j];rfl)
  (fun u o=>by unfold ZH;dsimp only;rw[jFj (by simp)]) m
 rw[this];rfl
theorem QdN {n:Nat}{a0 a1:Int}{a2 a3:Bool}{a4 a5 a6:Int}{a7 b:jVj}(ms:List Mir)(e:ms.length<=5000)(c:ms.length<n):WG n a0 a1 a2 a3 a4 a5 a6 a7 (ms.map QY) b=some ((ms.map Ka).map QY):=by
 unfold WG;have:=KC (step:=ZI n a0 a1 a2 a3 a4 a5 a6 a7 (ms.map QY) b) Ka ms
  (fun i u x d a=>by have hi:=(jGj a).1;unfold ZI WB;dsimp only;rw[jTj (by simp;omega),jTj ⟨Int.natCast_nonneg i,ZD a⟩,Q4 unM a,jBj];rw[jBj,jTj rfl,jTj (by unfold Qh;omega),<-WH,jtj];rfl)
  (fun u d=>by unfold ZI;dsimp only;rw[jFj (by simp)]) c
 rw[this];rfl
theorem Qdq {n:Nat}{a0 a1:jVj}{a2 a3:Int}{a4 a5:Bool}{a6 a7 a8:Int}{c a:jVj}(ms:List Mir)(f:ms.length<=5000)(d:ms.length<n):WE n a0 a1 a2 a3 a4 a5 a6 a7 a8 c (ms.map QY) a=some ((ms.map Ka).map QY):=by
 unfold WE;have:=KC (step:=ZG n a0 a1 a2 a3 a4 a5 a6 a7 a8 c (ms.map QY) a) Ka ms
  (fun i u x e b=>by have hi:=(jGj b).1;unfold ZG WB;dsimp only;rw[jTj (by simp;omega),jTj ⟨Int.natCast_nonneg i,ZD b⟩,Q4 unM b,jBj];rw[jBj,jTj rfl,jTj (by unfold Qh;omega),<-WH,jtj];rfl)
  (fun u e=>by unfold ZG;dsimp only;rw[jFj (by simp)]) d
 rw[this];rfl
theorem Qcg {n:Nat}{a0 a1:Int}{a2 a3:Bool}{a4 a5 a6:Int}{a7 a8 g:jVj}{a:Int}{b:jSj}{c d:jVj}{e:jSj}{j:Int}{l:Int×Int×Int}(ms:List Mir)(o:ms.length<=5000)(m:ms.length<n):Q2 (WU n a0 a1 a2 a3 a4 a5 a6 a7 a8 g a b c d e j l) n (0,ms.map QY)=some ((ms.map Ka).map QY):=by
 exact KC (step:=WU n a0 a1 a2 a3 a4 a5 a6 a7 a8 g a b c d e j l) Ka ms
  (fun i u x h f=>by have hi:=(jGj f).1;unfold WU;dsimp only;rw[jTj (by simp;omega),jTj ⟨Int.natCast_nonneg i,ZD f⟩,Q4 unM f,jBj];rw[jTj (by unfold Qh;omega),<-WH,jtj];rfl)
  (fun u h=>by unfold WU;dsimp only;rw[jFj (by simp[h])]) m
theorem Qch {n:Nat}{a0 a1:Int}{a2 a3:Bool}{a4 a5 a6:Int}{a7 a8 j:jVj}{a:Int}{b:jSj}{c d:jVj}{f:jSj}{m:Int}{o:Int×Int×Int}{s:jSj}(ms:List Mir)(q:ms.length<=5000)(p:ms.length<n):Q2 (WT n a0 a1 a2 a3 a4 a5 a6 a7 a8 j a b c d f m o s) n (0,ms.map QY)=some ((ms.map (EN s)).map QY):=by
 exact KC (step:=WT n a0 a1 a2 a3 a4 a5 a6 a7 a8 j a b c d f m o s) (EN s) ms
  (fun i u x l g=>by
   have hi:=(jGj g).1;unfold WT;dsimp only;rw[jTj (by simp;omega),jTj ⟨Int.natCast_nonneg i,ZD g⟩,Q4 unM g,jBj];unfold EN;by_cases h:x.2.1=s
   ·rw[jTj (by rw[XZ];exact jDj h),jTj (by unfold Qh;omega),jTj h,<-WH,jtj];rfl
   ·rw[jFj (by rw[XZ];exact fun e=>h (of_decide_eq_true e)),jTj (by unfold Qh;omega),jFj h,wv g];rfl)
  (fun u l=>by unfold WT;dsimp only;rw[jFj (by simp[l])]) p
def aG (_:Unit)(m:Mir):Unit⊕(Unit⊕Unit):=if isA m=true then .inr (.inl ()) else .inl ()
theorem ur:∀(l:List Mir),Y6 aG (fun _=>.inr ()) l ()=if l.any isA=true then .inl () else .inr ()
 | []=>rfl
 | x::l=>by
  unfold Y6 aG;by_cases h:isA x=true
  ·rw[jTj h];simp[h]
  ·rw[jFj h];simp only[List.any_cons,h,Bool.false_or];exact ur l
theorem QdF {n:Nat}{a0 a1:jVj}{a2 a3:Int}{a4 a5:Bool}{a6 a7 a8:Int}{d c:jVj}(ms:List Mir)(f:ms.length<=5000)(e:ms.length<n):W6 n a0 a1 a2 a3 a4 a5 a6 a7 a8 d (ms.map QY) c=some (ms.any isA):=by
 unfold W6;have:=ZK (step:=Z9 n a0 a1 a2 a3 a4 a5 a6 a7 a8 d (ms.map QY) c) aG (fun _=>.inr ()) (fun i _=>(i:Int)) ms (fun _ _=>True)
  (fun i _ m b _=>by
   have hi:=(jGj b).1;unfold aG Z9;by_cases a:isA m=true
   ·rw[jTj a];dsimp only;rw[jTj (ZD b),jTj ⟨Int.natCast_nonneg i,ZD b⟩,Q4 unM b,jBj];unfold isA at a;rw[jTj a,jFj (by rw[a];simp)]
   ·rw[jFj a];refine⟨?_,trivial⟩;rw[jTj (ZD b),jTj ⟨Int.natCast_nonneg i,ZD b⟩,Q4 unM b,jBj];unfold isA at a;rw[jFj a,jTj (by unfold Qh;omega)];rfl)
  (fun s _=>by unfold Z9;rw[jFj (by simp)]) (s:=()) trivial e
 rw[show(0:Int)=((0:Nat):Int) from rfl,this,ur];by_cases h:ms.any isA=true
 ·rw[jTj h,h];rfl
 ·rw[jFj h];simp only[Bool.not_eq_true] at h;rw[h];rfl
def YQ (ms:List Mir):List jSj:=(ms.filter isA).map fun x=>x.1
theorem Qdm:∀(ms:List Mir),(ms.flatMap fun x=>if isA x=true then[Sd x.1] else[])=(YQ ms).map Sd
 | []=>rfl
 | x::l=>by
  rw[List.flatMap_cons,Qdm l];unfold YQ;by_cases h:isA x=true
  ·rw[jTj h,List.filter_cons_of_pos h];rfl
  ·rw[jFj h,List.filter_cons_of_neg h];rfl
theorem zy {n:Nat}{a0 a1:Int}{a2 a3:Bool}{a4 a5 a6:Int}{a7 b:jVj}(ms:List Mir)(d:ms.length<=4000)(c:ms.length<n):V4 n a0 a1 a2 a3 a4 a5 a6 a7 (ms.map QY) b=some ((YQ ms).map Sd):=by
 unfold V4;have:=UV (step:=Vg n a0 a1 a2 a3 a4 a5 a6 a7 (ms.map QY) b) (E:=jVj) (fun out=>out) ms (fun x=>if isA x=true then[Sd x.1] else[]) (fun x=>by split<;>simp)
  (fun i out x a e=>by
   have hi:=(jGj a).1;unfold Vg;dsimp only;rw[jTj (ZD a),Xr unM a,jBj];unfold isA;by_cases h:x.2.2.2.2.2=true
   ·rw[jTj h,jTj h,jTj (V7 (by decide) (by omega)),jTj (by unfold Qh;omega)];rfl
   ·rw[jFj h,jFj h,jTj (by unfold Qh;omega),List.append_nil];rfl)
  (fun out _=>by unfold Vg;dsimp only;rw[jFj (by simp)]) c
 rw[this,Qdm];rfl
def Ws (o:Off):Int:=o.2.2.2.1 - o.2.2.2.2.2.1
def U5 (o:Off):Int:=o.2.2.2.2.1*o.2.2.2.2.2.1 - 2*o.2.2.2.2.1*Ws o
theorem YF {o:Off}(h:okO o):(0<=Ws o/\Ws o<=1000)/\(0<=o.2.2.2.2.1*o.2.2.2.2.2.1/\o.2.2.2.2.1*o.2.2.2.2.2.1<=1000000)/\(0<=2*o.2.2.2.2.1*Ws o/\2*o.2.2.2.2.1*Ws o<=2000000)/\(-2000000<=U5 o/\U5 o<=1000000):=by
 obtain⟨f,e,i⟩:=h;have d:0<=Ws o/\Ws o<=1000:=by unfold Ws;omega
 have a:=wF (g:=o.2.2.2.2.1) (c:=o.2.2.2.2.2.1) (p:=1000) (q:=1000) e (by omega);have b:=wF (g:=2*o.2.2.2.2.1) (c:=Ws o) (p:=2000) (q:=1000) (by omega) d;refine⟨d,by omega,by omega,?_⟩;unfold U5;omega
theorem Qag (n:Nat){o:Off}(h:okO o):Zg n o.1 o.2.1 o.2.2.1 o.2.2.2.1 o.2.2.2.2.1 o.2.2.2.2.2.1 o.2.2.2.2.2.2=some (Ws o):=by obtain⟨a,_⟩:=YF h;unfold Ws at a;unfold Zg Ws;rw[jTj (by unfold Qh;omega)]
theorem Qbp (n:Nat){o:Off}(h:okO o):Wv n o.1 o.2.1 o.2.2.1 o.2.2.2.1 o.2.2.2.2.1 o.2.2.2.2.2.1 o.2.2.2.2.2.2=some (U5 o):=by obtain⟨a,b,c,d⟩:=YF h;have e:=h.2.1;unfold Wv;rw[Qag n h,jTj (by unfold Qh;omega),jTj (by unfold Qh;omega),jBj,jTj (by unfold Qh;omega)];unfold U5 at d ⊢;rw[jTj (by unfold Qh;omega)]
theorem zx (n:Nat){o:Off}(h:okO o):Zg n o.1 o.2.1 o.2.2.1 o.2.2.2.1 o.2.2.2.2.1 o.2.2.2.2.2.1 o.2.2.2.2.2.2=some (Ws o):=by obtain⟨a,_⟩:=YF h;unfold Ws at a;unfold Zg Ws;rw[jTj (by unfold Qh;omega)]
theorem Qar (n:Nat){o:Off}(h:okO o):Wv n o.1 o.2.1 o.2.2.1 o.2.2.2.1 o.2.2.2.2.1 o.2.2.2.2.2.1 o.2.2.2.2.2.2=some (U5 o):=by obtain⟨a,b,c,d⟩:=YF h;have e:=h.2.1;unfold Wv;rw[zx n h,jTj (by unfold Qh;omega),jTj (by unfold Qh;omega),jBj,jTj (by unfold Qh;omega)];unfold U5 at d ⊢;rw[jTj (by unfold Qh;omega)]
inductive Ki where
 | sector
 | mirror
 | soil
 | clean
 | defect
 | repair
 | aim
 | park
 | dim
 | sun
 | fill
 | drain
 | trip
 | reset
 | offer
 | deliver
 | bill
 | undo
 deriving DecidableEq
def kw:Ki->List UInt8
 | .sector=>[115,101,99,116,111,114]
 | .mirror=>[109,105,114,114,111,114]
 | .soil=>[115,111,105,108]
 | .clean=>[99,108,101,97,110]
 | .defect=>[100,101,102,101,99,116]
 | .repair=>[114,101,112,97,105,114]
 | .aim=>[97,105,109]
 | .park=>[112,97,114,107]
 | .dim=>[100,105,109]
 | .sun=>[115,117,110]
 | .fill=>[102,105,108,108]
 | .drain=>[100,114,97,105,110]
 | .trip=>[116,114,105,112]
 | .reset=>[114,101,115,101,116]
 | .offer=>[111,102,102,101,114]
 | .deliver=>[100,101,108,105,118,101,114]
 | .bill=>[98,105,108,108]
 | .undo=>[117,110,100,111]
def kr:Ki->List UInt8
 | .sector=>[83]
 | .mirror=>[77,115]
 | .soil=>[109]
 | .clean=>[109]
 | .defect=>[109]
 | .repair=>[109]
 | .aim=>[109]
 | .park=>[109]
 | .dim=>[115]
 | .sun=>[]
 | .fill=>[]
 | .drain=>[]
 | .trip=>[]
 | .reset=>[]
 | .offer=>[79]
 | .deliver=>[111]
 | .bill=>[111]
 | .undo=>[]
def kn (k:Ki):Nat:=(kr k).length
def kv:Ki->Nat
 | .sector=>1
 | .mirror=>2
 | .soil=>2
 | .clean=>1
 | .defect=>1
 | .repair=>1
 | .aim=>1
 | .park=>1
 | .dim=>1
 | .sun=>2
 | .fill=>1
 | .drain=>1
 | .trip=>1
 | .reset=>1
 | .offer=>5
 | .deliver=>2
 | .bill=>1
 | .undo=>0
def allKd:List Ki:=[.sector,.mirror,.soil,.clean,.defect,.repair,.aim,.park,.dim,.sun,.fill,.drain,.trip,.reset,.offer,.deliver,.bill,.undo]
def yJ (l:List UInt8):Option Ki:=allKd.find? fun k=>decide (kw k=l)
theorem E7 (k:Ki):yJ (kw k)=some k:=by cases k<;>decide
theorem qM {l:List UInt8}{k:Ki}(h:yJ l=some k):l=kw k:=by have:=List.find?_some h;simpa using(of_decide_eq_true this).symm
theorem kE {l:List UInt8}(h:yJ l=none)(k:Ki):l≠kw k:=by intro e;rw[e,E7] at h;cases h
theorem kne {a:jSj}{L:List UInt8}(h:a.data.toList=L){l:Array UInt8}(b:L≠l.toList):¬((a.toList==(⟨l⟩:jSj).toList)=true):=by rw[kq,h];exact b
theorem keq {a:jSj}{L:List UInt8}(h:a.data.toList=L){l:Array UInt8}(b:L=l.toList):(a.toList==(⟨l⟩:jSj).toList)=true:=by rw[kq,h];exact b
theorem dne {a:jSj}{L M:List UInt8}(h:a.data.toList=L)(b:L≠M):¬a.data.toList=M:=by rw[h];exact b
theorem kno {a:jSj}(h:yJ a.data.toList=none)(k:Ki){l:Array UInt8}(b:l.toList=kw k):¬((a.toList==(⟨l⟩:jSj).toList)=true):=by rw[kq,b];exact kE h k
theorem JF (n:Nat){a:jSj}:∀{k:Ki},a.data.toList=kw k->Q1 n a=some (mkS (kr k),(kv k:Int),true)
 | .sector,h=>by unfold Q1;rw[jTj (keq h rfl)];rfl
 | .mirror,h=>by unfold Q1;(iterate 1 rw[jFj (kne h (by decide))]);rw[jTj (keq h rfl)];rfl
 | .soil,h=>by unfold Q1;(iterate 2 rw[jFj (kne h (by decide))]);rw[jTj (keq h rfl)];rfl
 | .clean,h=>by unfold Q1;(iterate 3 rw[jFj (kne h (by decide))]);rw[jTj (keq h rfl)];rfl
 | .defect,h=>by unfold Q1;(iterate 4 rw[jFj (kne h (by decide))]);rw[jTj (keq h rfl)];rfl
 | .repair,h=>by unfold Q1;(iterate 5 rw[jFj (kne h (by decide))]);rw[jTj (keq h rfl)];rfl
 | .aim,h=>by unfold Q1;(iterate 6 rw[jFj (kne h (by decide))]);rw[jTj (keq h rfl)];rfl
 | .park,h=>by unfold Q1;(iterate 7 rw[jFj (kne h (by decide))]);rw[jTj (keq h rfl)];rfl
 | .dim,h=>by unfold Q1;(iterate 8 rw[jFj (kne h (by decide))]);rw[jTj (keq h rfl)];rfl
 | .sun,h=>by unfold Q1;(iterate 9 rw[jFj (kne h (by decide))]);rw[jTj (keq h rfl)];rfl
 | .fill,h=>by unfold Q1;(iterate 10 rw[jFj (kne h (by decide))]);rw[jTj (keq h rfl)];rfl
 | .drain,h=>by unfold Q1;(iterate 11 rw[jFj (kne h (by decide))]);rw[jTj (keq h rfl)];rfl
 | .trip,h=>by unfold Q1;(iterate 12 rw[jFj (kne h (by decide))]);rw[jTj (keq h rfl)];rfl
 | .reset,h=>by unfold Q1;(iterate 13 rw[jFj (kne h (by decide))]);rw[jTj (keq h rfl)];rfl
 | .offer,h=>by unfold Q1;(iterate 14 rw[jFj (kne h (by decide))]);rw[jTj (keq h rfl)];rfl
 | .deliver,h=>by unfold Q1;(iterate 15 rw[jFj (kne h (by decide))]);rw[jTj (keq h rfl)];rfl
 | .bill,h=>by unfold Q1;(iterate 16 rw[jFj (kne h (by decide))]);rw[jTj (keq h rfl)];rfl
 | .undo,h=>by unfold Q1;(iterate 17 rw[jFj (kne h (by decide))]);rw[jTj (keq h rfl)];rfl
theorem Qdb (n:Nat){a:jSj}(h:yJ a.data.toList=none):Q1 n a=some (⟨#[]⟩,0,false):=by unfold Q1;rw[jFj (kno h .sector rfl),jFj (kno h .mirror rfl),jFj (kno h .soil rfl),jFj (kno h .clean rfl),jFj (kno h .defect rfl),jFj (kno h .repair rfl),jFj (kno h .aim rfl),jFj (kno h .park rfl),jFj (kno h .dim rfl),jFj (kno h .sun rfl),jFj (kno h .fill rfl),jFj (kno h .drain rfl),jFj (kno h .trip rfl),jFj (kno h .reset rfl),jFj (kno h .offer rfl),jFj (kno h .deliver rfl),jFj (kno h .bill rfl),jFj (kno h .undo rfl)]
theorem QdZ {a b:jSj}(h:(a==b)=true):a=b:=by cases a;cases b;have c : (ByteArray.mk _==ByteArray.mk _)=true:=h;simp only[ByteArray.mk.injEq];exact eq_of_beq h
theorem QbA {s:jSj}:∀{j:Value},X9 (.string s) j=some true->j=.string s:=by intro j h;cases j<;>simp[X9] at h;rw[QdZ h]
theorem kA:∀(es:jVj) (s:jSj),(VY (.string s) es).isSome=true->∃x,D.tup [.v (.string s),x]∈es
 | [],s,h=>by simp[VY] at h
 | e::es,s,h=>by
  unfold VY at h;split at h
  ·rename_i j x b;split at h
   ·rename_i d;have:j=.string s:=QbA d;subst this;refine⟨x,?_⟩;unfold SX.keyOf at b;split at b<;>try cases b
    rename_i l;unfold Qck at b;split at b
    ·cases b
    ·rename_i a l;split at b
     ·cases b
     ·rename_i y r;split at b
      ·split at b
       ·rename_i k c;cases b;unfold vOf at c;split at c<;>cases c;exact jMj
       ·cases b
      ·cases b
   ·obtain⟨x,f⟩:=kA es s h;exact⟨x,jmj _ f⟩
  ·cases h
theorem Qby {a:jSj}(h:(VY (.string a) Wr).isSome=true):∃k,a.data.toList=kw k:=by
 obtain⟨x,b⟩:=kA _ _ h;unfold Wr at b;simp only[List.mem_cons,D.tup.injEq,List.cons.injEq,D.v.injEq,Value.string.injEq,List.not_mem_nil,or_false] at b;obtain h|h|h|h|h|h|h|h|h|h|h|h|h|h|h|h|h|h:=b
 ·exact⟨.sector,by rw[h.1];rfl⟩
 ·exact⟨.mirror,by rw[h.1];rfl⟩
 ·exact⟨.soil,by rw[h.1];rfl⟩
 ·exact⟨.clean,by rw[h.1];rfl⟩
 ·exact⟨.defect,by rw[h.1];rfl⟩
 ·exact⟨.repair,by rw[h.1];rfl⟩
 ·exact⟨.aim,by rw[h.1];rfl⟩
 ·exact⟨.park,by rw[h.1];rfl⟩
 ·exact⟨.dim,by rw[h.1];rfl⟩
 ·exact⟨.sun,by rw[h.1];rfl⟩
 ·exact⟨.fill,by rw[h.1];rfl⟩
 ·exact⟨.drain,by rw[h.1];rfl⟩
 ·exact⟨.trip,by rw[h.1];rfl⟩
 ·exact⟨.reset,by rw[h.1];rfl⟩
 ·exact⟨.offer,by rw[h.1];rfl⟩
 ·exact⟨.deliver,by rw[h.1];rfl⟩
 ·exact⟨.bill,by rw[h.1];rfl⟩
 ·exact⟨.undo,by rw[h.1];rfl⟩
theorem Qdp:∀(k:Ki),((VY (.string (mkS (kw k))) Wr).bind J8).map (fun x=>(x.1,x.2.1))=some (mkS (kr k),(kv k:Int))
 | .sector=>by kernel_rfl
 | .mirror=>by kernel_rfl
 | .soil=>by kernel_rfl
 | .clean=>by kernel_rfl
 | .defect=>by kernel_rfl
 | .repair=>by kernel_rfl
 | .aim=>by kernel_rfl
 | .park=>by kernel_rfl
 | .dim=>by kernel_rfl
 | .sun=>by kernel_rfl
 | .fill=>by kernel_rfl
 | .drain=>by kernel_rfl
 | .trip=>by kernel_rfl
 | .reset=>by kernel_rfl
 | .offer=>by kernel_rfl
 | .deliver=>by kernel_rfl
 | .bill=>by kernel_rfl
 | .undo=>by kernel_rfl
theorem QcY {a:jSj}{k:Ki}(h:a.data.toList=kw k):(VY (.string a) Wr).isSome=true/\∃f g,(VY (.string a) Wr).bind J8=some (mkS (kr k),(kv k:Int),f,g):=by
 have e:a=mkS (kw k):=by rw[<-h,yD]
 subst e;have:=Qdp k;cases hm:VY (.string (mkS (kw k))) Wr with
 | none=>rw[hm] at this;cases this
 | some d =>
  rw[hm,jBj] at this;refine⟨rfl,?_⟩;obtain⟨x,i,j⟩:=Option.map_eq_some_iff.1 this;refine⟨x.2.2.1,x.2.2.2,?_⟩;rw[jBj,i];obtain⟨b,c⟩:=Prod.mk.inj j;rw[<-b,<-c]
abbrev Ev:=Int×jSj×List jSj×List Int×jSj
def Zr (e:Ev):D:=QP (e.1,e.2.1,e.2.2.1.map Sd,e.2.2.2.1.map I,e.2.2.2.2)
def Short (e:Ev):Prop:=e.2.1.size<=40/\e.2.2.1.length<=6/\e.2.2.2.1.length<=8/\e.2.2.2.2.size<=200/\∀s,s∈e.2.2.1->s.size<=40
def Shw (n:Nat)(e:Ev):Prop:=e.2.2.1.length<=6/\e.2.2.2.1.length<=8/\∀s,s∈e.2.2.1->s.size<n
theorem Short.w {n:Nat}(b:1700<=n){e:Ev}(h:Short e):Shw n e:=⟨h.2.1,h.2.2.1,fun s a=>Nat.lt_of_le_of_lt (h.2.2.2.2 s a) (by omega)⟩
def wq (v:Int):Bool:=decide (inR v 0 999999999=0)
def chk (e:Ev):Int:=if inR e.1 1 1000=0 then(match yJ e.2.1.data.toList with
 | none=>13
 | some k=>if e.2.2.1.length=kn k/\e.2.2.2.1.length=kv k then(if e.2.2.1.all Us=true then(if e.2.2.2.1.all wq=true then(if e.2.2.2.2.size=0 then 0 else 1) else 3) else 8) else 2) else 3
structure Good (e:Ev) (k:Ki):Prop where
 num:1<=e.1/\e.1<=1000
 kind:e.2.1.data.toList=kw k
 names:e.2.2.1.length=kn k
 vals:e.2.2.2.1.length=kv k
 name:∀s,s∈e.2.2.1->Us s=true
 val:∀v,v∈e.2.2.2.1->0<=v/\v<=999999999
 text:e.2.2.2.2.size=0
theorem qn {e:Ev}(h:chk e=0):∃k,Good e k:=by
 unfold chk at h;split at h;case isFalse=>cases h
 rename_i b;split at h
 ·cases h
 rename_i k g;split at h;case isFalse=>cases h
 rename_i a;split at h;case isFalse=>cases h
 rename_i c;split at h;case isFalse=>cases h
 rename_i d;split at h;case isFalse=>cases h
 rename_i f;refine⟨k,YC.1 b,qM g,a.1,a.2,List.all_eq_true.1 c,fun v i=>?_,f⟩;have:=List.all_eq_true.1 d v i;exact YC.1 (of_decide_eq_true this)
theorem Qc4 {n:Nat}(d:1700<=n)(l:List jSj)(c:l.length<=60)(b:∀s,s∈l->s.size<n):Wf n (l.map Sd)=some ((l.map fun s=>QF (!Us s) 8).map I):=by
 unfold Wf;have:=UV (step:=WN n (l.map Sd)) (E:=jVj) (fun out=>out) l (fun s=>[I (QF (!Us s) 8)]) (fun _=>jLj _)
  (fun i out x a e=>by have hi:=(jGj a).1;unfold WN Vs;dsimp only;rw[jTj (ZD a),jH a,jBj,QbL (by have:=b x (jgj a);omega),jBj,Zd,jBj,jBj,jTj (V7 (by decide) (by omega)),jTj (by unfold Qh;omega)];rfl)
  (fun out _=>by unfold WN;dsimp only;rw[jFj (by simp)]) (k:=n) (by omega)
 rw[this,jBj,wW,List.map_map];rfl
theorem Qc3 {n:Nat}(c:1700<=n)(l:List Int)(b:l.length<=60):ZU n (l.map I)=some ((l.map fun v=>inR v 0 999999999).map I):=by
 unfold ZU;have:=UV (step:=Wp n (l.map I)) (E:=jVj) (fun out=>out) l (fun v=>[I (inR v 0 999999999)]) (fun _=>jLj _)
  (fun i out x a d=>by have hi:=(jGj a).1;unfold Wp Vr;dsimp only;rw[jTj (ZD a),EM a,jBj,V2,jBj,jBj,jTj (V7 (by decide) (by omega)),jTj (by unfold Qh;omega)];rfl)
  (fun out _=>by unfold Wp;dsimp only;rw[jFj (by simp)]) (k:=n) (by omega)
 rw[this,jBj,wW,List.map_map];rfl
theorem kH:∀(l:List jSj),Qt (l.map fun s=>QF (!Us s) 8)=if l.all Us=true then 0 else 8
 | []=>rfl
 | s::l=>by
  have a:=kH l;rw[jCj];unfold Qt QF;unfold QF at a;cases h:Us s with
  | true=>simp only[Bool.not_true,Bool.false_eq_true,if_false,if_true,List.all_cons,h,Bool.true_and];exact a
  | false=>simp[h]
theorem uU:∀(l:List Int),Qt (l.map fun v=>inR v 0 999999999)=if l.all wq=true then 0 else 3
 | []=>rfl
 | v::l=>by
  have a:=uU l;rw[jCj];unfold Qt;obtain h|h:=qO v 0 999999999
  ·rw[jTj h,a];simp[wq,h]
  ·rw[h,jFj (by decide)];simp[wq,h]
theorem Qa8 (s:jSj):(!(s.toList==(⟨#[]⟩:jSj).toList))=decide (s.size≠0):=by rw[yy];by_cases h:s.size=0<;>simp[h]
theorem QkC {n:Nat}(v:1700<=n)(e:Ev)(F:e.2.2.1.length<=6)(G:e.2.2.2.1.length<=8)(A:∀s,s∈e.2.2.1->s.size<n):WX n e.1 e.2.1 (e.2.2.1.map Sd) (e.2.2.2.1.map I) e.2.2.2.2=some (chk e):=by
 have a:(Wf n (e.2.2.1.map Sd)).bind (fun E=>(Qo n E).bind fun p=>(ZU n (e.2.2.2.1.map I)).bind fun q=>(Qo n q).bind fun r =>
   (Qm n (!(e.2.2.2.2.toList==(⟨#[]⟩:jSj).toList)) 1).bind fun t=>(Qo n ([I p,I r,I t])).bind fun u=>some u) =
   some (if e.2.2.1.all Us=true then(if e.2.2.2.1.all wq=true then(if e.2.2.2.2.size=0 then 0 else 1) else 3) else 8):=by
  rw[Qc4 v _ (by omega) A,jBj,Xp _ (by simp;omega) (by simp;omega),jBj,Qc3 v _ (by omega),jBj,Xp _ (by simp;omega) (by simp;omega),jBj,
   kH,uU,Zd,jBj,wX (by omega),jBj,Qa8]
  unfold QF Qt Qt Qt Qt;by_cases i:e.2.2.1.all Us=true<;>by_cases c:e.2.2.2.1.all wq=true<;>by_cases z:e.2.2.2.2.size=0<;>simp[i,c,z]
 unfold WX;cases hk:yJ e.2.1.data.toList with
 | none =>
  have m:¬(VY (.string e.2.1) Wr).isSome=true:=fun h=>by obtain⟨k,l⟩:=Qby h;exact kE hk k l
  rw[jFj m,V2,jBj];unfold Uo VN;simp only[jBj,Zd];unfold chk;rw[hk];have j:∀x:Int,Qo n ([I (inR e.1 1 1000),I 13,I x])=some (if inR e.1 1 1000=0 then 13 else 3):=by intro x;rw[wX (by omega)];unfold Qt Qt;obtain h|h:=qO e.1 1 1000<;>rw[h]<;>simp
  have y:¬(if inR e.1 1 1000=0 then(13:Int) else 3)=0:=by split<;>decide
  split
  ·rw[j,jBj,jFj y]
  ·rw[j,jBj,jFj y]
 | some k =>
  obtain⟨b,f,g,d⟩:=QcY (qM hk);rw[jTj b,d,jBj,V2,jBj];unfold Up VN;simp only[jBj,Zd];unfold chk;rw[hk];have j:∀x:Int,Qo n ([I (inR e.1 1 1000),I 0,I x])=some (if inR e.1 1 1000=0 then x else 3):=by intro x;rw[wX (by omega)];unfold Qt Qt Qt Qt;obtain h|h:=qO e.1 1 1000<;>rw[h]<;>simp;intro h;exact h.symm
  have o:((mkS (kr k)).size:Int)=(kn k:Int):=by unfold kn mkS ByteArray.size;simp
  simp only[j,jBj,jlj,o];by_cases g0:inR e.1 1 1000=0
  ·simp only[g0,if_true];by_cases i:e.2.2.1.length=kn k
   ·rw[jTj (by omega)];by_cases c:e.2.2.2.1.length=kv k
    ·have C:e.2.2.1.length=kn k/\e.2.2.2.1.length=kv k:=⟨i,c⟩
     have:(((e.2.2.2.1.length:Nat):Int) != (kv k:Int))=false:=by simp[c]
     rw[this];simp only[QF,Bool.false_eq_true,if_false,if_true];rw[jTj C];simp only[Zd,jBj,QF] at a;exact a
    ·have:(((e.2.2.2.1.length:Nat):Int) != (kv k:Int))=true:=by simp;omega
     rw[this];simp only[QF,if_true];rw[jFj (by decide),jFj (fun h=>c h.2)]
   ·rw[jFj (by omega),jFj (by decide),jFj (fun h=>i h.1)]
  ·simp only[g0,if_false];split
   ·rw[jFj (by decide)]
   ·rw[jFj (by decide)]
def nG (_:Unit)(s:jSj):Unit⊕(Unit⊕Unit):=if Us s=true then .inl () else .inr (.inl ())
theorem Qba:∀(l:List jSj),Y6 nG (fun _=>.inr ()) l ()=if l.all Us=true then .inr () else .inl ()
 | []=>rfl
 | s::l=>by
  unfold Y6 nG;by_cases h:Us s=true
  ·rw[jTj h];simp only[List.all_cons,h,Bool.true_and];exact Qba l
  ·rw[jFj h];simp[h]
def vG (_:Unit)(v:Int):Unit⊕(Unit⊕Unit):=if wq v=true then .inl () else .inr (.inl ())
theorem Qa9:∀(l:List Int),Y6 vG (fun _=>.inr ()) l ()=if l.all wq=true then .inr () else .inl ()
 | []=>rfl
 | v::l=>by
  unfold Y6 vG;by_cases h:wq v=true
  ·rw[jTj h];simp only[List.all_cons,h,Bool.true_and];exact Qa9 l
  ·rw[jFj h];simp[h]
theorem V3 {n:Nat}(b:1700<=n)(e:Ev)(a:Shw n e):WX n e.1 e.2.1 (e.2.2.1.map Sd) (e.2.2.2.1.map I) e.2.2.2.2=some (chk e) :=
 QkC b e a.1 a.2.1 a.2.2
theorem Qj4 {n:Nat}(l:1700<=n)(e:Ev)(p:e.2.2.1.length<=6/\e.2.2.2.1.length<=8):WV n e.1 e.2.1 (e.2.2.1.map Sd) (e.2.2.2.1.map I) e.2.2.2.2=some (chk e):=by
 obtain⟨t,u⟩:=p;unfold WV chk;rw[YL,jBj];by_cases g0:inR e.1 1 1000=0
 ·rw[jFj (by simp[g0]),jTj g0];cases hk:yJ e.2.1.data.toList with
  | none=>rw[Qdb n hk];simp
  | some k =>
   rw[JF n (qM hk),jBj];dsimp only;have a:((mkS (kr k)).size:Int)=(kn k:Int):=by unfold kn mkS ByteArray.size;simp
   rw[jTj rfl];simp only[jlj,a];by_cases g:e.2.2.1.length=kn k
   ·rw[jTj (by omega)];by_cases j:e.2.2.2.1.length=kv k
    ·have o:e.2.2.1.length=kn k/\e.2.2.2.1.length=kv k:=⟨g,j⟩
     rw[jTj (by omega),jTj o];have q:=ZK (step:=Z4 n e.1 e.2.1 (e.2.2.1.map Sd) (e.2.2.2.1.map I) e.2.2.2.2 (mkS (kr k),(kv k:Int),true)) nG (fun _=>.inr ()) (fun i _=>(i:Int)) e.2.2.1 (fun _ _=>True)
      (fun i _ s b _=>by
       have hi:=(jGj b).1;have c:(i:Int)<((mkS (kr k)).size:Int):=by rw[a];omega
       unfold nG Z4;by_cases h:Us s=true
       ·rw[jTj h];refine⟨?_,trivial⟩;dsimp only;rw[jTj c,jH b,jBj,wx l,jBj,jTj h,jTj (by unfold Qh;omega)];rfl
       ·rw[jFj h];dsimp only;rw[jTj c,jH b,jBj,wx l,jBj,jFj h])
      (fun s _=>by unfold Z4;dsimp only;rw[jFj (by rw[a];omega)]) (s:=()) (k:=n) trivial (by omega)
     have r:=ZK (step:=Z3 n e.1 e.2.1 (e.2.2.1.map Sd) (e.2.2.2.1.map I) e.2.2.2.2 (mkS (kr k),(kv k:Int),true)) vG (fun _=>.inr ()) (fun i _=>(i:Int)) e.2.2.2.1 (fun _ _=>True)
      (fun i _ v b _=>by
       have hi:=(jGj b).1;unfold vG Z3 wq;by_cases h:inR v 0 999999999=0
       ·rw[jTj (jDj h)];refine⟨?_,trivial⟩;dsimp only;rw[jTj (by omega),EM b,jBj,YL,jBj,jFj (by simp[h]),jTj (by unfold Qh;omega)];rfl
       ·rw[jFj (by simpa using h)];dsimp only;rw[jTj (by omega),EM b,jBj,YL,jBj,jTj (by simp[h])])
      (fun s _=>by unfold Z3;dsimp only;rw[jFj (by omega)]) (s:=()) (k:=n) trivial (by omega)
     rw[show Q2 (Z4 n e.1 e.2.1 (e.2.2.1.map Sd) (e.2.2.2.1.map I) e.2.2.2.2 (mkS (kr k),(kv k:Int),true)) n 0=_ from q,Qba,jBj];by_cases d:e.2.2.1.all Us=true
     ·rw[jTj d,jTj d];dsimp only;rw[show Q2 (Z3 n e.1 e.2.1 (e.2.2.1.map Sd) (e.2.2.2.1.map I) e.2.2.2.2 (mkS (kr k),(kv k:Int),true)) n 0=_ from r,Qa9,jBj];by_cases f:e.2.2.2.1.all wq=true
      ·rw[jTj f,jTj f];dsimp only;rw[Qa8];by_cases m:e.2.2.2.2.size=0<;>simp[m]
      ·rw[jFj f,jFj f]
     ·rw[jFj d,jFj d]
    ·rw[jFj (by omega),jFj (fun h=>j h.2)]
   ·rw[jFj (by omega),jFj (fun h=>g h.1)]
 ·rw[jTj (by simp[g0]),jFj g0]
theorem Ga {n:Nat}(b:1700<=n)(e:Ev)(a:Shw n e):WV n e.1 e.2.1 (e.2.2.1.map Sd) (e.2.2.2.1.map I) e.2.2.2.2=some (chk e):=Qj4 b e ⟨a.1,a.2.1⟩
theorem gi0 {b:Type}{a:Int}{l:jVj}{f:Int->Option b}:(el Vt (I a::l) 0).bind f=f a:=rfl
theorem gi1 {b:Type}{x:D}{a:Int}{l:jVj}{f:Int->Option b}:(el Vt (x::I a::l) 1).bind f=f a:=rfl
theorem gi2 {b:Type}{x y:D}{a:Int}{l:jVj}{f:Int->Option b}:(el Vt (x::y::I a::l) 2).bind f=f a:=rfl
theorem gi3 {b:Type}{x y z:D}{a:Int}{l:jVj}{f:Int->Option b}:(el Vt (x::y::z::I a::l) 3).bind f=f a:=rfl
theorem gi4 {b:Type}{x y z w:D}{a:Int}{l:jVj}{f:Int->Option b}:(el Vt (x::y::z::w::I a::l) 4).bind f=f a:=rfl
theorem gs0 {b:Type}{a:jSj}{l:jVj}{f:jSj->Option b}:(el Ww (Sd a::l) 0).bind f=f a:=rfl
theorem gs1 {b:Type}{x:D}{a:jSj}{l:jVj}{f:jSj->Option b}:(el Ww (x::Sd a::l) 1).bind f=f a:=rfl
section
variable {num:Int}{kind text:jSj}{names:List jSj}{vals:List Int}{k:Ki}
theorem Good.d01 (a:Good (num,kind,names,vals,text) k)(d:kn k=0)(e:kv k=1):∃t,names=[]/\vals=[t]/\0<=t/\t<=999999999:=by
 have b:names.length=0:=a.names.trans d;have c:vals.length=1:=a.vals.trans e;match names,vals,b,c with
 | [],[t],_,_=>exact⟨t,rfl,rfl,a.val t (by simp)⟩
theorem Good.d02 (a:Good (num,kind,names,vals,text) k)(d:kn k=0)(e:kv k=2):∃t f,names=[]/\vals=[t,f]/\0<=t/\t<=999999999:=by
 have b:names.length=0:=a.names.trans d;have c:vals.length=2:=a.vals.trans e;match names,vals,b,c with
 | [],[t,v],_,_=>exact⟨t,v,rfl,rfl,a.val t (by simp)⟩
theorem Good.d11 (b:Good (num,kind,names,vals,text) k)(e:kn k=1)(f:kv k=1):∃a t,names=[a]/\vals=[t]/\0<=t/\t<=999999999:=by
 have c:names.length=1:=b.names.trans e;have d:vals.length=1:=b.vals.trans f;match names,vals,c,d with
 | [a],[t],_,_=>exact⟨a,t,rfl,rfl,b.val t (by simp)⟩
theorem Good.d12 (b:Good (num,kind,names,vals,text) k)(e:kn k=1)(f:kv k=2):∃a t g,names=[a]/\vals=[t,g]/\0<=t/\t<=999999999:=by
 have c:names.length=1:=b.names.trans e;have d:vals.length=2:=b.vals.trans f;match names,vals,c,d with
 | [a],[t,v],_,_=>exact⟨a,t,v,rfl,rfl,b.val t (by simp)⟩
theorem Good.d22 (c:Good (num,kind,names,vals,text) k)(f:kn k=2)(g:kv k=2):∃a b t h,names=[a,b]/\vals=[t,h]/\0<=t/\t<=999999999:=by
 have d:names.length=2:=c.names.trans f;have e:vals.length=2:=c.vals.trans g;match names,vals,d,e with
 | [a,b],[t,v],_,_=>exact⟨a,b,t,v,rfl,rfl,c.val t (by simp)⟩
theorem Good.d15 (b:Good (num,kind,names,vals,text) k)(e:kn k=1)(f:kv k=5):∃a t g h i j,names=[a]/\vals=[t,g,h,i,j]/\0<=t/\t<=999999999:=by
 have c:names.length=1:=b.names.trans e;have d:vals.length=5:=b.vals.trans f;match names,vals,c,d with
 | [a],[t,v,w,x,y],_,_=>exact⟨a,t,v,w,x,y,rfl,rfl,b.val t (by simp)⟩
end
theorem rmS {c b:Nat}{r:Reg}(d:Inv c r)(a:b<=200:=by decide):Wa b ((r.sectors.map Sd).length+1):=V7 a (by rw[jlj];have:=d.secs;omega)
theorem rmM {c b:Nat}{r:Reg}(d:Inv c r)(hc:c<=992)(a:b<=200:=by decide):Wa b ((r.mirrors.map QY).length+1):=V7 a (by rw[jlj];have:=d.lenM;omega)
theorem rmO {c b:Nat}{r:Reg}(d:Inv c r)(hc:c<=992)(a:b<=200:=by decide):Wa b ((r.offers.map Zj).length+1):=V7 a (by rw[jlj];have:=d.lenO;omega)
theorem rzS {c b:Nat}{r:Reg}(d:Inv c r)(a:b<=200:=by decide):Wa b (0+(r.sectors.map Sd).length):=V7 a (by rw[jlj];have:=d.secs;omega)
theorem rzM {c b:Nat}{r:Reg}(d:Inv c r)(hc:c<=992)(a:b<=200:=by decide):Wa b (0+(r.mirrors.map QY).length):=V7 a (by rw[jlj];have:=d.lenM;omega)
theorem rzO {c b:Nat}{r:Reg}(d:Inv c r)(hc:c<=992)(a:b<=200:=by decide):Wa b (0+(r.offers.map Zj).length):=V7 a (by rw[jlj];have:=d.lenO;omega)
theorem g0 {t x:Int}{l:List Int}(h:t<x):(t::l).getD 0 0<x:=h
theorem g0n {t x:Int}{l:List Int}(h:¬t<x):¬(t::l).getD 0 0<x:=h
theorem bk4 {r:Reg}{t:Int}(h:Zk r t≠0):Zk r t=4:=by
 unfold Zk at h ⊢;split
 ·rename_i g;rw[jTj g] at h;exact absurd rfl h
 ·rfl
theorem okt {r:Reg}{t:Int}(h:¬t<r.tick)(a:0<=t/\t<=999999999):okT r t:=⟨by omega,a.2⟩
abbrev rtM (r:Reg)(t:Int)(s m o:jVj):jRj:=(t,r.level,r.filled,r.tripped,r.light+ZL r t,r.heat+ZL r t,r.money,s,m,o)
abbrev rtE (r:Reg)(t:Int)(s m o:jVj):Int×Int×Bool×Bool×Int×Int×Int×jVj×jVj×jVj×Int:=(t,r.level,r.filled,r.tripped,r.light+ZL r t,r.heat+ZL r t,r.money,s,m,o,0)
theorem Jl {r:Reg}{a:jSj}{n:Nat}(b:YJ (nmM r.mirrors) a=(n:Int))(c:n<r.mirrors.length):0<=YJ (nmM r.mirrors) a/\YJ (nmM r.mirrors) a<((r.mirrors.map QY).length:Int):=by rw[b,jlj];omega
theorem uS {r:Reg}{a:jSj}{n:Nat}(b:YJ (nmO r.offers) a=(n:Int))(c:n<r.offers.length):0<=YJ (nmO r.offers) a/\YJ (nmO r.offers) a<((r.offers.map Zj).length:Int):=by rw[b,jlj];omega
set_option maxRecDepth 10000
open Go.RowKit Go.Shelf
def Tryz.lays156_ren:Go.Shelf.Ren:=⟨fun|156=>50|165=>154|166=>155|169=>156|240=>183|241=>184|276=>202|277=>203|n=>n,fun|31=>22|9=>9|3=>3|4=>4|0=>0|20=>20|72=>198|76=>202|70=>195|37=>196|75=>201|127=>218|164=>237|5=>5|80=>46|n=>n,fun|n=>n⟩
theorem Tryz.lays156:Go.Proofs.Lays.n156 Tryz.prog Tryz.lays156_ren:={
 mixed:=by kernel_rfl
 f156:=Tryz.func50.trans (congrArg some (by kernel_rfl))
 f165:=Tryz.func154.trans (congrArg some (by kernel_rfl))
 f166:=Tryz.func155.trans (congrArg some (by kernel_rfl))
 f169:=Tryz.func156.trans (congrArg some (by kernel_rfl))
 f240:=Tryz.func183.trans (congrArg some (by kernel_rfl))
 f241:=Tryz.func184.trans (congrArg some (by kernel_rfl))
 f276:=Tryz.func202.trans (congrArg some (by kernel_rfl))
 f277:=Tryz.func203.trans (congrArg some (by kernel_rfl))
 t0:=Tryz.underlying0
 a0:=Tryz.isAgg0
 z0:=Tryz.sizeOf0
 v0:=Tryz.zeroValue0
 t3:=Tryz.underlying3
 a3:=Tryz.isAgg3
 z3:=Tryz.sizeOf3
 v3:=Tryz.zeroValue3
 t4:=Tryz.underlying4
 a4:=Tryz.isAgg4
 z4:=Tryz.sizeOf4
 v4:=Tryz.zeroValue4
 t9:=Tryz.underlying9
 a9:=Tryz.isAgg9
 z9:=Tryz.sizeOf9
 v9:=Tryz.zeroValue9
 t20:=Tryz.underlying20
 a20:=Tryz.isAgg20
 z20:=Tryz.sizeOf20
 v20:=Tryz.zeroValue20
 t31:=Tryz.underlying22
 a31:=Tryz.isAgg22
 z31:=Tryz.sizeOf22
 v31:=Tryz.zeroValue22
 t37:=Tryz.underlying196
 a37:=Tryz.isAgg196
 z37:=Tryz.sizeOf196
 v37:=Tryz.zeroValue196
 t70:=Tryz.underlying195
 a70:=Tryz.isAgg195
 z70:=Tryz.sizeOf195
 v70:=Tryz.zeroValue195
 t72:=Tryz.underlying198
 a72:=Tryz.isAgg198
 z72:=Tryz.sizeOf198
 v72:=Tryz.zeroValue198
 t75:=Tryz.underlying201
 a75:=Tryz.isAgg201
 z75:=Tryz.sizeOf201
 v75:=Tryz.zeroValue201
 t76:=Tryz.underlying202
 a76:=Tryz.isAgg202
 z76:=Tryz.sizeOf202
 v76:=Tryz.zeroValue202
 t127:=Tryz.underlying218
 a127:=Tryz.isAgg218
 z127:=Tryz.sizeOf218
 v127:=Tryz.zeroValue218
 t164:=Tryz.underlying237
 a164:=Tryz.isAgg237
 z164:=Tryz.sizeOf237
 v164:=Tryz.zeroValue237 }
theorem Tryz.Builder_Extra_156:Builder.Extra Tryz.prog Tryz.lays156_ren:={
 sizeBuilder:=by kernel_rfl
 liesBuilder:=by kernel_rfl
 t5:=Tryz.underlying5
 a5:=Tryz.isAgg5
 z5:=Tryz.sizeOf5
 v5:=Tryz.zeroValue5
 infoByte:=by kernel_rfl
 cellsByte:=by kernel_rfl
 sizeByte:=by kernel_rfl
 neB5:=by decide }
def Tryz.laysM171_ren:Go.Shelf.Ren:=⟨fun|171=>46|243=>153|246=>182|283=>198|284=>199|285=>200|286=>201|129=>213|317=>212|318=>214|319=>215|320=>216|337=>221|338=>222|n=>n,fun|3=>3|9=>9|2=>2|4=>4|171=>231|0=>0|53=>232|37=>196|5=>5|173=>235|212=>245|51=>246|20=>20|213=>247|46=>241|232=>259|233=>260|n=>n,fun|17=>1|18=>4|19=>5|n=>n⟩
theorem Tryz.laysM171:Go.Proofs.LaysM.n171 Tryz.prog Tryz.laysM171_ren:={
 mixed:=by kernel_rfl
 f129:=Tryz.func213.trans (congrArg some (by kernel_rfl))
 f171:=Tryz.func46.trans (congrArg some (by kernel_rfl))
 f243:=Tryz.func153.trans (congrArg some (by kernel_rfl))
 f246:=Tryz.func182.trans (congrArg some (by kernel_rfl))
 f283:=Tryz.func198.trans (congrArg some (by kernel_rfl))
 f284:=Tryz.func199.trans (congrArg some (by kernel_rfl))
 f285:=Tryz.func200.trans (congrArg some (by kernel_rfl))
 f286:=Tryz.func201.trans (congrArg some (by kernel_rfl))
 f317:=Tryz.func212.trans (congrArg some (by kernel_rfl))
 f318:=Tryz.func214.trans (congrArg some (by kernel_rfl))
 f319:=Tryz.func215.trans (congrArg some (by kernel_rfl))
 f320:=Tryz.func216.trans (congrArg some (by kernel_rfl))
 f337:=Tryz.func221.trans (congrArg some (by kernel_rfl))
 f338:=Tryz.func222.trans (congrArg some (by kernel_rfl))
 t0:=Tryz.underlying0
 a0:=Tryz.isAgg0
 z0:=Tryz.sizeOf0
 v0:=Tryz.zeroValue0
 t2:=Tryz.underlying2
 a2:=Tryz.isAgg2
 z2:=Tryz.sizeOf2
 v2:=Tryz.zeroValue2
 t3:=Tryz.underlying3
 a3:=Tryz.isAgg3
 z3:=Tryz.sizeOf3
 v3:=Tryz.zeroValue3
 t4:=Tryz.underlying4
 a4:=Tryz.isAgg4
 z4:=Tryz.sizeOf4
 v4:=Tryz.zeroValue4
 t5:=Tryz.underlying5
 a5:=Tryz.isAgg5
 z5:=Tryz.sizeOf5
 v5:=Tryz.zeroValue5
 t9:=Tryz.underlying9
 a9:=Tryz.isAgg9
 z9:=Tryz.sizeOf9
 v9:=Tryz.zeroValue9
 t20:=Tryz.underlying20
 a20:=Tryz.isAgg20
 z20:=Tryz.sizeOf20
 v20:=Tryz.zeroValue20
 t37:=Tryz.underlying196
 a37:=Tryz.isAgg196
 z37:=Tryz.sizeOf196
 v37:=Tryz.zeroValue196
 t46:=Tryz.underlying241
 a46:=Tryz.isAgg241
 z46:=Tryz.sizeOf241
 v46:=Tryz.zeroValue241
 t51:=Tryz.underlying246
 a51:=Tryz.isAgg246
 z51:=Tryz.sizeOf246
 v51:=Tryz.zeroValue246
 t53:=Tryz.underlying232
 a53:=Tryz.isAgg232
 z53:=Tryz.sizeOf232
 v53:=Tryz.zeroValue232
 t171:=Tryz.underlying231
 a171:=Tryz.isAgg231
 z171:=Tryz.sizeOf231
 v171:=Tryz.zeroValue231
 t173:=Tryz.underlying235
 a173:=Tryz.isAgg235
 z173:=Tryz.sizeOf235
 v173:=Tryz.zeroValue235
 t212:=Tryz.underlying245
 a212:=Tryz.isAgg245
 z212:=Tryz.sizeOf245
 v212:=Tryz.zeroValue245
 t213:=Tryz.underlying247
 a213:=Tryz.isAgg247
 z213:=Tryz.sizeOf247
 t232:=Tryz.underlying259
 a232:=Tryz.isAgg259
 z232:=Tryz.sizeOf259
 v232:=Tryz.zeroValue259
 t233:=Tryz.underlying260
 a233:=Tryz.isAgg260
 z233:=Tryz.sizeOf260
 v233:=Tryz.zeroValue260
 g17:=by kernel_rfl
 g18:=by kernel_rfl
 g19:=by kernel_rfl
 i0:=by kernel_rfl
 i2:=by kernel_rfl
 i3:=by kernel_rfl
 i4:=by kernel_rfl
 i5:=by kernel_rfl
 i9:=by kernel_rfl
 i20:=by kernel_rfl
 i37:=by kernel_rfl
 i46:=by kernel_rfl
 i51:=by kernel_rfl
 i53:=by kernel_rfl
 i171:=by kernel_rfl
 i173:=by kernel_rfl
 i212:=by kernel_rfl
 i232:=by kernel_rfl
 i233:=by kernel_rfl
 m17:=by kernel_rfl
 m18:=by kernel_rfl
 m19:=by kernel_rfl }
theorem QdK {w:World}{F:Nat->Prop}(h:GAt w F 1 pow10D):Lib.TabIs Tryz.prog w "internal/strconv.uint64pow10" .u64 Lib.pow10Tab:=by
 obtain⟨⟨l,m,f⟩,cs,t,fz,d,g⟩:=h;have j:Tryz.prog.globalNamed "internal/strconv.uint64pow10"=some 1:=by kernel_rfl
 unfold Lib.TabIs World.var?;rw[j];simp only[jBj,d,jIj];apply Array.ext
 ·rw[g];simp[pow10D,D.cells]
 ·intro i b c;have hi:i<Lib.pow10Tab.length:=by simpa using c
  have hc:pow10D.cells[i]?=some (.v (.int .u64 Lib.pow10Tab[i])):=by simp[pow10D,D.cells,hi]
  obtain⟨y,a,k⟩:=f i _ hc;rw[dr_v k] at a;unfold World.cell? at a;simp only[d,Nat.zero_add] at a;have e:cs[i]?=some (Value.int IntKind.u64 Lib.pow10Tab[i]):=a;rw[Array.getElem?_eq_getElem b] at e;rw[Option.some.inj e];simp
def Jk (n:Nat)(a:Int):Option jSj:=if Qh a then some ⟨(Lib.itoa a).toArray⟩ else none
theorem jd {n a r}(h:Jk n a=some r):Computes cx 46 [I a] (.v (.string r)):=by
 unfold Jk at h;split at h;case isFalse=>cases h
 rename_i hi;cases h;intro w F vs j b f c;match vs,f with
 | [x],_ =>
  rw[dr_v (c 0 _ _ rfl rfl)];have i:=QdK (b 1 _ rfl);refine(Any.strconv_Itoa Tryz.laysM171 a hi.1 hi.2 w i).mono ?_;rintro e w' ⟨d,k,l,rfl⟩;refine⟨_,d,.v _,⟨rfl,rfl,rfl,?_,fun r g _=>?_⟩⟩
  ·simp[Sort.grow,World.drewN]
  ·simp only[Sort.grow,World.drewN];rw[Array.getElem?_append_left g]
def yi:jVj->Option (List jSj)
 | []=>some []
 | d::l=>match JR d,yi l with
  | some x,some xs=>some (x::xs)
  | _,_=>none
theorem jX:∀{l:jVj} {xs:List jSj},yi l=some xs->l=xs.map fun x=>.v (.string x)
 | [],xs,h=>by cases h;rfl
 | d::l,xs,h=>by
  unfold yi at h;split at h
  ·rename_i x ys a b;cases h;rw[YU a,jX b];rfl
  ·cases h
def QdS (xs:List jSj)(sep:jSj):jSj:=⟨(Lib.join (xs.map (·.data.toList)) sep.data.toList).toArray⟩
def Jj (n:Nat)(l:jVj)(sep:jSj):Option jSj :=
 (yi l).bind fun xs=>if xs.length<=140737488355328/\(Lib.join (xs.map (·.data.toList)) sep.data.toList).length<=140737488355328 then some (QdS xs sep) else none
theorem jc {n:Nat}{full:Bool}{sz:Nat}{l:jVj}{sep r:jSj}(h:Jj n l sep=some r):Computes cx 50 [.lst full sz l,.v (.string sep)] (.v (.string r)):=by
 unfold Jj at h;obtain⟨xs,E,h⟩:=ZX h;split at h;case isFalse=>cases h
 rename_i hi;cases h;have k:=jX E;intro w F vs K L m p;match vs,m with
 | [a,b],_ =>
  rw[dr_v (p 1 _ _ rfl rfl)];have u:=p 0 _ _ rfl rfl;cases u with
  | lst _ _ _ a0 cap blk off ys M hc f A C g =>
   cases l with
   | nil =>
    cases xs with
    | cons x xs=>simp at k
    | nil =>
     refine(Any.strings_Join_none Tryz.lays156 Tryz.Builder_Extra_156 a0 cap sep w).mono ?_;rintro e w' ⟨i,rfl⟩;exact⟨_,i,.v _,Ext.refl _ _⟩
   | cons o l0 =>
    obtain⟨s,J,t⟩:=f (by simp);subst s;have d:(o::l0).length=xs.length:=by rw[k];simp
    rw[d];refine(Any.strings_Join Tryz.lays156 Tryz.Builder_Extra_156 blk off cap xs sep w ?_ t hi.1 (by omega) hi.2).mono ?_
    ·intro j x z;have c : (o::l0)[j]?=some (.v (.string x)):=by rw[k];simp[z]
     have G:sz=1:=by have:=A j _ c;simpa[D.cells] using this.symm
     subst G;have q:=(C j _ 0 _ c rfl).1;have H:=dr_v (g j _ 0 _ c rfl);rw[H] at q;simpa using q
    ·rintro e w' ⟨i,y⟩;exact⟨_,i,.v _,QbS y⟩
def Tryz.lays160_ren:Go.Shelf.Ren:=⟨fun|160=>163|232=>187|231=>186|227=>188|234=>190|233=>189|236=>192|235=>191|228=>208|271=>210|151=>209|197=>196|120=>220|152=>219|260=>211|137=>223|119=>224|224=>206|225=>205|217=>204|266=>217|n=>n,fun|9=>9|4=>4|3=>3|5=>5|117=>222|116=>221|0=>0|124=>225|21=>21|105=>228|46=>241|119=>253|139=>256|138=>255|n=>n,fun|3=>2|4=>3|n=>n⟩
theorem Tryz.lays160:Go.Proofs.Lays.n160 Tryz.prog Tryz.lays160_ren:={
 mixed:=by kernel_rfl
 f119:=Tryz.func224.trans (congrArg some (by kernel_rfl))
 f120:=Tryz.func220.trans (congrArg some (by kernel_rfl))
 f137:=Tryz.func223.trans (congrArg some (by kernel_rfl))
 f151:=Tryz.func209.trans (congrArg some (by kernel_rfl))
 f152:=Tryz.func219.trans (congrArg some (by kernel_rfl))
 f160:=Tryz.func163.trans (congrArg some (by kernel_rfl))
 f197:=Tryz.func196.trans (congrArg some (by kernel_rfl))
 f217:=Tryz.func204.trans (congrArg some (by kernel_rfl))
 f224:=Tryz.func206.trans (congrArg some (by kernel_rfl))
 f225:=Tryz.func205.trans (congrArg some (by kernel_rfl))
 f227:=Tryz.func188.trans (congrArg some (by kernel_rfl))
 f228:=Tryz.func208.trans (congrArg some (by kernel_rfl))
 f231:=Tryz.func186.trans (congrArg some (by kernel_rfl))
 f232:=Tryz.func187.trans (congrArg some (by kernel_rfl))
 f233:=Tryz.func189.trans (congrArg some (by kernel_rfl))
 f234:=Tryz.func190.trans (congrArg some (by kernel_rfl))
 f235:=Tryz.func191.trans (congrArg some (by kernel_rfl))
 f236:=Tryz.func192.trans (congrArg some (by kernel_rfl))
 f260:=Tryz.func211.trans (congrArg some (by kernel_rfl))
 f266:=Tryz.func217.trans (congrArg some (by kernel_rfl))
 f271:=Tryz.func210.trans (congrArg some (by kernel_rfl))
 t0:=Tryz.underlying0
 a0:=Tryz.isAgg0
 z0:=Tryz.sizeOf0
 v0:=Tryz.zeroValue0
 t3:=Tryz.underlying3
 a3:=Tryz.isAgg3
 z3:=Tryz.sizeOf3
 v3:=Tryz.zeroValue3
 t4:=Tryz.underlying4
 a4:=Tryz.isAgg4
 z4:=Tryz.sizeOf4
 v4:=Tryz.zeroValue4
 t5:=Tryz.underlying5
 a5:=Tryz.isAgg5
 z5:=Tryz.sizeOf5
 v5:=Tryz.zeroValue5
 t9:=Tryz.underlying9
 a9:=Tryz.isAgg9
 z9:=Tryz.sizeOf9
 v9:=Tryz.zeroValue9
 t21:=Tryz.underlying21
 a21:=Tryz.isAgg21
 z21:=Tryz.sizeOf21
 v21:=Tryz.zeroValue21
 t46:=Tryz.underlying241
 a46:=Tryz.isAgg241
 z46:=Tryz.sizeOf241
 v46:=Tryz.zeroValue241
 t105:=Tryz.underlying228
 a105:=Tryz.isAgg228
 z105:=Tryz.sizeOf228
 v105:=Tryz.zeroValue228
 t116:=Tryz.underlying221
 a116:=Tryz.isAgg221
 z116:=Tryz.sizeOf221
 t117:=Tryz.underlying222
 a117:=Tryz.isAgg222
 z117:=Tryz.sizeOf222
 v117:=Tryz.zeroValue222
 t119:=Tryz.underlying253
 a119:=Tryz.isAgg253
 z119:=Tryz.sizeOf253
 t124:=Tryz.underlying225
 a124:=Tryz.isAgg225
 z124:=Tryz.sizeOf225
 v124:=Tryz.zeroValue225
 t138:=Tryz.underlying255
 a138:=Tryz.isAgg255
 z138:=Tryz.sizeOf255
 v138:=Tryz.zeroValue255
 t139:=Tryz.underlying256
 a139:=Tryz.isAgg256
 z139:=Tryz.sizeOf256
 v139:=Tryz.zeroValue256
 g3:=by kernel_rfl
 g4:=by kernel_rfl }
def Tryz.lays217_ren:Go.Shelf.Ren:=⟨fun|217=>204|266=>217|n=>n,fun|9=>9|5=>5|3=>3|n=>n,fun|n=>n⟩
theorem Tryz.lays217:Go.Proofs.Lays.n217 Tryz.prog Tryz.lays217_ren:={
 mixed:=by kernel_rfl
 f217:=Tryz.func204.trans (congrArg some (by kernel_rfl))
 f266:=Tryz.func217.trans (congrArg some (by kernel_rfl))
 t3:=Tryz.underlying3
 a3:=Tryz.isAgg3
 z3:=Tryz.sizeOf3
 v3:=Tryz.zeroValue3
 t5:=Tryz.underlying5
 a5:=Tryz.isAgg5
 z5:=Tryz.sizeOf5
 v5:=Tryz.zeroValue5
 t9:=Tryz.underlying9
 a9:=Tryz.isAgg9
 z9:=Tryz.sizeOf9
 v9:=Tryz.zeroValue9 }
def Tryz.lays138_ren:Go.Shelf.Ren:=⟨fun|138=>174|195=>195|218=>197|143=>175|219=>185|217=>204|225=>205|224=>206|267=>207|266=>217|314=>218|n=>n,fun|9=>9|3=>3|4=>4|5=>5|0=>0|46=>241|146=>250|51=>246|n=>n,fun|1=>0|n=>n⟩
theorem Tryz.lays138:Go.Proofs.Lays.n138 Tryz.prog Tryz.lays138_ren:={
 mixed:=by kernel_rfl
 f138:=Tryz.func174.trans (congrArg some (by kernel_rfl))
 f143:=Tryz.func175.trans (congrArg some (by kernel_rfl))
 f195:=Tryz.func195.trans (congrArg some (by kernel_rfl))
 f217:=Tryz.func204.trans (congrArg some (by kernel_rfl))
 f218:=Tryz.func197.trans (congrArg some (by kernel_rfl))
 f219:=Tryz.func185.trans (congrArg some (by kernel_rfl))
 f224:=Tryz.func206.trans (congrArg some (by kernel_rfl))
 f225:=Tryz.func205.trans (congrArg some (by kernel_rfl))
 f266:=Tryz.func217.trans (congrArg some (by kernel_rfl))
 f267:=Tryz.func207.trans (congrArg some (by kernel_rfl))
 f314:=Tryz.func218.trans (congrArg some (by kernel_rfl))
 t0:=Tryz.underlying0
 a0:=Tryz.isAgg0
 z0:=Tryz.sizeOf0
 v0:=Tryz.zeroValue0
 t3:=Tryz.underlying3
 a3:=Tryz.isAgg3
 z3:=Tryz.sizeOf3
 v3:=Tryz.zeroValue3
 t4:=Tryz.underlying4
 a4:=Tryz.isAgg4
 z4:=Tryz.sizeOf4
 v4:=Tryz.zeroValue4
 t5:=Tryz.underlying5
 a5:=Tryz.isAgg5
 z5:=Tryz.sizeOf5
 v5:=Tryz.zeroValue5
 t9:=Tryz.underlying9
 a9:=Tryz.isAgg9
 z9:=Tryz.sizeOf9
 v9:=Tryz.zeroValue9
 t46:=Tryz.underlying241
 a46:=Tryz.isAgg241
 z46:=Tryz.sizeOf241
 v46:=Tryz.zeroValue241
 t51:=Tryz.underlying246
 a51:=Tryz.isAgg246
 z51:=Tryz.sizeOf246
 v51:=Tryz.zeroValue246
 t146:=Tryz.underlying250
 a146:=Tryz.isAgg250
 z146:=Tryz.sizeOf250
 v146:=Tryz.zeroValue250
 g1:=by kernel_rfl }
theorem QkL {f:FuncId}{g i y:Value}(h:∀w:World,Calls Tryz.prog f #[g,i] w fun e w'=>e=.returned y/\Below w.heap.size w w'):Computes cx f [.v g,.v i] (.v y):=by
 intro w F vs k l j c;match vs,j with
 | [a,b],_ =>
  rw[dr_v (c 0 _ _ rfl rfl),dr_v (c 1 _ _ rfl rfl)];exact(h w).mono fun e w' d=>⟨_,d.1,.v _,QbS d.2⟩
theorem Qlt {w w' : World}(h:w'=w):Below w.heap.size w w':=by rw[h];exact Below.refl _ _
def Qi6 (n:Nat)(s:jSj)(c:Int):Option Int:=some (Lib.indexByte s.data.toList c.toNat.toUInt8)
theorem QjZ {n s c r}(h:Qi6 n s c=some r):Computes cx 204 [.v (.string s),.v (.int .u8 c)] (.v (.int .i64 r)):=by simp only[Qi6,jIj] at h;subst h;exact QkL fun w=>(Any.stringslite_IndexByte Tryz.lays217 s c w).mono fun e w' a=>⟨a.1,Qlt a.2⟩
def QjA (n:Nat)(s sep:jSj):Option Int:=match sep with
 | ⟨⟨[c]⟩⟩=>some (Lib.countByte s.data.toList c)
 | _=>none
theorem QkY {n s sep r}(h:QjA n s sep=some r):Computes cx 174 [.v (.string s),.v (.string sep)] (.v (.int .i64 r)):=by
 unfold QjA at h;split at h;case h_2=>cases h
 rename_i c;simp only[jIj] at h;subst h;exact QkL fun w=>(Any.strings_Count_one Tryz.lays138 s c w).mono fun e w' a=>⟨a.1,Qlt a.2⟩
def Qjr (n:Nat)(s cutset:jSj):Option jSj :=
 if s.size<=1000000/\cutset.size<=1000/\cutset.data.toList.all (fun b=>decide (b.toNat<128))=true then some ⟨(Lib.trimS s.data.toList cutset.data.toList).toArray⟩ else none
theorem Qln {n s cutset r}(h:Qjr n s cutset=some r):Computes cx 163 [.v (.string s),.v (.string cutset)] (.v (.string r)):=by
 unfold Qjr at h;split at h;case isFalse=>cases h
 rename_i hi;cases h;exact QkL fun w=>Any.strings_Trim_laid Tryz.lays160 (by kernel_rfl) s cutset w (by omega) (by omega) (ascii_of_all hi.2.2)
set_option maxHeartbeats 4000000
def Qi2 (n:Nat)(a0:jSj):Option (Int) := if((⟨#[10]⟩:jSj).toList==a0.toList)=true then some 0 else(Qi6 n a0 10).bind fun a=>some a
theorem Qkj {n a0 r}(h:Qi2 n a0=some r):Computes cx 185 [Qr5 a0,Qr5 ⟨#[10]⟩] (I r):=by
 unfold Qi2 at h;obtain⟨a,h⟩|⟨a,h⟩:=io h
 ·obtain rfl:=oi h;exact rf [.no,b1] (Qa a QL)
 have⟨t2,h2,h⟩:=bo h;obtain rfl:=oi h;exact rf [.no,b0,.no,.no,.ret (I t2)] (Qa (QjZ h2) (Qa (QA a) QL))
def Qje (n:Nat)(a0:jSj):Option (jSj×jSj×Bool) := (Qi2 n a0).bind fun a=>if a>=0 then(Qi7 a0 none (some a)).bind fun b=>if Qh (a+1) then(Qi7 a0 (some (a+1)) none).bind fun c=>some (b,c,true) else none else some (a0,⟨#[]⟩,false)
theorem QkD {n a0 r}(h:Qje n a0=some r):Computes cx 162 [Qr5 a0,Qr5 ⟨#[10]⟩] (.tup [Qr5 r.1,Qr5 r.2.1,B r.2.2]):=by
 unfold Qje at h;have⟨t1,h1,h⟩:=bo h;have q:=Qa (Qkj h1) QL;obtain⟨a,h⟩|⟨a,h⟩:=io h
 ·have⟨t3,b,h⟩:=bo h;have⟨h4,h⟩:=gd h;have⟨t5,c,h⟩:=bo h;cases h;exact rf [.ret (I t1),b1,.el (Qr5 t3),.el (Qr5 t5)] (Qa (QiU c:QV cx.P (Instr.sliceAt 9 (.string a0) (some (.int .i64 (t1+1))) none none)=some (.string t5)) (Qa h4 (Qa (QiU b:QV cx.P (Instr.sliceAt 9 (.string a0) none (some (.int .i64 t1)) none)=some (.string t3)) (Qa (jDj a) q))))
 cases h;exact rf [.ret (I t1),b0] (Qa (jEj a) q)
def Qjg (n:Nat)(a0:jSj):Option (jSj×jSj×Bool) := (Qje n a0).bind fun a=>some (a.1,a.2.1,a.2.2)
theorem QlC {n a0 r}(h:Qjg n a0=some r):Computes cx 71 [Qr5 a0,Qr5 ⟨#[10]⟩] (.tup [Qr5 r.1,Qr5 r.2.1,B r.2.2]):=by unfold Qjg at h;have⟨t1,h1,h⟩:=bo h;cases h;exact rf [.ret (.tup [Qr5 t1.1,Qr5 t1.2.1,B t1.2.2])] (Qa (QkD h1) QL)
def Qjh (n:Nat)(a0:jSj)(a:(Int×Int)):Option (Int×Int⊕Int) := if a.2<(a0.size:Int) then if Qh (353*a.1) then(WQ a0 a.2).bind fun b=>if Qh ((353*a.1)+(IntKind.wrap .i64 b)) then if Qh (a.2+1) then some (.inl ((Int.tmod ((353*a.1)+(IntKind.wrap .i64 b)) 9999649),(a.2+1))) else none else none else none else some (.inr a.1)
noncomputable def Qkl (a0:jSj):Lp (Int×Int) (Int):=⟨fun a=>[(0,.d (Qr5 a0)),(3,.d (I a.1)),(8,.d (I (a0.size:Int))),(9,.d (I a.2))],fun _=>[],fun _=>(.exit 0),fun e=>[(3,.d (I e))],fun _=>[]⟩
theorem Qkk {n a0}(c)(r)(h:Qjh n a0 c=some r):Rl (ZJ cx.P 158 0) 38 0 false (Qkl a0) c r:=by
 unfold Qjh at h;obtain⟨a,h⟩|⟨a,h⟩:=io h
 ·have⟨ha2,h⟩:=gd h;have⟨ta3,b,h⟩:=bo h;have⟨ha4,h⟩:=gd h;have⟨ha5,h⟩:=gd h;cases h;exact rn 5 [b1,.el (.v (.int .u8 ta3))] [] [0,3,8,9] [] (Qa ha5 (Qa ((by decide):(9999649:Int)≠0) (Qa ha4 (Qa (Zq b:QV cx.P (Instr.index 9 (.string a0) (.int .i64 c.2))=some (.int .u8 ta3)) (Qa ha2 (Qa (jDj a) QL))))))
 cases h;exact rx 5 [b0] [] [3] [] (Qa (jEj a) QL)
def Qi5 (n:Nat)(a0:jSj):Option (jSj) := (Q2 (Qjh n a0) n (1,0)).bind fun a=>if Qh (48+(Int.tmod a 10)) then if Qh (Int.tdiv a 10) then if Qh (48+(Int.tmod (Int.tdiv a 10) 10)) then if Qh (Int.tdiv (Int.tdiv a 10) 10) then if Qh (48+(Int.tmod (Int.tdiv (Int.tdiv a 10) 10) 10)) then if Qh (Int.tdiv (Int.tdiv (Int.tdiv a 10) 10) 10) then if Qh (48+(Int.tmod (Int.tdiv (Int.tdiv (Int.tdiv a 10) 10) 10) 10)) then if Qh (Int.tdiv (Int.tdiv (Int.tdiv (Int.tdiv a 10) 10) 10) 10) then if Qh (48+(Int.tmod (Int.tdiv (Int.tdiv (Int.tdiv (Int.tdiv a 10) 10) 10) 10) 10)) then if Qh (Int.tdiv (Int.tdiv (Int.tdiv (Int.tdiv (Int.tdiv a 10) 10) 10) 10) 10) then if Qh (48+(Int.tmod (Int.tdiv (Int.tdiv (Int.tdiv (Int.tdiv (Int.tdiv a 10) 10) 10) 10) 10) 10)) then if Qh (Int.tdiv (Int.tdiv (Int.tdiv (Int.tdiv (Int.tdiv (Int.tdiv a 10) 10) 10) 10) 10) 10) then if Qh (48+(Int.tmod (Int.tdiv (Int.tdiv (Int.tdiv (Int.tdiv (Int.tdiv (Int.tdiv a 10) 10) 10) 10) 10) 10) 10)) then if Qh (Int.tdiv (Int.tdiv (Int.tdiv (Int.tdiv (Int.tdiv (Int.tdiv (Int.tdiv a 10) 10) 10) 10) 10) 10) 10) then((qV ([.v (.int .u8 (IntKind.wrap .u8 (48+(Int.tmod (Int.tdiv (Int.tdiv (Int.tdiv (Int.tdiv (Int.tdiv (Int.tdiv a 10) 10) 10) 10) 10) 10) 10)))),.v (.int .u8 (IntKind.wrap .u8 (48+(Int.tmod (Int.tdiv (Int.tdiv (Int.tdiv (Int.tdiv (Int.tdiv a 10) 10) 10) 10) 10) 10)))),.v (.int .u8 (IntKind.wrap .u8 (48+(Int.tmod (Int.tdiv (Int.tdiv (Int.tdiv (Int.tdiv a 10) 10) 10) 10) 10)))),.v (.int .u8 (IntKind.wrap .u8 (48+(Int.tmod (Int.tdiv (Int.tdiv (Int.tdiv a 10) 10) 10) 10)))),.v (.int .u8 (IntKind.wrap .u8 (48+(Int.tmod (Int.tdiv (Int.tdiv a 10) 10) 10)))),.v (.int .u8 (IntKind.wrap .u8 (48+(Int.tmod (Int.tdiv a 10) 10)))),.v (.int .u8 (IntKind.wrap .u8 (48+(Int.tmod a 10))))])).map fun l=>ByteArray.mk l.toArray).bind fun b=>some b else none else none else none else none else none else none else none else none else none else none else none else none else none else none
theorem QjY {n a0 r}(h:Qi5 n a0=some r):Computes cx 158 [Qr5 a0] (Qr5 r):=by unfold Qi5 at h;have⟨t1,h1,h⟩:=bo h;have⟨h2,h⟩:=gd h;have⟨h3,h⟩:=gd h;have⟨h4,h⟩:=gd h;have⟨h5,h⟩:=gd h;have⟨h6,h⟩:=gd h;have⟨h7,h⟩:=gd h;have⟨h8,h⟩:=gd h;have⟨h9,h⟩:=gd h;have⟨h10,h⟩:=gd h;have⟨h11,h⟩:=gd h;have⟨h12,h⟩:=gd h;have⟨h13,h⟩:=gd h;have⟨h14,h⟩:=gd h;have⟨h15,h⟩:=gd h;have⟨t16,h16,h⟩:=bo h;obtain rfl:=oi h;exact rf (.lp [] [0,3,8,9] [] (.exit 0) [(3,.d (I t1))] [] 30::(no 31 [.el (Qr5 t16)])) (Qa h16 (Qa ((by unfold Qh;omega):Qh 7) (Qa ((by decide):(10:Int)≠0) (Qa h15 (Qa h14 (Qa ((by decide):(10:Int)≠0) (Qa ((by unfold Qh;omega):Qh 0) (Qa ((by unfold Qh;omega):Qh 6) (Qa ((by decide):(10:Int)≠0) (Qa h13 (Qa h12 (Qa ((by decide):(10:Int)≠0) (Qa ((by unfold Qh;omega):Qh 1) (Qa ((by unfold Qh;omega):Qh 5) (Qa ((by decide):(10:Int)≠0) (Qa h11 (Qa h10 (Qa ((by decide):(10:Int)≠0) (Qa ((by unfold Qh;omega):Qh 2) (Qa ((by unfold Qh;omega):Qh 4) (Qa ((by decide):(10:Int)≠0) (Qa h9 (Qa h8 (Qa ((by decide):(10:Int)≠0) (Qa ((by unfold Qh;omega):Qh 3) (Qa ((by unfold Qh;omega):Qh 3) (Qa ((by decide):(10:Int)≠0) (Qa h7 (Qa h6 (Qa ((by decide):(10:Int)≠0) (Qa ((by unfold Qh;omega):Qh 4) (Qa ((by unfold Qh;omega):Qh 2) (Qa ((by decide):(10:Int)≠0) (Qa h5 (Qa h4 (Qa ((by decide):(10:Int)≠0) (Qa ((by unfold Qh;omega):Qh 5) (Qa ((by unfold Qh;omega):Qh 1) (Qa ((by decide):(10:Int)≠0) (Qa h3 (Qa h2 (Qa ((by decide):(10:Int)≠0) (Qa ((by unfold Qh;omega):Qh 6) (Qa (QH Qkk h1) QL))))))))))))))))))))))))))))))))))))))))))))
def Qi9 (n:Nat)(a0:jSj):Option (Int) := if((⟨#[32]⟩:jSj).toList==a0.toList)=true then some 0 else(Qi6 n a0 32).bind fun a=>some a
theorem Qj8 {n a0 r}(h:Qi9 n a0=some r):Computes cx 185 [Qr5 a0,Qr5 ⟨#[32]⟩] (I r):=by
 unfold Qi9 at h;obtain⟨a,h⟩|⟨a,h⟩:=io h
 ·obtain rfl:=oi h;exact rf [.no,b1] (Qa a QL)
 have⟨t2,h2,h⟩:=bo h;obtain rfl:=oi h;exact rf [.no,b0,.no,.no,.ret (I t2)] (Qa (QjZ h2) (Qa (QA a) QL))
def Qjo (n:Nat)(a0:jSj):Option (Int) := (Qi9 n a0).bind fun a=>some a
theorem QkX {n a0 r}(h:Qjo n a0=some r):Computes cx 175 [Qr5 a0,Qr5 ⟨#[32]⟩] (I r):=by unfold Qjo at h;have⟨t1,h1,h⟩:=bo h;obtain rfl:=oi h;exact rf [.ret (I t1)] (Qa (Qj8 h1) QL)
def QiN (n:Nat)(a0:jSj)(e:Int)(a:(jSj×Int×jVj)):Option (jSj×Int×jVj⊕jSj×Int×jVj) := if a.2.1<((minI (e+1) ((a0.size:Int)+1)) - 1) then(Qjo n a.1).bind fun b=>if b<0 then some (.inr (a.1,a.2.1,a.2.2)) else if Qh (b+0) then(Qi7 a.1 none (some (b+0))).bind fun c=>if 0<=a.2.1/\a.2.1<((a.2.2).length:Int) then if(Int.toNat a.2.1)<(a.2.2).length then if Qh (b+1) then(Qi7 a.1 (some (b+1)) none).bind fun d=>if Qh (a.2.1+1) then some (.inl (d,(a.2.1+1),(List.set a.2.2 (Int.toNat a.2.1) (.v (.string c):D)))) else none else none else none else none else none else some (.inr (a.1,a.2.1,a.2.2))
noncomputable def Qkb (a0:jSj)(b:Int):Lp (jSj×Int×jVj) (jSj×Int×jVj):=⟨fun a=>[(0,.d (Qr5 a.1)),(1,.d (Qr5 ⟨#[32]⟩)),(2,.d (I 0)),(3,.d (I ((minI (b+1) ((a0.size:Int)+1)) - 1))),(9,.own 19 0),(10,.d (I a.2.1))],fun a=>[(19,.row 0 1 a.2.2)],fun _=>(.exit 0),fun e=>[(0,.d (Qr5 e.1)),(9,.own 19 0),(10,.d (I e.2.1))],fun e=>[(19,.row 0 1 e.2.2)]⟩
theorem Qj9 {n a0 f}(c)(r)(h:QiN n a0 f c=some r):Rl (ZJ cx.P 85 0) 66 0 false (Qkb a0 f) c r:=by
 unfold QiN at h;obtain⟨a,h⟩|⟨a,h⟩:=io h
 ·have⟨ta2,ha2,h⟩:=bo h;have q:=Qa (QkX ha2) (Qa (jDj a) QL);obtain⟨b,h⟩|⟨b,h⟩:=io h
  ·cases h;exact rx 25 [b1,.ret (I ta2),b1] [] [0,9,10] [19] (Qa (jDj b) q)
  have⟨ha4,h⟩:=gd h;have⟨ta5,d,h⟩:=bo h;have⟨ha6,h⟩:=gd h;have⟨ha7,h⟩:=gd h;have⟨ha8,h⟩:=gd h;have⟨ta9,e,h⟩:=bo h;have⟨ha10,h⟩:=gd h;cases h;exact rn 25 [b1,.ret (I ta2),b0,.el (Qr5 ta5),b1,b1,.el (Qr5 ta9)] [] [0,1,2,3,9,10] [19] (Qa ha10 (Qa (QiU e:QV cx.P (Instr.sliceAt 9 (.string c.1) (some (.int .i64 (ta2+1))) none none)=some (.string ta9)) (Qa ha8 (Qa ha7 (Qa ha6 (Qa (QiU d:QV cx.P (Instr.sliceAt 9 (.string c.1) none (some (.int .i64 (ta2+0))) none)=some (.string ta5)) (Qa ha4 (Qa (jEj b) q))))))))
 cases h;exact rx 25 [b0] [] [0,9,10] [19] (Qa (jEj a) QL)
def Qjl (n:Nat)(a0:jSj):Option (jVj) := (QjA n a0 (⟨#[32]⟩)).bind fun b=>if Qh (b+1) then if Qh ((a0.size:Int)+1) then if 0<=(minI (b+1) ((a0.size:Int)+1))/\(minI (b+1) ((a0.size:Int)+1))<=(minI (b+1) ((a0.size:Int)+1))/\16*(minI (b+1) ((a0.size:Int)+1))<=281474976710656/\(minI (b+1) ((a0.size:Int)+1))<=9223372036854775807 then if Qh ((minI (b+1) ((a0.size:Int)+1)) - 1) then(Q2 (QiN n a0 b) n (a0,0,(List.replicate (Int.toNat (minI (b+1) ((a0.size:Int)+1))) (.v (.string ⟨#[]⟩):D)))).bind fun a=>if 0<=a.2.1/\a.2.1<((a.2.2).length:Int) then if(Int.toNat a.2.1)<(a.2.2).length then if Qh (a.2.1+1) then if(0:Int)<=0/\0<=(a.2.1+1)/\(a.2.1+1)<=(((List.set a.2.2 (Int.toNat a.2.1) (.v (.string a.1):D)):jVj).length:Int)/\((List.set a.2.2 (Int.toNat a.2.1) (.v (.string a.1):D))=[]\/1=1) then some (((List.set a.2.2 (Int.toNat a.2.1) (.v (.string a.1):D)).take (Int.toNat (a.2.1+1))).drop (Int.toNat 0)) else none else none else none else none else none else none else none else none
theorem Qkq {n a0 r}(h:Qjl n a0=some r):Computes cx 85 [Qr5 a0,Qr5 ⟨#[32]⟩,I 0,I (-1)] (.lst false 1 r):=by unfold Qjl at h;have⟨t1,h1,h⟩:=bo h;have⟨h2,h⟩:=gd h;have⟨h3,h⟩:=gd h;have⟨h4,h⟩:=gd h;have⟨h5,h⟩:=gd h;have⟨t6,h6,h⟩:=bo h;have⟨h7,h⟩:=gd h;have⟨h8,h⟩:=gd h;have⟨h9,h⟩:=gd h;have⟨h10,h⟩:=gd h;cases h;exact rf [.no,.no,.no,.ret (I t1),b1,.lp [] [0,1,2,3,9,10] [19] (.exit 0) [(0,.d (Qr5 t6.1)),(9,.own 19 0),(10,.d (I t6.2.1))] [(19,.row 0 1 t6.2.2)] 64,b1,b1,b1] (Qa h10 (Qa h9 (Qa h8 (Qa h7 (Qa (QH Qj9 h6) (Qa h5 (Qa h4 (Qa h3 (Qa h2 (Qa (QkY h1) QL))))))))))
def Qjn (n:Nat)(a0:jSj):Option (jVj) := (Qjl n a0).bind fun a=>some a
theorem QkW {n a0 r}(h:Qjn n a0=some r):Computes cx 38 [Qr5 a0,Qr5 ⟨#[32]⟩] (.lst false 1 r):=by unfold Qjn at h;have⟨t1,h1,h⟩:=bo h;obtain rfl:=oi h;exact rf [.ret (.lst false 1 t1)] (Qa (Qkq h1) QL)
def QiK (n:Nat)(a0:jSj)(a:(Int×Nat)):Option (Int×Nat⊕Unit⊕Int) := if a.2<a0.size then if((Utf8.decode a0 a.2).1:Int)<48 then some (.inr (.inl ())) else if((Utf8.decode a0 a.2).1:Int)>57 then some (.inr (.inl ())) else if(a0.size:Int)>9 then some (.inr (.inl ())) else if Qh (10*a.1) then if Qh ((10*a.1)+(IntKind.wrap .i64 (IntKind.wrap .i32 (((Utf8.decode a0 a.2).1:Int) - 48)))) then some (.inl (((10*a.1)+(IntKind.wrap .i64 (IntKind.wrap .i32 (((Utf8.decode a0 a.2).1:Int) - 48)))),(a.2+(Utf8.decode a0 a.2).2))) else none else none else some (.inr (.inr a.1))
noncomputable def Qku (a0:jSj):Lp (Int×Nat) (Unit⊕Int):=⟨fun a=>[(0,.d (Qr5 a0)),(4,.d (I a.1)),(8,.own 4 0)],fun a=>[(4,.it a0 a.2)],fun
 | (.inl e)=>.ret
 | (.inr e)=>(.exit 0),fun
 | (.inl e)=>[(2,.d (I 0)),(3,.d (B false))]
 | (.inr e)=>[(0,.d (Qr5 a0)),(4,.d (I e))],fun _=>[]⟩
theorem QjT {n a0}(e)(r)(h:QiK n a0 e=some r):Rl (ZJ cx.P 164 0) 42 0 false (Qku a0) e r:=by
 unfold QiK at h;obtain⟨a,h⟩|⟨a,h⟩:=io h
 ·have q:=Qa a QL;obtain⟨b,h⟩|⟨b,h⟩:=io h
  ·cases h;exact rx 5 [b1,.no,b1,.no,.no] [] [2,3] [] (Qa (jDj b) q)
  have q:=Qa (jEj b) q;let o(l:jOj):=b1::.no::b0::l;obtain⟨c,h⟩|⟨c,h⟩:=io h
  ·cases h;exact rx 5 (o [b1,.no]) [] [2,3] [] (Qa (jDj c) q)
  have q:=Qa (jEj c) q;obtain⟨d,h⟩|⟨d,h⟩:=io h
  ·cases h;exact rx 5 (o [b0,b1]) [] [2,3] [] (Qa (jDj d) q)
  have⟨ha5,h⟩:=gd h;have⟨ha6,h⟩:=gd h;cases h;exact rn 5 (o [b0,b0]) [] [0,4,8] [4] (Qa ha6 (Qa ha5 (Qa (jEj d) q)))
 cases h;exact rx 5 [b0,.no] [] [0,4] [] (Qa a QL)
def Qjb (n:Nat)(a0:jSj):Option (Int×Bool) := (Q2 (QiK n a0) n (0,0)).bind fun a=>match a with|.inl a=>(some (0,false))|.inr a=>(if(!(a0.toList==(⟨#[]⟩:jSj).toList))=true then if(a0.size:Int)=1 then some (a,true) else(WQ a0 0).bind fun b=>some (a,(b != 48)) else some (a,false))
theorem Qj6 {n a0 r}(h:Qjb n a0=some r):Computes cx 164 [Qr5 a0] (.tup [I r.1,B r.2]):=by
 unfold Qjb at h;have⟨a,h1,h⟩:=bo h;obtain a|a:=a
 ·cases h;exact rf [.lp [] [0,4,8] [4] .ret [(2,.d (I 0)),(3,.d (B false))] [] 38] (Qa (QH QjT h1) QL)
 have q:=Qa (QH QjT h1) QL;let o(l:jOj):=.lp [] [0,4,8] [4] (.exit 0) [(0,.d (Qr5 a0)),(4,.d (I a))] [] 38::l;obtain⟨b,h⟩|⟨b,h⟩:=io h
 ·have q:=Qa b q;obtain⟨c,h⟩|⟨c,h⟩:=io h
  ·cases h;exact rf (o [b1,b1]) (Qa (eqt c) q)
  have⟨t4,e,h⟩:=bo h;cases h;exact rf (o [b1,b0,.el (.v (.int .u8 t4))]) (Qa (Zq e:QV cx.P (Instr.index 9 (.string a0) (.int .i64 0))=some (.int .u8 t4)) (Qa (eqf c) q))
 cases h;exact rf (o [b0]) (Qa (QA b) q)
def QiO (n:Nat)(a0:jVj)(a1:Bool):Option (jSj×jVj×Bool) := if((a0).length:Int)=0 then some (⟨#[]⟩,[],true) else(el Ww a0 0).bind fun a=>if(a.toList==(⟨#[]⟩:jSj).toList)=true then some (⟨#[]⟩,[],true) else if(0:Int)<=1/\1<=((a0).length:Int)/\((a0).length:Int)<=((a0).length:Int)/\(a0=[]\/1=1) then some (a,(a0.drop (Int.toNat 1)),a1) else none
theorem Qjj {n a0 a1 r}(h:QiO n a0 a1=some r):ComputesO cx 143 [.ptr 0 0 0 0 0] (some [.dat (.lst false 1 a0),.dat (B a1)]) (.d (Qr5 r.1)) [.dat (.lst false 1 r.2.1),.dat (B r.2.2)] []:=by
 unfold QiO at h;obtain⟨a,h⟩|⟨a,h⟩:=io h
 ·cases h;exact(rfO 0 (r:=.d (Qr5 ⟨#[]⟩)) (cs:=[.dat (.lst true 0 []),.dat (B true)]) [b1,.no] (Qa (eqt a) QL)).le (.refl _) (.refl _) (.refl _) (.dat (.nilF) (.same _ (.nil)))
 have⟨t2,h2,h⟩:=bo h;have q:=allE Qr h2 (Qa (eqf a) QL);obtain⟨b,h⟩|⟨b,h⟩:=io h
 ·cases h;exact(rfO 0 (r:=.d (Qr5 ⟨#[]⟩)) (cs:=[.dat (.lst true 0 []),.dat (B true)]) [b0,.el (Zy t2),b1] (Qa b q)).le (.refl _) (.refl _) (.refl _) (.dat (.nilF) (.same _ (.nil)))
 have⟨h4,h⟩:=gd h;cases h;exact rfO 0 [b0,.el (Zy t2),b0,.el (Zy t2),b1] (Qa h4 (allE Qr h2 (Qa (QA b) q)))
def QiG (n:Nat)(a0:jVj)(a1:Bool):Option (Int×jVj×Bool) := (QiO n a0 a1).bind fun a=>(Qjb n a.1).bind fun b=>if a.2.2=true then some (b.1,a.2.1,true) else some (b.1,a.2.1,(!b.2))
theorem Qjd {n a0 a1 r}(h:QiG n a0 a1=some r):ComputesO cx 144 [.ptr 0 0 0 0 0] (some [.dat (.lst false 1 a0),.dat (B a1)]) (.d (I r.1)) [.dat (.lst false 1 r.2.1),.dat (B r.2.2)] []:=by
 unfold QiG at h;have⟨t1,h1,h⟩:=bo h;have⟨t2,h2,h⟩:=bo h;have q:=Qa (Qj6 h2) (Qa (Qjj h1) QL);let o(l:jOj):=.obj (some 0) (.d (Qr5 t1.1)) [.dat (.lst false 1 t1.2.1),.dat (B t1.2.2)] []::.ret (.tup [I t2.1,B t2.2])::l;obtain⟨a,h⟩|⟨a,h⟩:=io h
 ·cases h;exact rfO 0 (o [b1]) (Qa a q)
 cases h;exact rfO 0 (o [b0]) (Qa (QA a) q)
def QiQ (n:Nat)(a0:Int)(d:jSj×jVj×Bool)(c:jSj×Int×FnD×FnD)(b:(Unit)⊕jVj×Bool×Nat×jVj):Option ((Unit⊕jVj×Bool×Nat×jVj)⊕Unit⊕jVj×Bool×jVj):=match b with|(.inl b)=>(if 0<c.1.size then(QiO n d.2.1 d.2.2).bind fun a=>some (.inl (.inr (a.2.1,a.2.2,(0+(Utf8.decode c.1 0).2),[.v (.string a.1)]))) else some (.inr (.inl ())))|.inr b=>(if b.2.2.1<c.1.size then(QiO n b.1 b.2.1).bind fun a=>if Wa 16 ((b.2.2.2).length+1) then some (.inl (.inr (a.2.1,a.2.2,(b.2.2.1+(Utf8.decode c.1 b.2.2.1).2),(b.2.2.2++([.v (.string a.1)]:jVj))))) else none else some (.inr (.inr (b.1,b.2.1,b.2.2.2))))
abbrev Qr6:D:=.agg [I 0,.v (.string ⟨#[]⟩),.lst true 0 [],.lst true 0 [],.v (.string ⟨#[]⟩)]
noncomputable def QkQ (a0:Int)(b:jSj×jVj×Bool)(a:jSj×Int×FnD×FnD):Lp (Unit⊕jVj×Bool×Nat×jVj) (Unit⊕jVj×Bool×jVj):=⟨fun _=>[(4,.ptr 0 0 0 0 0),(6,.ptr 4 0 0 0 0),(7,.fn (.func 143) [.ptr 4 0 0 0 0] []),(8,.ptr 13 0 0 0 0),(9,.ptr 24 0 0 0 0),(34,.own 31 0)],fun
 | (.inl sa)=>[(0,.box (.d Qr6)),(4,.box (.d (.agg [.lst false 1 b.2.1,B b.2.2]))),(13,.box (.d (.agg [I a0,Qr5 b.1,.lst true 0 [],.lst true 0 [],Qr5 ⟨#[]⟩]))),(24,.box (.d (.agg [Qr5 a.1,I a.2.1,.fn a.2.2.1.1 a.2.2.1.2.1 a.2.2.1.2.2,.fn a.2.2.2.1 a.2.2.2.2.1 a.2.2.2.2.2]))),(31,.it a.1 0)]
 | (.inr sa)=>[(0,.box (.d Qr6)),(4,.box (.d (.agg [.lst false 1 sa.1,B sa.2.1]))),(13,.box (.agg [.d (I a0),.d (Qr5 b.1),.own 43 0,.d (.lst true 0 []),.d (Qr5 ⟨#[]⟩)])),(24,.box (.d (.agg [Qr5 a.1,I a.2.1,.fn a.2.2.1.1 a.2.2.1.2.1 a.2.2.1.2.2,.fn a.2.2.2.1 a.2.2.2.2.1 a.2.2.2.2.2]))),(31,.it a.1 sa.2.2.1),(43,.row 0 1 sa.2.2.2)],fun _=>(.exit 0),fun _=>[(4,.ptr 0 0 0 0 0),(6,.ptr 4 0 0 0 0),(8,.ptr 13 0 0 0 0),(9,.ptr 24 0 0 0 0)],fun
 | (.inl e)=>[(0,.box (.d Qr6)),(4,.box (.d (.agg [.lst false 1 b.2.1,B b.2.2]))),(13,.box (.d (.agg [I a0,Qr5 b.1,.lst true 0 [],.lst true 0 [],Qr5 ⟨#[]⟩]))),(24,.box (.d (.agg [Qr5 a.1,I a.2.1,.fn a.2.2.1.1 a.2.2.1.2.1 a.2.2.1.2.2,.fn a.2.2.2.1 a.2.2.2.2.1 a.2.2.2.2.2])))]
 | (.inr e)=>[(0,.box (.d Qr6)),(4,.box (.d (.agg [.lst false 1 e.1,B e.2.1]))),(13,.box (.agg [.d (I a0),.d (Qr5 b.1),.own 43 0,.d (.lst true 0 []),.d (Qr5 ⟨#[]⟩)])),(24,.box (.d (.agg [Qr5 a.1,I a.2.1,.fn a.2.2.1.1 a.2.2.1.2.1 a.2.2.1.2.2,.fn a.2.2.2.1 a.2.2.2.2.1 a.2.2.2.2.2]))),(43,.row 0 1 e.2.2)]⟩
theorem Qj2 {n a0 c e}(b)(r)(h:QiQ n a0 c e b=some r):Rl (ZJ cx.P 42 0) 72 0 false (QkQ a0 c e) b r:=by
 unfold QiQ at h;obtain b|b:=b
 ·obtain⟨a,h⟩|⟨a,h⟩:=io h
  ·have⟨ta2,ha2,h⟩:=bo h;cases h;exact rn 32 [b1,.no,.obj (some 4) (.d (Qr5 ta2.1)) [.dat (.lst false 1 ta2.2.1),.dat (B ta2.2.2)] [],.no,.no] [] [4,6,7,8,9,34] [0,4,13,24,31,43] (Qa (Qjj ha2) (Qa a QL))
  cases h;exact rx 32 [b0,.no] [] [4,6,8,9] [0,4,13,24] (Qa a QL)
 ·obtain⟨a,h⟩|⟨a,h⟩:=io h
  ·have⟨ta2,ha2,h⟩:=bo h;have⟨ha3,h⟩:=gd h;cases h;exact rn 44 [b1,.no,.obj (some 4) (.d (Qr5 ta2.1)) [.dat (.lst false 1 ta2.2.1),.dat (B ta2.2.2)] [],b1] [] [4,6,7,8,9,34] [0,4,13,24,31,43] (Qa (ro 9 ha3) (Qa (Qjj ha2) (Qa a QL)))
  cases h;exact rx 44 [b0,.no] [] [4,6,8,9] [0,4,13,24,43] (Qa a QL)
def QjM (n:Nat)(a0:Int)(c:jSj×jVj×Bool)(d:jSj×Int×FnD×FnD)(b:(Unit)⊕Int×jVj×Bool×jVj):Option ((Unit⊕Int×jVj×Bool×jVj)⊕Unit⊕jVj×Bool×jVj):=match b with|(.inl b)=>(if 0<d.2.1 then(QiG n c.2.1 c.2.2).bind fun a=>some (.inl (.inr (1,a.2.1,a.2.2,[I a.1]))) else some (.inr (.inl ())))|.inr b=>(if b.1<d.2.1 then(QiG n b.2.1 b.2.2.1).bind fun a=>if Wa 8 ((b.2.2.2).length+1) then if Qh (b.1+1) then some (.inl (.inr ((b.1+1),a.2.1,a.2.2,(b.2.2.2++([I a.1]:jVj))))) else none else none else some (.inr (.inr (b.2.1,b.2.2.1,b.2.2.2))))
noncomputable def QkP (a0:Int)(a:jSj×jVj×Bool)(b:jSj×Int×FnD×FnD):Lp (Unit⊕Int×jVj×Bool×jVj) (Unit⊕jVj×Bool×jVj):=⟨fun
 | (.inl sa)=>[(4,.ptr 0 0 0 0 0),(6,.ptr 4 0 0 0 0),(8,.ptr 13 0 0 0 0),(46,.d (I b.2.1)),(47,.d (I 0))]
 | (.inr sa)=>[(4,.ptr 0 0 0 0 0),(6,.ptr 4 0 0 0 0),(8,.ptr 13 0 0 0 0),(46,.d (I b.2.1)),(47,.d (I sa.1))],fun
 | (.inl sa)=>[(0,.box (.d Qr6)),(4,.box (.d (.agg [.lst false 1 a.2.1,B a.2.2]))),(13,.box (.d (.agg [I a0,Qr5 a.1,.lst true 0 [],.lst true 0 [],Qr5 ⟨#[]⟩])))]
 | (.inr sa)=>[(0,.box (.d Qr6)),(4,.box (.d (.agg [.lst false 1 sa.2.1,B sa.2.2.1]))),(13,.box (.agg [.d (I a0),.d (Qr5 a.1),.d (.lst true 0 []),.own 82 0,.d (Qr5 ⟨#[]⟩)])),(82,.row 0 1 sa.2.2.2)],fun _=>(.exit 2),fun _=>[(4,.ptr 0 0 0 0 0),(6,.ptr 4 0 0 0 0),(8,.ptr 13 0 0 0 0)],fun
 | (.inl e)=>[(0,.box (.d Qr6)),(4,.box (.d (.agg [.lst false 1 a.2.1,B a.2.2]))),(13,.box (.d (.agg [I a0,Qr5 a.1,.lst true 0 [],.lst true 0 [],Qr5 ⟨#[]⟩])))]
 | (.inr e)=>[(0,.box (.d Qr6)),(4,.box (.d (.agg [.lst false 1 e.1,B e.2.1]))),(13,.box (.agg [.d (I a0),.d (Qr5 a.1),.d (.lst true 0 []),.own 82 0,.d (Qr5 ⟨#[]⟩)])),(82,.row 0 1 e.2.2)]⟩
theorem Qj1 {n a0 c e}(b)(r)(h:QjM n a0 c e b=some r):Rl (ZJ cx.P 42 1) 72 0 false (QkP a0 c e) b r:=by
 unfold QjM at h;obtain b|b:=b
 ·obtain⟨a,h⟩|⟨a,h⟩:=io h
  ·have⟨ta2,ha2,h⟩:=bo h;cases h;exact rn 72 [b1,.obj (some 4) (.d (I ta2.1)) [.dat (.lst false 1 ta2.2.1),.dat (B ta2.2.2)] [],.no,.no] [] [4,6,8,46,47] [0,4,13,82] (Qa ((by unfold Qh;omega):Qh 1) (Qa (Qjd ha2) (Qa (jDj a) QL)))
  cases h;exact rx 72 [b0] [] [4,6,8] [0,4,13] (Qa (jEj a) QL)
 ·obtain⟨a,h⟩|⟨a,h⟩:=io h
  ·have⟨ta2,ha2,h⟩:=bo h;have⟨ha3,h⟩:=gd h;have⟨ha4,h⟩:=gd h;cases h;exact rn 83 [b1,.obj (some 4) (.d (I ta2.1)) [.dat (.lst false 1 ta2.2.1),.dat (B ta2.2.2)] [],b1] [] [4,6,8,46,47] [0,4,13,82] (Qa ha4 (Qa (ro 3 ha3) (Qa (Qjd ha2) (Qa (jDj a) QL))))
  cases h;exact rx 83 [b0] [] [4,6,8] [0,4,13,82] (Qa (jEj a) QL)
def QjL (n:Nat)(a0:Int)(e:jSj×jVj×Bool)(c:jSj×Int×FnD×FnD)(d:jVj×Bool×jVj)(b:(Unit)⊕Int×jVj×Bool×jVj):Option ((Unit⊕Int×jVj×Bool×jVj)⊕Unit⊕jVj×Bool×jVj):=match b with|(.inl b)=>(if 0<c.2.1 then(QiG n d.1 d.2.1).bind fun a=>some (.inl (.inr (1,a.2.1,a.2.2,[I a.1]))) else some (.inr (.inl ())))|.inr b=>(if b.1<c.2.1 then(QiG n b.2.1 b.2.2.1).bind fun a=>if Wa 8 ((b.2.2.2).length+1) then if Qh (b.1+1) then some (.inl (.inr ((b.1+1),a.2.1,a.2.2,(b.2.2.2++([I a.1]:jVj))))) else none else none else some (.inr (.inr (b.2.1,b.2.2.1,b.2.2.2))))
noncomputable def QkO (a0:Int)(b:jSj×jVj×Bool)(c:jSj×Int×FnD×FnD)(a:jVj×Bool×jVj):Lp (Unit⊕Int×jVj×Bool×jVj) (Unit⊕jVj×Bool×jVj):=⟨fun
 | (.inl sa)=>[(4,.ptr 0 0 0 0 0),(6,.ptr 4 0 0 0 0),(8,.ptr 13 0 0 0 0),(46,.d (I c.2.1)),(47,.d (I 0))]
 | (.inr sa)=>[(4,.ptr 0 0 0 0 0),(6,.ptr 4 0 0 0 0),(8,.ptr 13 0 0 0 0),(46,.d (I c.2.1)),(47,.d (I sa.1))],fun
 | (.inl sa)=>[(0,.box (.d Qr6)),(4,.box (.d (.agg [.lst false 1 a.1,B a.2.1]))),(13,.box (.agg [.d (I a0),.d (Qr5 b.1),.own 43 0,.d (.lst true 0 []),.d (Qr5 ⟨#[]⟩)])),(43,.row 0 1 a.2.2)]
 | (.inr sa)=>[(0,.box (.d Qr6)),(4,.box (.d (.agg [.lst false 1 sa.2.1,B sa.2.2.1]))),(13,.box (.agg [.d (I a0),.d (Qr5 b.1),.own 43 0,.own 82 0,.d (Qr5 ⟨#[]⟩)])),(43,.row 0 1 a.2.2),(82,.row 0 1 sa.2.2.2)],fun _=>(.exit 2),fun _=>[(4,.ptr 0 0 0 0 0),(6,.ptr 4 0 0 0 0),(8,.ptr 13 0 0 0 0)],fun
 | (.inl e)=>[(0,.box (.d Qr6)),(4,.box (.d (.agg [.lst false 1 a.1,B a.2.1]))),(13,.box (.agg [.d (I a0),.d (Qr5 b.1),.own 43 0,.d (.lst true 0 []),.d (Qr5 ⟨#[]⟩)])),(43,.row 0 1 a.2.2)]
 | (.inr e)=>[(0,.box (.d Qr6)),(4,.box (.d (.agg [.lst false 1 e.1,B e.2.1]))),(13,.box (.agg [.d (I a0),.d (Qr5 b.1),.own 43 0,.own 82 0,.d (Qr5 ⟨#[]⟩)])),(43,.row 0 1 a.2.2),(82,.row 0 1 e.2.2)]⟩
theorem Qj0 {n a0 c e f}(b)(r)(h:QjL n a0 c e f b=some r):Rl (ZJ cx.P 42 1) 72 0 false (QkO a0 c e f) b r:=by
 unfold QjL at h;obtain b|b:=b
 ·obtain⟨a,h⟩|⟨a,h⟩:=io h
  ·have⟨ta2,ha2,h⟩:=bo h;cases h;exact rn 72 [b1,.obj (some 4) (.d (I ta2.1)) [.dat (.lst false 1 ta2.2.1),.dat (B ta2.2.2)] [],.no,.no] [] [4,6,8,46,47] [0,4,13,43,82] (Qa ((by unfold Qh;omega):Qh 1) (Qa (Qjd ha2) (Qa (jDj a) QL)))
  cases h;exact rx 72 [b0] [] [4,6,8] [0,4,13,43] (Qa (jEj a) QL)
 ·obtain⟨a,h⟩|⟨a,h⟩:=io h
  ·have⟨ta2,ha2,h⟩:=bo h;have⟨ha3,h⟩:=gd h;have⟨ha4,h⟩:=gd h;cases h;exact rn 83 [b1,.obj (some 4) (.d (I ta2.1)) [.dat (.lst false 1 ta2.2.1),.dat (B ta2.2.2)] [],b1] [] [4,6,8,46,47] [0,4,13,43,82] (Qa ha4 (Qa (ro 3 ha3) (Qa (Qjd ha2) (Qa (jDj a) QL))))
  cases h;exact rx 83 [b0] [] [4,6,8] [0,4,13,43,82] (Qa (jEj a) QL)
def Qjz (n:Nat)(a0:Int)(a1:jVj):Option (Int×jSj×jVj×jVj×jSj×Bool) := (QiO n a1 false).bind fun a=>if(VY (.string a.1) Wr).isSome=true then((VY (.string a.1) Wr).bind J8).bind fun d=>(Q2 (QiQ n a0 a d) n (.inl ())).bind fun c=>match c with|.inl c=>((Q2 (QjM n a0 a d) n (.inl ())).bind fun b=>match b with|.inl b=>(if a.2.2=true then some (a0,a.1,[],[],⟨#[]⟩,false) else some (a0,a.1,[],[],⟨#[]⟩,(((a.2.1).length:Int)==0)))|.inr b=>(if b.2.1=true then some (a0,a.1,[],b.2.2,⟨#[]⟩,false) else some (a0,a.1,[],b.2.2,⟨#[]⟩,(((b.1).length:Int)==0))))|.inr c=>((Q2 (QjL n a0 a d c) n (.inl ())).bind fun b=>match b with|.inl b=>(if c.2.1=true then some (a0,a.1,c.2.2,[],⟨#[]⟩,false) else some (a0,a.1,c.2.2,[],⟨#[]⟩,(((c.1).length:Int)==0)))|.inr b=>(if b.2.1=true then some (a0,a.1,c.2.2,b.2.2,⟨#[]⟩,false) else some (a0,a.1,c.2.2,b.2.2,⟨#[]⟩,(((b.1).length:Int)==0)))) else some (0,⟨#[]⟩,[],[],⟨#[]⟩,false)
theorem QlD {n a0 a1 r}(h:Qjz n a0 a1=some r):Computes cx 42 [I a0,.lst false 1 a1] (.tup [.agg [I r.1,Qr5 r.2.1,.lst false 1 r.2.2.1,.lst false 1 r.2.2.2.1,Qr5 r.2.2.2.2.1],B r.2.2.2.2.2]):=by
 unfold Qjz at h;have⟨t1,h1,h⟩:=bo h;have q:=Qa (Qjj h1) QL;let o(l:jOj):=.obj (some 4) (.d (Qr5 t1.1)) [.dat (.lst false 1 t1.2.1),.dat (B t1.2.2)] []::b1::(no 28 l);obtain⟨e,h⟩|⟨e,h⟩:=io h
 ·have⟨t3,h3,h⟩:=bo h;have q:=Qa ((QbG (by kernel_rfl) (Qdv yf h3)):Zi true (.string t1.1) (.agg [Qr5 ⟨#[]⟩,I 0,.v (.nilFunc),.v (.nilFunc)]) Wr=some (.tup [.agg [Qr5 t3.1,I t3.2.1,.fn t3.2.2.1.1 t3.2.2.1.2.1 t3.2.2.1.2.2,.fn t3.2.2.2.1 t3.2.2.2.2.1 t3.2.2.2.2.2],B true])) q;let o l:=o (.el (.tup [.agg [Qr5 t3.1,I t3.2.1,.fn t3.2.2.1.1 t3.2.2.1.2.1 t3.2.2.1.2.2,.fn t3.2.2.2.1 t3.2.2.2.2.1 t3.2.2.2.2.2],B true])::.no::l);have⟨c,h4,h⟩:=bo h;obtain c|c:=c
  ·have q:=Qa (QH Qj2 h4) q;let o l:=o (.lp [] [4,6,7,8,9,34] [0,4,13,24,31] (.exit 0) [(4,.ptr 0 0 0 0 0),(6,.ptr 4 0 0 0 0),(8,.ptr 13 0 0 0 0),(9,.ptr 24 0 0 0 0)] [(0,.box (.d Qr6)),(4,.box (.d (.agg [.lst false 1 t1.2.1,B t1.2.2]))),(13,.box (.d (.agg [I a0,Qr5 t1.1,.lst true 0 [],.lst true 0 [],Qr5 ⟨#[]⟩]))),(24,.box (.d (.agg [Qr5 t3.1,I t3.2.1,.fn t3.2.2.1.1 t3.2.2.1.2.1 t3.2.2.1.2.2,.fn t3.2.2.2.1 t3.2.2.2.2.1 t3.2.2.2.2.2])))] 69::l);have⟨a,h5,h⟩:=bo h;obtain a|a:=a
   ·have q:=Qa (QH Qj1 h5) q;let o l:=o (.lp [] [4,6,8,46,47] [0,4,13] (.exit 2) [(4,.ptr 0 0 0 0 0),(6,.ptr 4 0 0 0 0),(8,.ptr 13 0 0 0 0)] [(0,.box (.d Qr6)),(4,.box (.d (.agg [.lst false 1 t1.2.1,B t1.2.2]))),(13,.box (.d (.agg [I a0,Qr5 t1.1,.lst true 0 [],.lst true 0 [],Qr5 ⟨#[]⟩])))] 109::l);obtain⟨b,h⟩|⟨b,h⟩:=io h
    ·cases h;exact(rf (r:=.tup [.agg [I a0,Qr5 t1.1,.lst true 0 [],.lst true 0 [],Qr5 ⟨#[]⟩],B false]) (o [b0]) (Qa (Ud b) q)).le (LEs.refl _) (.tups (.cons (.aggs (.cons (.refl _) (.cons (.refl _) (.cons (.nilF) (.cons (.nilF) (.cons (.refl _) (.nil))))))) (.cons (.refl _) (.nil))))
    cases h;exact(rf (r:=.tup [.agg [I a0,Qr5 t1.1,.lst true 0 [],.lst true 0 [],Qr5 ⟨#[]⟩],B (((t1.2.1).length:Int)==0)]) (o [b1]) (Qa (Uc (QA b)) q)).le (LEs.refl _) (.tups (.cons (.aggs (.cons (.refl _) (.cons (.refl _) (.cons (.nilF) (.cons (.nilF) (.cons (.refl _) (.nil))))))) (.cons (.refl _) (.nil))))
   have q:=Qa (QH Qj1 h5) q;let o l:=o (.lp [] [4,6,8,46,47] [0,4,13] (.exit 2) [(4,.ptr 0 0 0 0 0),(6,.ptr 4 0 0 0 0),(8,.ptr 13 0 0 0 0)] [(0,.box (.d Qr6)),(4,.box (.d (.agg [.lst false 1 a.1,B a.2.1]))),(13,.box (.agg [.d (I a0),.d (Qr5 t1.1),.d (.lst true 0 []),.own 82 0,.d (Qr5 ⟨#[]⟩)])),(82,.row 0 1 a.2.2)] 109::l);obtain⟨b,h⟩|⟨b,h⟩:=io h
   ·cases h;exact(rf (r:=.tup [.agg [I a0,Qr5 t1.1,.lst true 0 [],.lst false 1 a.2.2,Qr5 ⟨#[]⟩],B false]) (o [b0]) (Qa (Ud b) q)).le (LEs.refl _) (.tups (.cons (.aggs (.cons (.refl _) (.cons (.refl _) (.cons (.nilF) (.cons (.refl _) (.cons (.refl _) (.nil))))))) (.cons (.refl _) (.nil))))
   cases h;exact(rf (r:=.tup [.agg [I a0,Qr5 t1.1,.lst true 0 [],.lst false 1 a.2.2,Qr5 ⟨#[]⟩],B (((a.1).length:Int)==0)]) (o [b1]) (Qa (Uc (QA b)) q)).le (LEs.refl _) (.tups (.cons (.aggs (.cons (.refl _) (.cons (.refl _) (.cons (.nilF) (.cons (.refl _) (.cons (.refl _) (.nil))))))) (.cons (.refl _) (.nil))))
  have q:=Qa (QH Qj2 h4) q;let o l:=o (.lp [] [4,6,7,8,9,34] [0,4,13,24,31] (.exit 0) [(4,.ptr 0 0 0 0 0),(6,.ptr 4 0 0 0 0),(8,.ptr 13 0 0 0 0),(9,.ptr 24 0 0 0 0)] [(0,.box (.d Qr6)),(4,.box (.d (.agg [.lst false 1 c.1,B c.2.1]))),(13,.box (.agg [.d (I a0),.d (Qr5 t1.1),.own 43 0,.d (.lst true 0 []),.d (Qr5 ⟨#[]⟩)])),(24,.box (.d (.agg [Qr5 t3.1,I t3.2.1,.fn t3.2.2.1.1 t3.2.2.1.2.1 t3.2.2.1.2.2,.fn t3.2.2.2.1 t3.2.2.2.2.1 t3.2.2.2.2.2]))),(43,.row 0 1 c.2.2)] 69::l);have⟨a,h5,h⟩:=bo h;obtain a|a:=a
  ·have q:=Qa (QH Qj0 h5) q;let o l:=o (.lp [] [4,6,8,46,47] [0,4,13,43] (.exit 2) [(4,.ptr 0 0 0 0 0),(6,.ptr 4 0 0 0 0),(8,.ptr 13 0 0 0 0)] [(0,.box (.d Qr6)),(4,.box (.d (.agg [.lst false 1 c.1,B c.2.1]))),(13,.box (.agg [.d (I a0),.d (Qr5 t1.1),.own 43 0,.d (.lst true 0 []),.d (Qr5 ⟨#[]⟩)])),(43,.row 0 1 c.2.2)] 109::l);obtain⟨b,h⟩|⟨b,h⟩:=io h
   ·cases h;exact(rf (r:=.tup [.agg [I a0,Qr5 t1.1,.lst false 1 c.2.2,.lst true 0 [],Qr5 ⟨#[]⟩],B false]) (o [b0]) (Qa (Ud b) q)).le (LEs.refl _) (.tups (.cons (.aggs (.cons (.refl _) (.cons (.refl _) (.cons (.refl _) (.cons (.nilF) (.cons (.refl _) (.nil))))))) (.cons (.refl _) (.nil))))
   cases h;exact(rf (r:=.tup [.agg [I a0,Qr5 t1.1,.lst false 1 c.2.2,.lst true 0 [],Qr5 ⟨#[]⟩],B (((c.1).length:Int)==0)]) (o [b1]) (Qa (Uc (QA b)) q)).le (LEs.refl _) (.tups (.cons (.aggs (.cons (.refl _) (.cons (.refl _) (.cons (.refl _) (.cons (.nilF) (.cons (.refl _) (.nil))))))) (.cons (.refl _) (.nil))))
  have q:=Qa (QH Qj0 h5) q;let o l:=o (.lp [] [4,6,8,46,47] [0,4,13,43] (.exit 2) [(4,.ptr 0 0 0 0 0),(6,.ptr 4 0 0 0 0),(8,.ptr 13 0 0 0 0)] [(0,.box (.d Qr6)),(4,.box (.d (.agg [.lst false 1 a.1,B a.2.1]))),(13,.box (.agg [.d (I a0),.d (Qr5 t1.1),.own 43 0,.own 82 0,.d (Qr5 ⟨#[]⟩)])),(43,.row 0 1 c.2.2),(82,.row 0 1 a.2.2)] 109::l);obtain⟨b,h⟩|⟨b,h⟩:=io h
  ·cases h;exact rf (o [b0]) (Qa (Ud b) q)
  cases h;exact rf (o [b1]) (Qa (Uc (QA b)) q)
 cases h;exact(rf (r:=.tup [.agg [I 0,Qr5 ⟨#[]⟩,.lst true 0 [],.lst true 0 [],Qr5 ⟨#[]⟩],B false]) (o [.el (.tup [.agg [Qr5 ⟨#[]⟩,I 0,.v (.nilFunc),.v (.nilFunc)],B false]),.no]) (Qa ((QaB (by kernel_rfl) (mno e)):Zi true (.string t1.1) (.agg [Qr5 ⟨#[]⟩,I 0,.v (.nilFunc),.v (.nilFunc)]) Wr=some (.tup [.agg [Qr5 ⟨#[]⟩,I 0,.v (.nilFunc),.v (.nilFunc)],B false])) q)).le (LEs.refl _) (.tups (.cons (.aggs (.cons (.refl _) (.cons (.refl _) (.cons (.nilF) (.cons (.nilF) (.cons (.refl _) (.nil))))))) (.cons (.refl _) (.nil))))
def Qi3 (n:Nat)(a0:jSj)(a1:Int):Option (Int×jSj×jVj×jVj×jSj×Int) := if Qh ((a0.size:Int) - 7) then if Qh (((a0.size:Int) - 7) - 1) then if(((a0.size:Int) - 7) - 1)<0 then some (0,⟨#[]⟩,[],[],⟨#[]⟩,25) else(WQ a0 (((a0.size:Int) - 7) - 1)).bind fun j=>if j=35 then if Qh ((((a0.size:Int) - 7) - 1)+1) then(Qi7 a0 (some ((((a0.size:Int) - 7) - 1)+1)) none).bind fun i=>(Qjr n i (⟨#[48,49,50,51,52,53,54,55,56,57]⟩)).bind fun k=>if(!(k.toList==(⟨#[]⟩:jSj).toList))=true then some (0,⟨#[]⟩,[],[],⟨#[]⟩,25) else(Qi7 a0 none (some (((a0.size:Int) - 7) - 1))).bind fun d=>(Qi5 n d).bind fun e=>if(!(e.toList==i.toList))=true then some (0,⟨#[]⟩,[],[],⟨#[]⟩,27) else(Qjn n d).bind fun b=>(el Ww b 0).bind fun f=>(Qjb n f).bind fun c=>if(0:Int)<=1/\1<=((b).length:Int)/\((b).length:Int)<=((b).length:Int)/\(b=[]\/1=1) then(Qjz n c.1 (b.drop (Int.toNat 1))).bind fun a=>if c.2=true then if a.2.2.2.2.2=true then(WX n a.1 a.2.1 a.2.2.1 a.2.2.2.1 a.2.2.2.2.1).bind fun g=>if g=0 then(Qm n (c.1 != a1) 11).bind fun h=>some (a.1,a.2.1,a.2.2.1,a.2.2.2.1,a.2.2.2.2.1,h) else some (0,⟨#[]⟩,[],[],⟨#[]⟩,25) else some (0,⟨#[]⟩,[],[],⟨#[]⟩,25) else some (0,⟨#[]⟩,[],[],⟨#[]⟩,25) else none else none else some (0,⟨#[]⟩,[],[],⟨#[]⟩,25) else none else none
theorem Ql3 {n a0 a1 r}(h:Qi3 n a0 a1=some r):Computes cx 72 [Qr5 a0,I a1] (.tup [.agg [I r.1,Qr5 r.2.1,.lst false 1 r.2.2.1,.lst false 1 r.2.2.2.1,Qr5 r.2.2.2.2.1],I r.2.2.2.2.2]):=by
 unfold Qi3 at h;have⟨h1,h⟩:=gd h;have⟨h2,h⟩:=gd h;have q:=Qa h2 (Qa h1 QL);obtain⟨f,h⟩|⟨f,h⟩:=io h
 ·cases h;exact(rf (r:=.tup [.agg [I 0,Qr5 ⟨#[]⟩,.lst true 0 [],.lst true 0 [],Qr5 ⟨#[]⟩],I 25]) [b1,.no,.no] (Qa (jDj f) q)).le (LEs.refl _) (.tups (.cons (.aggs (.cons (.refl _) (.cons (.refl _) (.cons (.nilF) (.cons (.nilF) (.cons (.refl _) (.nil))))))) (.cons (.refl _) (.nil))))
 have⟨t4,k,h⟩:=bo h;have q:=Qa (Zq k:QV cx.P (Instr.index 9 (.string a0) (.int .i64 (((a0.size:Int) - 7) - 1)))=some (.int .u8 t4)) (Qa (jEj f) q);let o(l:jOj):=b0::.el (.v (.int .u8 t4))::l;obtain⟨g,h⟩|⟨g,h⟩:=io h
 ·have⟨h6,h⟩:=gd h;have⟨t7,j,h⟩:=bo h;have⟨t8,h8,h⟩:=bo h;have q:=Qa (Qln h8) (Qa (QiU j:QV cx.P (Instr.sliceAt 9 (.string a0) (some (.int .i64 ((((a0.size:Int) - 7) - 1)+1))) none none)=some (.string t7)) (Qa h6 (Qa (nef g) q)));let o l:=o (b0::.el (Qr5 t7)::.ret (Qr5 t8)::l);obtain⟨i,h⟩|⟨i,h⟩:=io h
  ·cases h;exact(rf (r:=.tup [.agg [I 0,Qr5 ⟨#[]⟩,.lst true 0 [],.lst true 0 [],Qr5 ⟨#[]⟩],I 25]) (o [b1]) (Qa i q)).le (LEs.refl _) (.tups (.cons (.aggs (.cons (.refl _) (.cons (.refl _) (.cons (.nilF) (.cons (.nilF) (.cons (.refl _) (.nil))))))) (.cons (.refl _) (.nil))))
  have⟨t10,e,h⟩:=bo h;have⟨t11,h11,h⟩:=bo h;have q:=Qa (QiU j:QV cx.P (Instr.sliceAt 9 (.string a0) (some (.int .i64 ((((a0.size:Int) - 7) - 1)+1))) none none)=some (.string t7)) (Qa h6 (Qa (QjY h11) (Qa (QiU e:QV cx.P (Instr.sliceAt 9 (.string a0) none (some (.int .i64 (((a0.size:Int) - 7) - 1))) none)=some (.string t10)) (Qa (QA i) q))));let o l:=o (b0::.el (Qr5 t10)::.ret (Qr5 t11)::.el (Qr5 t7)::l);obtain⟨a,h⟩|⟨a,h⟩:=io h
  ·cases h;exact(rf (r:=.tup [.agg [I 0,Qr5 ⟨#[]⟩,.lst true 0 [],.lst true 0 [],Qr5 ⟨#[]⟩],I 27]) (o [b1]) (Qa a q)).le (LEs.refl _) (.tups (.cons (.aggs (.cons (.refl _) (.cons (.refl _) (.cons (.nilF) (.cons (.nilF) (.cons (.refl _) (.nil))))))) (.cons (.refl _) (.nil))))
  have⟨t13,h13,h⟩:=bo h;have⟨t14,h14,h⟩:=bo h;have⟨t15,h15,h⟩:=bo h;have⟨h16,h⟩:=gd h;have⟨t17,h17,h⟩:=bo h;have q:=Qa (QlD h17) (Qa h16 (Qa (Qj6 h15) (allE Qr h14 (Qa (QkW h13) (Qa (QiU e:QV cx.P (Instr.sliceAt 9 (.string a0) none (some (.int .i64 (((a0.size:Int) - 7) - 1))) none)=some (.string t10)) (Qa (QA a) q))))));let o l:=o (b0::.el (Qr5 t10)::.ret (.lst false 1 t13)::.el (Zy t14)::.ret (.tup [I t15.1,B t15.2])::b1::.ret (.tup [.agg [I t17.1,Qr5 t17.2.1,.lst false 1 t17.2.2.1,.lst false 1 t17.2.2.2.1,Qr5 t17.2.2.2.2.1],B t17.2.2.2.2.2])::l);obtain⟨b,h⟩|⟨b,h⟩:=io h
  ·have q:=Qa (Ud b) q;obtain⟨c,h⟩|⟨c,h⟩:=io h
   ·have⟨t20,h20,h⟩:=bo h;have q:=Qa (Ja h20) (Qa (Ud c) q);let o l:=o (b0::b0::.ret (I t20)::l);obtain⟨d,h⟩|⟨d,h⟩:=io h
    ·have⟨t22,h22,h⟩:=bo h;cases h;exact rf (o [b0,.ret (I t22)]) (Qa (Qu h22) (Qa (nef d) q))
    cases h;exact(rf (r:=.tup [.agg [I 0,Qr5 ⟨#[]⟩,.lst true 0 [],.lst true 0 [],Qr5 ⟨#[]⟩],I 25]) (o [b1]) (Qa (net d) q)).le (LEs.refl _) (.tups (.cons (.aggs (.cons (.refl _) (.cons (.refl _) (.cons (.nilF) (.cons (.nilF) (.cons (.refl _) (.nil))))))) (.cons (.refl _) (.nil))))
   cases h;exact(rf (r:=.tup [.agg [I 0,Qr5 ⟨#[]⟩,.lst true 0 [],.lst true 0 [],Qr5 ⟨#[]⟩],I 25]) (o [b0,b1,.no]) (Qa (Uc (QA c)) q)).le (LEs.refl _) (.tups (.cons (.aggs (.cons (.refl _) (.cons (.refl _) (.cons (.nilF) (.cons (.nilF) (.cons (.refl _) (.nil))))))) (.cons (.refl _) (.nil))))
  cases h;exact(rf (r:=.tup [.agg [I 0,Qr5 ⟨#[]⟩,.lst true 0 [],.lst true 0 [],Qr5 ⟨#[]⟩],I 25]) (o [b1,.no,.no]) (Qa (Uc (QA b)) q)).le (LEs.refl _) (.tups (.cons (.aggs (.cons (.refl _) (.cons (.refl _) (.cons (.nilF) (.cons (.nilF) (.cons (.refl _) (.nil))))))) (.cons (.refl _) (.nil))))
 cases h;exact(rf (r:=.tup [.agg [I 0,Qr5 ⟨#[]⟩,.lst true 0 [],.lst true 0 [],Qr5 ⟨#[]⟩],I 25]) (o [b1,.no]) (Qa (net g) q)).le (LEs.refl _) (.tups (.cons (.aggs (.cons (.refl _) (.cons (.refl _) (.cons (.nilF) (.cons (.nilF) (.cons (.refl _) (.nil))))))) (.cons (.refl _) (.nil))))
def QiP (n:Nat)(a0:jSj)(b:(Int×jVj)):Option (Int×jVj⊕Int×Int×jVj⊕Int×jVj) := if b.1<(a0.size:Int) then(Qi7 a0 (some b.1) none).bind fun d=>(Qjg n d).bind fun c=>if c.2.2=true then if Qh (((b.2).length:Int)+1) then(Qi3 n c.1 (((b.2).length:Int)+1)).bind fun a=>if a.2.2.2.2.2=0 then if Wa 88 ((b.2).length+1) then if Qh ((c.1.size:Int)+1) then if Qh (b.1+((c.1.size:Int)+1)) then some (.inl ((b.1+((c.1.size:Int)+1)),(b.2++([.agg [I a.1,.v (.string a.2.1),.lst false 1 a.2.2.1,.lst false 1 a.2.2.2.1,.v (.string a.2.2.2.2.1)]]:jVj)))) else none else none else none else some (.inr (.inl (b.1,a.2.2.2.2.2,b.2))) else none else some (.inr (.inl (b.1,28,b.2))) else some (.inr (.inr (b.1,b.2)))
noncomputable def Qkv (a0:jSj):Lp (Int×jVj) (Int×Int×jVj⊕Int×jVj):=⟨fun a=>[(0,.d (Qr5 a0)),(5,.own 8 0),(6,.d (I a.1))],fun a=>[(8,.row 0 5 a.2)],fun
 | (.inl e)=>.ret
 | (.inr e)=>(.exit 0),fun
 | (.inl e)=>[(2,.own 8 0),(3,.d (I e.1)),(4,.d (I e.2.1))]
 | (.inr e)=>[(5,.own 8 0),(6,.d (I e.1))],fun
 | (.inl e)=>[(8,.row 0 5 e.2.2)]
 | (.inr e)=>[(8,.row 0 5 e.2)]⟩
theorem QjU {n a0}(e)(r)(h:QiP n a0 e=some r):Rl (ZJ cx.P 24 0) 55 0 false (Qkv a0) e r:=by
 unfold QiP at h;obtain⟨a,h⟩|⟨a,h⟩:=io h
 ·have⟨ta2,d,h⟩:=bo h;have⟨ta3,ha3,h⟩:=bo h;have q:=Qa (QlC ha3) (Qa (QiU d:QV cx.P (Instr.sliceAt 9 (.string a0) (some (.int .i64 e.1)) none none)=some (.string ta2)) (Qa (jDj a) QL));let o(l:jOj):=b1::.el (Qr5 ta2)::.ret (.tup [Qr5 ta3.1,Qr5 ta3.2.1,B ta3.2.2])::l;obtain⟨b,h⟩|⟨b,h⟩:=io h
  ·have⟨ha5,h⟩:=gd h;have⟨ta6,ha6,h⟩:=bo h;have q:=Qa (Ql3 ha6) (Qa ha5 (Qa (Ud b) q));let o l:=o (b0::.ret (.tup [.agg [I ta6.1,Qr5 ta6.2.1,.lst false 1 ta6.2.2.1,.lst false 1 ta6.2.2.2.1,Qr5 ta6.2.2.2.2.1],I ta6.2.2.2.2.2])::l);obtain⟨c,h⟩|⟨c,h⟩:=io h
   ·have⟨ha8,h⟩:=gd h;have⟨ha9,h⟩:=gd h;have⟨ha10,h⟩:=gd h;cases h;exact rn 9 (o [b0,b1]) [] [0,5,6] [8] (Qa ha10 (Qa ha9 (Qa (ro 39 ha8) (Qa (nef c) q))))
   cases h;exact rx 9 (o [b1]) [] [2,3,4] [8] (Qa (net c) q)
  cases h;exact rx 9 (o [b1]) [] [2,3,4] [8] (Qa (Uc (QA b)) q)
 cases h;exact rx 9 [b0] [] [5,6] [8] (Qa (jEj a) QL)
def Qjc (n:Nat)(a0:jSj):Option (jVj×Int×Int) := if(a0.size:Int)>1000000 then some ([],0,26) else(Q2 (QiP n a0) n (0,[])).bind fun a=>match a with|.inl a=>(some (a.2.2,a.1,a.2.1))|.inr a=>(some (a.2,a.1,0))
theorem Qj7 {n a0 r}(h:Qjc n a0=some r):Computes cx 24 [Qr5 a0] (.tup [.lst false 5 r.1,I r.2.1,I r.2.2]):=by
 unfold Qjc at h;obtain⟨b,h⟩|⟨b,h⟩:=io h
 ·cases h;exact(rf (r:=.tup [.lst true 0 [],I 0,I 26]) [b1] (Qa (jDj b) QL)).le (LEs.refl _) (.tups (.cons (.nilF) (.cons (.refl _) (.cons (.refl _) (.nil)))))
 have q:=Qa (jEj b) QL;have⟨a,h2,h⟩:=bo h;obtain a|a:=a
 ·cases h;exact rf [b0,.lp [5,5] [0,5,6] [8] .ret [(2,.own 8 0),(3,.d (I a.1)),(4,.d (I a.2.1))] [(8,.row 0 5 a.2.2)] 61] (Qa (QH QjU h2) q)
 cases h;exact rf [b0,.lp [5,5] [0,5,6] [8] (.exit 0) [(5,.own 8 0),(6,.d (I a.1))] [(8,.row 0 5 a.2)] 61] (Qa (QH QjU h2) q)
def QiS (n:Nat)(a0:jVj)(a:(Int×jVj)):Option (Int×jVj⊕jVj) := if a.1<((a0).length:Int) then(el Vt a0 a.1).bind fun b=>(Jk n b).bind fun c=>if Wa 16 ((a.2).length+1) then if Qh (a.1+1) then some (.inl ((a.1+1),(a.2++([.v (.string c)]:jVj)))) else none else none else some (.inr a.2)
noncomputable def Qkc (a0:jVj):Lp (Int×jVj) (jVj):=⟨fun a=>[(1,.d (.fn (.func 46) [] [])),(5,.own 5 0),(8,.d (.lst false 1 a0)),(9,.d (I ((a0).length:Int))),(10,.d (I a.1))],fun a=>[(5,.row 0 1 a.2)],fun _=>(.exit 0),fun _=>[(5,.own 5 0)],fun e=>[(5,.row 0 1 e)]⟩
theorem Qka {n a0}(b)(r)(h:QiS n a0 b=some r):Rl (ZJ cx.P 91 0) 22 0 false (Qkc a0) b r:=by
 unfold QiS at h;obtain⟨a,h⟩|⟨a,h⟩:=io h
 ·have⟨ta2,ha2,h⟩:=bo h;have⟨ta3,ha3,h⟩:=bo h;have⟨ha4,h⟩:=gd h;have⟨ha5,h⟩:=gd h;cases h;exact rn 6 [b1,.el (Q3 ta2),.ret (Qr5 ta3),b1] [] [1,5,8,9,10] [5] (Qa ha5 (Qa (ro 9 ha4) (Qa (jd ha3) (allE Qi ha2 (Qa (jDj a) QL)))))
 cases h;exact rx 6 [b0] [] [5] [5] (Qa (jEj a) QL)
def QiX (n:Nat)(a0:jVj):Option (jVj) := (Q2 (QiS n a0) n (0,[])).bind fun a=>some a
theorem QjQ {n a0 r}(h:QiX n a0=some r):Computes cx 91 [.lst false 1 a0,.fn (.func 46) [] []] (.lst false 1 r):=by unfold QiX at h;have⟨t1,h1,h⟩:=bo h;obtain rfl:=oi h;exact rf [.lp [5,1] [1,5,8,9,10] [5] (.exit 0) [(5,.own 5 0)] [(5,.row 0 1 t1)] 30] (Qa (QH Qka h1) QL)
def QjI (n:Nat)(a0:Int)(a1:jSj)(a2 a3:jVj)(a4:jSj):Option (jSj) := (Jk n a0).bind fun b=>if Wa 16 (2+(a2).length) then if UF a2=true then(QiX n a3).bind fun a=>if Wa 16 (2+(a).length) then if UF a=true then(Jj n ([.v (.string b),.v (.string a1)]) (⟨#[32]⟩)).bind fun c=>some c else(Jj n (.v (.string b)::(.v (.string a1)::a)) (⟨#[32]⟩)).bind fun c=>some c else none else(QiX n a3).bind fun a=>if Wa 16 (((.v (.string b)::(.v (.string a1)::a2)):jVj).length+(a).length) then(Jj n (.v (.string b)::(.v (.string a1)::(a2++a))) (⟨#[32]⟩)).bind fun d=>some d else none else none
theorem Ql4 {n a0 a1 a2 a3 a4 r}(h:QjI n a0 a1 a2 a3 a4=some r):Computes cx 157 [.agg [I a0,Qr5 a1,.lst false 1 a2,.lst false 1 a3,Qr5 a4]] (Qr5 r):=by
 unfold QjI at h;have⟨b,h1,h⟩:=bo h;have⟨h2,h⟩:=gd h;have q:=Qa (ro 9 h2) (Qa (jd h1) QL);let o(l:jOj):=.ret (Qr5 b)::b1::l;obtain⟨c,h⟩|⟨c,h⟩:=io h
 ·have⟨t4,h4,h⟩:=bo h;have⟨h5,h⟩:=gd h;have q:=Qa (ro 9 h5) (Qa (QjQ h4) (Qa c q));let o l:=o (b1::.ret (.lst false 1 t4)::b1::l);obtain⟨a,h⟩|⟨a,h⟩:=io h
  ·have⟨t7,h7,h⟩:=bo h;obtain rfl:=oi h;exact rf (o [b1,.ret (Qr5 t7)]) (Qa (((jc h7).le (.cons (.full _ _ _) (.cons (.refl _) (.nil))) (.refl _)):Computes cx 50 [.lst true 1 [Qr5 b,Qr5 a1],Qr5 ⟨#[32]⟩] (Qr5 t7)) (Qa a q))
  have⟨t7,h7,h⟩:=bo h;obtain rfl:=oi h;exact rf (o [b0,.ret (Qr5 t7)]) (Qa ((jc h7):Computes cx 50 [.lst false 1 (Qr5 b::(Qr5 a1::t4)),Qr5 ⟨#[32]⟩] (Qr5 t7)) (Qa (QA a) q))
 have⟨t4,h4,h⟩:=bo h;have⟨h5,h⟩:=gd h;have⟨t6,a,h⟩:=bo h;obtain rfl:=oi h;exact rf (o [b0,.ret (.lst false 1 t4),b1,.ret (Qr5 t6)]) (Qa ((jc a):Computes cx 50 [.lst false 1 (Qr5 b::(Qr5 a1::(a2++t4))),Qr5 ⟨#[32]⟩] (Qr5 t6)) (Qa (ro 9 h5) (Qa (QjQ h4) (Qa (QA c) q))))
def Qjv (n:Nat)(a0:Int)(a1:jSj)(a2 a3:jVj)(a4:jSj):Option (jSj) := (QjI n a0 a1 a2 a3 a4).bind fun a=>if a.size+(⟨#[35]⟩:jSj).size<=9223372036854775807 then(Qi5 n a).bind fun b=>if(a++(⟨#[35]⟩:jSj)).size+b.size<=9223372036854775807 then if((a++(⟨#[35]⟩:jSj))++b).size+(⟨#[10]⟩:jSj).size<=9223372036854775807 then some (((a++(⟨#[35]⟩:jSj))++b)++(⟨#[10]⟩:jSj)) else none else none else none
theorem Qlr {n a0 a1 a2 a3 a4 r}(h:Qjv n a0 a1 a2 a3 a4=some r):Computes cx 52 [.agg [I a0,Qr5 a1,.lst false 1 a2,.lst false 1 a3,Qr5 a4]] (Qr5 r):=by unfold Qjv at h;have⟨t1,h1,h⟩:=bo h;have⟨h2,h⟩:=gd h;have⟨t3,h3,h⟩:=bo h;have⟨h4,h⟩:=gd h;have⟨h5,h⟩:=gd h;cases h;exact rf [.ret (Qr5 t1),.ret (Qr5 t3)] (Qa h5 (Qa h4 (Qa (QjY h3) (Qa h2 (Qa (Ql4 h1) QL)))))
def QiR (n:Nat)(a0:jSj)(b:Int):Option (Int⊕Unit⊕Unit) := if b<(a0.size:Int) then(WQ a0 b).bind fun a=>if a<48 then some (.inr (.inl ())) else if a>57 then some (.inr (.inl ())) else if Qh (b+1) then some (.inl (b+1)) else none else some (.inr (.inr ()))
noncomputable def QkG (a0:jSj):Lp (Int) (Unit⊕Unit):=⟨fun a=>[(0,.d (Qr5 a0)),(3,.d (I a))],fun _=>[],fun
 | (.inl e)=>.ret
 | (.inr e)=>(.exit 0),fun
 | (.inl e)=>[(2,.d (B false))]
 | (.inr e)=>[(0,.d (Qr5 a0))],fun _=>[]⟩
theorem QjV {n a0}(e)(r)(h:QiR n a0 e=some r):Rl (ZJ cx.P 73 0) 23 0 false (QkG a0) e r:=by
 unfold QiR at h;obtain⟨a,h⟩|⟨a,h⟩:=io h
 ·have⟨ta2,d,h⟩:=bo h;have q:=Qa (Zq d:QV cx.P (Instr.index 9 (.string a0) (.int .i64 e))=some (.int .u8 ta2)) (Qa (jDj a) QL);let o(l:jOj):=b1::.el (.v (.int .u8 ta2))::l;obtain⟨b,h⟩|⟨b,h⟩:=io h
  ·cases h;exact rx 2 (o [b1,.no]) [] [2] [] (Qa (jDj b) q)
  have q:=Qa (Zq d:QV cx.P (Instr.index 9 (.string a0) (.int .i64 e))=some (.int .u8 ta2)) (Qa (jEj b) q);let o l:=o (b0::.el (.v (.int .u8 ta2))::l);obtain⟨c,h⟩|⟨c,h⟩:=io h
  ·cases h;exact rx 2 (o [b1]) [] [2] [] (Qa (jDj c) q)
  have⟨ha5,h⟩:=gd h;cases h;exact rn 2 (o [b0]) [] [0,3] [] (Qa ha5 (Qa (jEj c) q))
 cases h;exact rx 2 [b0] [] [0] [] (Qa (jEj a) QL)
def Qjt (n:Nat)(a0:jSj):Option (Bool) := (Q2 (QiR n a0) n 0).bind fun a=>match a with|.inl a=>(some false)|.inr a=>(some ((a0.size:Int)==7))
theorem Qlp {n a0 r}(h:Qjt n a0=some r):Computes cx 73 [Qr5 a0] (B r):=by
 unfold Qjt at h;have⟨a,h1,h⟩:=bo h;obtain a|a:=a
 ·obtain rfl:=oi h;exact rf [.lp [] [0,3] [] .ret [(2,.d (B false))] [] 30] (Qa (QH QjV h1) QL)
 cases h;exact rf [.lp [] [0,3] [] (.exit 0) [(0,.d (Qr5 a0))] [] 30] (Qa (QH QjV h1) QL)
def QiW (n:Nat)(a0:Int)(a:(jSj×Int)):Option (jSj×Int⊕jSj) := if a.2=0 then some (.inr a.1) else if(Int.tmod a.2 10)<0 then if Qh (0 - (Int.tmod a.2 10)) then if Qh (48+(0 - (Int.tmod a.2 10))) then if(Utf8.encode (IntKind.wrap .i32 (48+(0 - (Int.tmod a.2 10))))).size+a.1.size<=9223372036854775807 then if Qh (Int.tdiv a.2 10) then some (.inl (((Utf8.encode (IntKind.wrap .i32 (48+(0 - (Int.tmod a.2 10)))))++a.1),(Int.tdiv a.2 10))) else none else none else none else none else if Qh (48+(Int.tmod a.2 10)) then if(Utf8.encode (IntKind.wrap .i32 (48+(Int.tmod a.2 10)))).size+a.1.size<=9223372036854775807 then if Qh (Int.tdiv a.2 10) then some (.inl (((Utf8.encode (IntKind.wrap .i32 (48+(Int.tmod a.2 10))))++a.1),(Int.tdiv a.2 10))) else none else none else none
noncomputable def Qk5 (a0:Int):Lp (jSj×Int) (jSj):=⟨fun a=>[(0,.d (I a0)),(3,.d (Qr5 a.1)),(4,.d (I a.2))],fun _=>[],fun _=>(.exit 0),fun e=>[(0,.d (I a0)),(3,.d (Qr5 e))],fun _=>[]⟩
theorem Qk2 {n a0}(c)(r)(h:QiW n a0 c=some r):Rl (ZJ cx.P 84 0) 30 0 false (Qk5 a0) c r:=by
 unfold QiW at h;obtain⟨a,h⟩|⟨a,h⟩:=io h
 ·cases h;exact rx 6 [b0] [] [0,3] [] (Qa (nef a) QL)
 have q:=Qa ((by decide):(10:Int)≠0) (Qa (net a) QL);obtain⟨b,h⟩|⟨b,h⟩:=io h
 ·have⟨ha3,h⟩:=gd h;have⟨ha4,h⟩:=gd h;have⟨ha5,h⟩:=gd h;have⟨ha6,h⟩:=gd h;cases h;exact rn 6 [b1,b1] [] [0,3,4] [] (Qa ((by decide):(10:Int)≠0) (Qa ha6 (Qa ha5 (Qa ha4 (Qa ha3 (Qa (jDj b) q))))))
 have⟨ha3,h⟩:=gd h;have⟨ha4,h⟩:=gd h;have⟨ha5,h⟩:=gd h;cases h;exact rn 6 [b1,b0] [] [0,3,4] [] (Qa ((by decide):(10:Int)≠0) (Qa ha5 (Qa ha4 (Qa ha3 (Qa (jEj b) q)))))
def QjH (n:Nat)(a0:Int):Option (jSj) := if a0=0 then some ⟨#[48]⟩ else(Q2 (QiW n a0) n (⟨#[]⟩,a0)).bind fun a=>if a0<0 then if(⟨#[45]⟩:jSj).size+a.size<=9223372036854775807 then some ((⟨#[45]⟩:jSj)++a) else none else some a
theorem Ql2 {n a0 r}(h:QjH n a0=some r):Computes cx 84 [I a0] (Qr5 r):=by
 unfold QjH at h;obtain⟨a,h⟩|⟨a,h⟩:=io h
 ·cases h;exact rf [b1] (Qa (eqt a) QL)
 have⟨t2,h2,h⟩:=bo h;have q:=Qa (QH Qk2 h2) (Qa (eqf a) QL);let o(l:jOj):=b0::.lp [] [0,3,4] [] (.exit 0) [(0,.d (I a0)),(3,.d (Qr5 t2))] [] 37::l;obtain⟨b,h⟩|⟨b,h⟩:=io h
 ·have⟨h4,h⟩:=gd h;cases h;exact rf (o [b1]) (Qa h4 (Qa (jDj b) q))
 obtain rfl:=oi h;exact rf (o [b0]) (Qa (jEj b) q)
def Qjm (n:Nat)(a0:Int):Option (jSj) := (QjH n a0).bind fun a=>some a
theorem Qj3 {n a0 r}(h:Qjm n a0=some r):Computes cx 35 [I a0] (Qr5 r):=by unfold Qjm at h;have⟨t1,h1,h⟩:=bo h;obtain rfl:=oi h;exact rf [.ret (Qr5 t1)] (Qa (Ql2 h1) QL)
noncomputable def Qly (a0:jSj):Lp (Int×Int) (Int):=⟨fun a=>[(0,.d (Qr5 a0)),(3,.d (I a.1)),(4,.d (I a.2))],fun _=>[],fun _=>(.exit 0),fun e=>[(3,.d (I e))],fun _=>[]⟩
theorem Qlv {n a0}(c)(r)(h:Qjh n a0 c=some r):Rl (ZJ cx.P 26 0) 28 0 false (Qly a0) c r:=by
 unfold Qjh at h;obtain⟨a,h⟩|⟨a,h⟩:=io h
 ·have⟨ha2,h⟩:=gd h;have⟨ta3,b,h⟩:=bo h;have⟨ha4,h⟩:=gd h;have⟨ha5,h⟩:=gd h;cases h;exact rn 3 [b1,.el (.v (.int .u8 ta3))] [] [0,3,4] [] (Qa ha5 (Qa ((by decide):(9999649:Int)≠0) (Qa ha4 (Qa (Zq b:QV cx.P (Instr.index 9 (.string a0) (.int .i64 c.2))=some (.int .u8 ta3)) (Qa ha2 (Qa (jDj a) QL))))))
 cases h;exact rx 3 [b0] [] [3] [] (Qa (jEj a) QL)
def Qji (n:Nat)  (a:jSj):Option (jSj⊕jSj) := if(a.size:Int)<7 then if(⟨#[48]⟩:jSj).size+a.size<=9223372036854775807 then some (.inl ((⟨#[48]⟩:jSj)++a)) else none else some (.inr a)
noncomputable def Qlx  : Lp (jSj) (jSj):=⟨fun a=>[(5,.d (Qr5 a))],fun _=>[],fun _=>(.exit 2),fun e=>[(5,.d (Qr5 e))],fun _=>[]⟩
theorem Qlu {n:Nat}  (b:jSj)(r)(h:Qji n  b=some r):Rl (ZJ cx.P 26 1) 28 0 false (Qlx) b r:=by
 unfold Qji at h;obtain⟨a,h⟩|⟨a,h⟩:=io h
 ·have⟨ha2,h⟩:=gd h;cases h;exact rn 33 [b1] [] [5] [] (Qa ha2 (Qa (jDj a) QL))
 cases h;exact rx 33 [b0] [] [5] [] (Qa (jEj a) QL)
def QjC (n:Nat)(a0:jSj):Option (jSj) := (Q2 (Qjh n a0) n (1,0)).bind fun a=>(Qjm n a).bind fun b=>(Q2 (Qji n) n b).bind fun c=>some c
theorem QkV {n a0 r}(h:QjC n a0=some r):Computes cx 26 [Qr5 a0] (Qr5 r):=by unfold QjC at h;have⟨t1,h1,h⟩:=bo h;have⟨t2,h2,h⟩:=bo h;have⟨t3,h3,h⟩:=bo h;obtain rfl:=oi h;exact rf [.lp [] [0,3,4] [] (.exit 0) [(3,.d (I t1))] [] 30,.ret (Qr5 t2),.lp [] [5] [] (.exit 2) [(5,.d (Qr5 t3))] [] 50] (Qa (QH Qlu h3) (Qa (Qj3 h2) (Qa (QH Qlv h1) QL)))
def QiT (n:Nat)(a0:jSj)(a1:Int)(a:(Int×Int×jVj)):Option (Int×Int×jVj⊕Int×jVj) := if a.2.1<(a0.size:Int) then(WQ a0 a.2.1).bind fun b=>if b=a1 then(Qi7 a0 (some a.1) (some a.2.1)).bind fun c=>if Wa 16 ((a.2.2).length+1) then if Qh (a.2.1+1) then some (.inl ((a.2.1+1),(a.2.1+1),(a.2.2++([.v (.string c)]:jVj)))) else none else none else if Qh (a.2.1+1) then some (.inl (a.1,(a.2.1+1),a.2.2)) else none else some (.inr (a.1,a.2.2))
noncomputable def QkN (a0:jSj)(a1:Int):Lp (Int×Int×jVj) (Int×jVj):=⟨fun a=>[(0,.d (Qr5 a0)),(1,.d (.v (.int .u8 a1))),(5,.own 4 0),(6,.d (I a.1)),(7,.d (I a.2.1))],fun a=>[(4,.row 0 1 a.2.2)],fun _=>(.exit 0),fun e=>[(0,.d (Qr5 a0)),(5,.own 4 0),(6,.d (I e.1))],fun e=>[(4,.row 0 1 e.2)]⟩
theorem QkM {n a0 a1}(d)(r)(h:QiT n a0 a1 d=some r):Rl (ZJ cx.P 31 0) 34 0 false (QkN a0 a1) d r:=by
 unfold QiT at h;obtain⟨a,h⟩|⟨a,h⟩:=io h
 ·have⟨ta2,e,h⟩:=bo h;have q:=Qa (Zq e:QV cx.P (Instr.index 9 (.string a0) (.int .i64 d.2.1))=some (.int .u8 ta2)) (Qa (jDj a) QL);let o(l:jOj):=b1::.el (.v (.int .u8 ta2))::l;obtain⟨b,h⟩|⟨b,h⟩:=io h
  ·have⟨ta4,c,h⟩:=bo h;have⟨ha5,h⟩:=gd h;have⟨ha6,h⟩:=gd h;cases h;exact rn 5 (o [b1,.el (Qr5 ta4),b1]) [] [0,1,5,6,7] [4] (Qa ha6 (Qa ha6 (Qa (ro 9 ha5) (Qa (QiU c:QV cx.P (Instr.sliceAt 9 (.string a0) (some (.int .i64 d.1)) (some (.int .i64 d.2.1)) none)=some (.string ta4)) (Qa (eqt b) q)))))
  have⟨c,h⟩:=gd h;cases h;exact rn 5 (o [b0]) [] [0,1,5,6,7] [4] (Qa c (Qa (eqf b) q))
 cases h;exact rx 5 [b0] [] [0,5,6] [4] (Qa (jEj a) QL)
def Qi4 (n:Nat)(a0:jSj)(a1:Int):Option (jVj) := (Q2 (QiT n a0 a1) n (0,0,[])).bind fun a=>(Qi7 a0 (some a.1) none).bind fun b=>if Wa 16 ((a.2).length+1) then some (a.2++([.v (.string b)]:jVj)) else none
theorem Qko {n a0 a1 r}(h:Qi4 n a0 a1=some r):Computes cx 31 [Qr5 a0,.v (.int .u8 a1)] (.lst false 1 r):=by unfold Qi4 at h;have⟨t1,h1,h⟩:=bo h;have⟨t2,a,h⟩:=bo h;have⟨h3,h⟩:=gd h;cases h;exact rf [.lp [5,1] [0,1,5,6,7] [4] (.exit 0) [(0,.d (Qr5 a0)),(5,.own 4 0),(6,.d (I t1.1))] [(4,.row 0 1 t1.2)] 39,.el (Qr5 t2),b1] (Qa (ro 9 h3) (Qa (QiU a:QV cx.P (Instr.sliceAt 9 (.string a0) (some (.int .i64 t1.1)) none none)=some (.string t2)) (Qa (QH QkM h1) QL)))
def QiM (n:Nat)(a0:jSj)(b:(Int×Int)):Option (Int×Int⊕Unit⊕Int) := if b.2<(a0.size:Int) then(WQ a0 b.2).bind fun a=>if a<48 then some (.inr (.inl ())) else if a>57 then some (.inr (.inl ())) else if Qh (10*b.1) then if Qh ((10*b.1)+(IntKind.wrap .i64 (IntKind.wrap .u8 (a - 48)))) then if Qh (b.2+1) then some (.inl (((10*b.1)+(IntKind.wrap .i64 (IntKind.wrap .u8 (a - 48)))),(b.2+1))) else none else none else none else some (.inr (.inr b.1))
noncomputable def Qkt (a0:jSj):Lp (Int×Int) (Unit⊕Int):=⟨fun a=>[(0,.d (Qr5 a0)),(4,.d (I a.1)),(5,.d (I a.2))],fun _=>[],fun
 | (.inl e)=>.ret
 | (.inr e)=>(.exit 0),fun
 | (.inl e)=>[(2,.d (I 0)),(3,.d (B false))]
 | (.inr e)=>[(4,.d (I e))],fun _=>[]⟩
theorem Qjk {n a0}(e)(r)(h:QiM n a0 e=some r):Rl (ZJ cx.P 74 0) 49 0 false (Qkt a0) e r:=by
 unfold QiM at h;obtain⟨a,h⟩|⟨a,h⟩:=io h
 ·have⟨ta2,b,h⟩:=bo h;have q:=Qa (Zq b:QV cx.P (Instr.index 9 (.string a0) (.int .i64 e.2))=some (.int .u8 ta2)) (Qa (jDj a) QL);let o(l:jOj):=b1::.el (.v (.int .u8 ta2))::l;obtain⟨c,h⟩|⟨c,h⟩:=io h
  ·cases h;exact rx 22 (o [b1,.no]) [] [2,3] [] (Qa (jDj c) q)
  have q:=Qa (Zq b:QV cx.P (Instr.index 9 (.string a0) (.int .i64 e.2))=some (.int .u8 ta2)) (Qa (jEj c) q);let o l:=o (b0::.el (.v (.int .u8 ta2))::l);obtain⟨d,h⟩|⟨d,h⟩:=io h
  ·cases h;exact rx 22 (o [b1]) [] [2,3] [] (Qa (jDj d) q)
  have⟨ha5,h⟩:=gd h;have⟨ha6,h⟩:=gd h;have⟨ha7,h⟩:=gd h;cases h;exact rn 22 (o [b0,.el (.v (.int .u8 ta2))]) [] [0,4,5] [] (Qa ha7 (Qa ha6 (Qa (Zq b:QV cx.P (Instr.index 9 (.string a0) (.int .i64 e.2))=some (.int .u8 ta2)) (Qa ha5 (Qa (jEj d) q)))))
 cases h;exact rx 22 [b0] [] [4] [] (Qa (jEj a) QL)
def QiH (n:Nat)(a0:jSj):Option (Int×Bool) := if(a0.size:Int)=0 then some (0,false) else if(a0.size:Int)>9 then some (0,false) else if(a0.size:Int)>1 then(WQ a0 0).bind fun a=>if a=48 then some (0,false) else(Q2 (QiM n a0) n (0,0)).bind fun b=>match b with|.inl b=>(some (0,false))|.inr b=>(some (b,true)) else(Q2 (QiM n a0) n (0,0)).bind fun a=>match a with|.inl a=>(some (0,false))|.inr a=>(some (a,true))
theorem Qja {n a0 r}(h:QiH n a0=some r):Computes cx 74 [Qr5 a0] (.tup [I r.1,B r.2]):=by
 unfold QiH at h;obtain⟨e,h⟩|⟨e,h⟩:=io h
 ·cases h;exact rf [b1,.no,.no] (Qa (eqt e) QL)
 have q:=Qa (eqf e) QL;obtain⟨f,h⟩|⟨f,h⟩:=io h
 ·cases h;exact rf [b0,b1,.no] (Qa (jDj f) q)
 have q:=Qa (jEj f) q;let o(l:jOj):=b0::b0::l;obtain⟨g,h⟩|⟨g,h⟩:=io h
 ·have⟨a,b,h⟩:=bo h;have q:=Qa (Zq b:QV cx.P (Instr.index 9 (.string a0) (.int .i64 0))=some (.int .u8 a)) (Qa (jDj g) q);let o l:=o (b1::.el (.v (.int .u8 a))::l);obtain⟨i,h⟩|⟨i,h⟩:=io h
  ·cases h;exact rf (o [b1]) (Qa (eqt i) q)
  have q:=Qa (eqf i) q;have⟨c,h6,h⟩:=bo h;obtain c|c:=c
  ·cases h;exact rf (o [b0,.lp [] [0,4,5] [] .ret [(2,.d (I 0)),(3,.d (B false))] [] 59]) (Qa (QH Qjk h6) q)
  cases h;exact rf (o [b0,.lp [] [0,4,5] [] (.exit 0) [(4,.d (I c))] [] 59]) (Qa (QH Qjk h6) q)
 have q:=Qa (jEj g) q;have⟨a,b,h⟩:=bo h;obtain a|a:=a
 ·cases h;exact rf (o [b0,.no,.lp [] [0,4,5] [] .ret [(2,.d (I 0)),(3,.d (B false))] [] 59]) (Qa (QH Qjk b) q)
 cases h;exact rf (o [b0,.no,.lp [] [0,4,5] [] (.exit 0) [(4,.d (I a))] [] 59]) (Qa (QH Qjk b) q)
def QiL (n:Nat)(e:jVj)(f:jSj)(d:jSj×Int×Bool)(a:(Unit)⊕Int×jVj⊕Int×jVj⊕Int×jVj×jVj⊕Int×jVj×jVj):Option ((Unit⊕Int×jVj⊕Int×jVj⊕Int×jVj×jVj⊕Int×jVj×jVj)⊕Unit⊕Unit⊕jVj⊕jVj⊕jVj×jVj⊕jVj×jVj):=match a with|(.inl a)=>(if 1<((1+(d.1.size:Int))+d.2.1) then(el Ww e 1).bind fun b=>if(b.toList==(⟨#[]⟩:jSj).toList)=true then some (.inr (.inl ())) else if 1<=(d.1.size:Int) then some (.inl (.inr (.inl (2,[.v (.string b)])))) else(QiH n b).bind fun c=>if c.2=true then some (.inl (.inr (.inr (.inl (2,[I c.1]))))) else some (.inr (.inl ())) else some (.inr (.inr (.inl ()))))|(.inr (.inl a))=>(if a.1<((1+(d.1.size:Int))+d.2.1) then(el Ww e a.1).bind fun b=>if(b.toList==(⟨#[]⟩:jSj).toList)=true then some (.inr (.inl ())) else if a.1<=(d.1.size:Int) then if Wa 16 ((a.2).length+1) then if Qh (a.1+1) then some (.inl (.inr (.inl ((a.1+1),(a.2++([.v (.string b)]:jVj)))))) else none else none else(QiH n b).bind fun c=>if c.2=true then if Qh (a.1+1) then some (.inl (.inr (.inr (.inr (.inl ((a.1+1),a.2,[I c.1])))))) else none else some (.inr (.inl ())) else some (.inr (.inr (.inr (.inl a.2)))))|(.inr (.inr (.inl a)))=>(if a.1<((1+(d.1.size:Int))+d.2.1) then(el Ww e a.1).bind fun b=>if(b.toList==(⟨#[]⟩:jSj).toList)=true then some (.inr (.inl ())) else if a.1<=(d.1.size:Int) then if Qh (a.1+1) then some (.inl (.inr (.inr (.inr (.inr ((a.1+1),a.2,[.v (.string b)])))))) else none else(QiH n b).bind fun c=>if c.2=true then if Wa 8 ((a.2).length+1) then if Qh (a.1+1) then some (.inl (.inr (.inr (.inl ((a.1+1),(a.2++([I c.1]:jVj))))))) else none else none else some (.inr (.inl ())) else some (.inr (.inr (.inr (.inr (.inl a.2))))))|(.inr (.inr (.inr (.inl a))))=>(if a.1<((1+(d.1.size:Int))+d.2.1) then(el Ww e a.1).bind fun b=>if(b.toList==(⟨#[]⟩:jSj).toList)=true then some (.inr (.inl ())) else if a.1<=(d.1.size:Int) then if Wa 16 ((a.2.1).length+1) then if Qh (a.1+1) then some (.inl (.inr (.inr (.inr (.inl ((a.1+1),(a.2.1++([.v (.string b)]:jVj)),a.2.2)))))) else none else none else(QiH n b).bind fun c=>if c.2=true then if Wa 8 ((a.2.2).length+1) then if Qh (a.1+1) then some (.inl (.inr (.inr (.inr (.inl ((a.1+1),a.2.1,(a.2.2++([I c.1]:jVj)))))))) else none else none else some (.inr (.inl ())) else some (.inr (.inr (.inr (.inr (.inr (.inl (a.2.1,a.2.2))))))))|(.inr (.inr (.inr (.inr a))))=>(if a.1<((1+(d.1.size:Int))+d.2.1) then(el Ww e a.1).bind fun b=>if(b.toList==(⟨#[]⟩:jSj).toList)=true then some (.inr (.inl ())) else if a.1<=(d.1.size:Int) then if Wa 16 ((a.2.2).length+1) then if Qh (a.1+1) then some (.inl (.inr (.inr (.inr (.inr ((a.1+1),a.2.1,(a.2.2++([.v (.string b)]:jVj)))))))) else none else none else(QiH n b).bind fun c=>if c.2=true then if Wa 8 ((a.2.1).length+1) then if Qh (a.1+1) then some (.inl (.inr (.inr (.inr (.inr ((a.1+1),(a.2.1++([I c.1]:jVj)),a.2.2)))))) else none else none else some (.inr (.inl ())) else some (.inr (.inr (.inr (.inr (.inr (.inr (a.2.1,a.2.2))))))))
noncomputable def QkH (c:jVj)(b:jSj)(a:jSj×Int×Bool):Lp (Unit⊕Int×jVj⊕Int×jVj⊕Int×jVj×jVj⊕Int×jVj×jVj) (Unit⊕Unit⊕jVj⊕jVj⊕jVj×jVj⊕jVj×jVj):=⟨fun
 | (.inl sa)=>[(2,.ptr 0 0 0 0 0),(4,.d (.lst false 1 c)),(5,.ptr 9 0 0 0 0),(6,.d (I ((1+(a.1.size:Int))+a.2.1))),(7,.ptr 32 0 0 0 0),(8,.d (I 1))]
 | (.inr (.inl sa))=>[(2,.ptr 0 0 0 0 0),(4,.d (.lst false 1 c)),(5,.ptr 9 0 0 0 0),(6,.d (I ((1+(a.1.size:Int))+a.2.1))),(7,.ptr 32 0 0 0 0),(8,.d (I sa.1))]
 | (.inr (.inr (.inl sa)))=>[(2,.ptr 0 0 0 0 0),(4,.d (.lst false 1 c)),(5,.ptr 9 0 0 0 0),(6,.d (I ((1+(a.1.size:Int))+a.2.1))),(7,.ptr 32 0 0 0 0),(8,.d (I sa.1))]
 | (.inr (.inr (.inr (.inl sa))))=>[(2,.ptr 0 0 0 0 0),(4,.d (.lst false 1 c)),(5,.ptr 9 0 0 0 0),(6,.d (I ((1+(a.1.size:Int))+a.2.1))),(7,.ptr 32 0 0 0 0),(8,.d (I sa.1))]
 | (.inr (.inr (.inr (.inr sa))))=>[(2,.ptr 0 0 0 0 0),(4,.d (.lst false 1 c)),(5,.ptr 9 0 0 0 0),(6,.d (I ((1+(a.1.size:Int))+a.2.1))),(7,.ptr 32 0 0 0 0),(8,.d (I sa.1))],fun
 | (.inl sa)=>[(0,.box (.d Qr6)),(9,.box (.d (.agg [Qr5 a.1,I a.2.1,B a.2.2]))),(32,.box (.d (.agg [I 0,Qr5 b,.lst true 0 [],.lst true 0 [],Qr5 ⟨#[]⟩])))]
 | (.inr (.inl sa))=>[(0,.box (.d Qr6)),(9,.box (.d (.agg [Qr5 a.1,I a.2.1,B a.2.2]))),(32,.box (.agg [.d (I 0),.d (Qr5 b),.own 55 0,.d (.lst true 0 []),.d (Qr5 ⟨#[]⟩)])),(55,.row 0 1 sa.2)]
 | (.inr (.inr (.inl sa)))=>[(0,.box (.d Qr6)),(9,.box (.d (.agg [Qr5 a.1,I a.2.1,B a.2.2]))),(32,.box (.agg [.d (I 0),.d (Qr5 b),.d (.lst true 0 []),.own 64 0,.d (Qr5 ⟨#[]⟩)])),(64,.row 0 1 sa.2)]
 | (.inr (.inr (.inr (.inl sa))))=>[(0,.box (.d Qr6)),(9,.box (.d (.agg [Qr5 a.1,I a.2.1,B a.2.2]))),(32,.box (.agg [.d (I 0),.d (Qr5 b),.own 55 0,.own 85 0,.d (Qr5 ⟨#[]⟩)])),(55,.row 0 1 sa.2.1),(85,.row 0 1 sa.2.2)]
 | (.inr (.inr (.inr (.inr sa))))=>[(0,.box (.d Qr6)),(9,.box (.d (.agg [Qr5 a.1,I a.2.1,B a.2.2]))),(32,.box (.agg [.d (I 0),.d (Qr5 b),.own 85 0,.own 64 0,.d (Qr5 ⟨#[]⟩)])),(64,.row 0 1 sa.2.1),(85,.row 0 1 sa.2.2)],fun
 | (.inl e)=>.ret
 | (.inr (.inl e))=>(.exit 0)
 | (.inr (.inr (.inl e)))=>(.exit 0)
 | (.inr (.inr (.inr (.inl e))))=>(.exit 0)
 | (.inr (.inr (.inr (.inr (.inl e)))))=>(.exit 0)
 | (.inr (.inr (.inr (.inr (.inr e)))))=>(.exit 0),fun
 | (.inl e)=>[(2,.ptr 0 0 0 0 0),(3,.d (B false))]
 | (.inr (.inl e))=>[(2,.ptr 0 0 0 0 0),(7,.ptr 32 0 0 0 0)]
 | (.inr (.inr (.inl e)))=>[(2,.ptr 0 0 0 0 0),(7,.ptr 32 0 0 0 0)]
 | (.inr (.inr (.inr (.inl e))))=>[(2,.ptr 0 0 0 0 0),(7,.ptr 32 0 0 0 0)]
 | (.inr (.inr (.inr (.inr (.inl e)))))=>[(2,.ptr 0 0 0 0 0),(7,.ptr 32 0 0 0 0)]
 | (.inr (.inr (.inr (.inr (.inr e)))))=>[(2,.ptr 0 0 0 0 0),(7,.ptr 32 0 0 0 0)],fun
 | (.inl e)=>[(0,.box (.d Qr6))]
 | (.inr (.inl e))=>[(0,.box (.d Qr6)),(32,.box (.d (.agg [I 0,Qr5 b,.lst true 0 [],.lst true 0 [],Qr5 ⟨#[]⟩])))]
 | (.inr (.inr (.inl e)))=>[(0,.box (.d Qr6)),(32,.box (.agg [.d (I 0),.d (Qr5 b),.own 55 0,.d (.lst true 0 []),.d (Qr5 ⟨#[]⟩)])),(55,.row 0 1 e)]
 | (.inr (.inr (.inr (.inl e))))=>[(0,.box (.d Qr6)),(32,.box (.agg [.d (I 0),.d (Qr5 b),.d (.lst true 0 []),.own 64 0,.d (Qr5 ⟨#[]⟩)])),(64,.row 0 1 e)]
 | (.inr (.inr (.inr (.inr (.inl e)))))=>[(0,.box (.d Qr6)),(32,.box (.agg [.d (I 0),.d (Qr5 b),.own 55 0,.own 85 0,.d (Qr5 ⟨#[]⟩)])),(55,.row 0 1 e.1),(85,.row 0 1 e.2)]
 | (.inr (.inr (.inr (.inr (.inr e)))))=>[(0,.box (.d Qr6)),(32,.box (.agg [.d (I 0),.d (Qr5 b),.own 85 0,.own 64 0,.d (Qr5 ⟨#[]⟩)])),(64,.row 0 1 e.1),(85,.row 0 1 e.2)]⟩
theorem QiZ {n f g i}(e)(r)(h:QiL n f g i e=some r):Rl (ZJ cx.P 33 0) 81 0 false (QkH f g i) e r:=by
 unfold QiL at h;obtain e|e|e|e|e:=e
 ·obtain⟨b,h⟩|⟨b,h⟩:=io h
  ·have⟨ta2,ha2,h⟩:=bo h;have q:=allE Qr ha2 (Qa (jDj b) QL);let o(l:jOj):=b1::.el (Zy ta2)::l;obtain⟨c,h⟩|⟨c,h⟩:=io h
   ·cases h;exact rx 35 (o [b1]) [] [2,3] [0] (Qa c q)
   have q:=Qa (QA c) q;obtain⟨d,h⟩|⟨d,h⟩:=io h
   ·cases h;exact rn 35 (o [b0,b1,.el (Zy ta2),.no,.no]) [] [2,4,5,6,7,8] [0,9,32,55] (Qa ((by unfold Qh;omega):Qh 2) (allE Qr ha2 (Qa (jDj d) q)))
   have⟨ta5,ha5,h⟩:=bo h;have q:=Qa (Qja ha5) (allE Qr ha2 (Qa (jEj d) q));let o l:=o (b0::b0::.el (Zy ta2)::.ret (.tup [I ta5.1,B ta5.2])::l);obtain⟨a,h⟩|⟨a,h⟩:=io h
   ·cases h;exact rn 35 (o [b0,.no,.no]) [] [2,4,5,6,7,8] [0,9,32,64] (Qa ((by unfold Qh;omega):Qh 2) (Qa (Ud a) q))
   cases h;exact rx 35 (o [b1]) [] [2,3] [0] (Qa (Uc (QA a)) q)
  cases h;exact rx 35 [b0] [] [2,7] [0,32] (Qa (jEj b) QL)
 ·obtain⟨b,h⟩|⟨b,h⟩:=io h
  ·have⟨ta2,ha2,h⟩:=bo h;have q:=allE Qr ha2 (Qa (jDj b) QL);let o(l:jOj):=b1::.el (Zy ta2)::l;obtain⟨c,h⟩|⟨c,h⟩:=io h
   ·cases h;exact rx 56 (o [b1]) [] [2,3] [0] (Qa c q)
   have q:=Qa (QA c) q;obtain⟨d,h⟩|⟨d,h⟩:=io h
   ·have⟨ha5,h⟩:=gd h;have⟨a,h⟩:=gd h;cases h;exact rn 56 (o [b0,b1,.el (Zy ta2),b1]) [] [2,4,5,6,7,8] [0,9,32,55] (Qa a (Qa (ro 9 ha5) (allE Qr ha2 (Qa (jDj d) q))))
   have⟨ta5,ha5,h⟩:=bo h;have q:=Qa (Qja ha5) (allE Qr ha2 (Qa (jEj d) q));let o l:=o (b0::b0::.el (Zy ta2)::.ret (.tup [I ta5.1,B ta5.2])::l);obtain⟨a,h⟩|⟨a,h⟩:=io h
   ·have⟨ha7,h⟩:=gd h;cases h;exact rn 56 (o [b0,.no,.no]) [] [2,4,5,6,7,8] [0,9,32,55,85] (Qa ha7 (Qa (Ud a) q))
   cases h;exact rx 56 (o [b1]) [] [2,3] [0] (Qa (Uc (QA a)) q)
  cases h;exact rx 56 [b0] [] [2,7] [0,32,55] (Qa (jEj b) QL)
 ·obtain⟨b,h⟩|⟨b,h⟩:=io h
  ·have⟨ta2,ha2,h⟩:=bo h;have q:=allE Qr ha2 (Qa (jDj b) QL);let o(l:jOj):=b1::.el (Zy ta2)::l;obtain⟨c,h⟩|⟨c,h⟩:=io h
   ·cases h;exact rx 65 (o [b1]) [] [2,3] [0] (Qa c q)
   have q:=Qa (QA c) q;obtain⟨d,h⟩|⟨d,h⟩:=io h
   ·have⟨ha5,h⟩:=gd h;cases h;exact rn 65 (o [b0,b1,.el (Zy ta2),.no,.no]) [] [2,4,5,6,7,8] [0,9,32,64,85] (Qa ha5 (allE Qr ha2 (Qa (jDj d) q)))
   have⟨ta5,ha5,h⟩:=bo h;have q:=Qa (Qja ha5) (allE Qr ha2 (Qa (jEj d) q));let o l:=o (b0::b0::.el (Zy ta2)::.ret (.tup [I ta5.1,B ta5.2])::l);obtain⟨a,h⟩|⟨a,h⟩:=io h
   ·have⟨ha7,h⟩:=gd h;have⟨ha8,h⟩:=gd h;cases h;exact rn 65 (o [b0,b1]) [] [2,4,5,6,7,8] [0,9,32,64] (Qa ha8 (Qa (ro 3 ha7) (Qa (Ud a) q)))
   cases h;exact rx 65 (o [b1]) [] [2,3] [0] (Qa (Uc (QA a)) q)
  cases h;exact rx 65 [b0] [] [2,7] [0,32,64] (Qa (jEj b) QL)
 ·obtain⟨b,h⟩|⟨b,h⟩:=io h
  ·have⟨ta2,ha2,h⟩:=bo h;have q:=allE Qr ha2 (Qa (jDj b) QL);let o(l:jOj):=b1::.el (Zy ta2)::l;obtain⟨c,h⟩|⟨c,h⟩:=io h
   ·cases h;exact rx 86 (o [b1]) [] [2,3] [0] (Qa c q)
   have q:=Qa (QA c) q;obtain⟨d,h⟩|⟨d,h⟩:=io h
   ·have⟨ha5,h⟩:=gd h;have⟨a,h⟩:=gd h;cases h;exact rn 86 (o [b0,b1,.el (Zy ta2),b1]) [] [2,4,5,6,7,8] [0,9,32,55,85] (Qa a (Qa (ro 9 ha5) (allE Qr ha2 (Qa (jDj d) q))))
   have⟨ta5,ha5,h⟩:=bo h;have q:=Qa (Qja ha5) (allE Qr ha2 (Qa (jEj d) q));let o l:=o (b0::b0::.el (Zy ta2)::.ret (.tup [I ta5.1,B ta5.2])::l);obtain⟨a,h⟩|⟨a,h⟩:=io h
   ·have⟨ha7,h⟩:=gd h;have⟨ha8,h⟩:=gd h;cases h;exact rn 86 (o [b0,b1]) [] [2,4,5,6,7,8] [0,9,32,55,85] (Qa ha8 (Qa (ro 3 ha7) (Qa (Ud a) q)))
   cases h;exact rx 86 (o [b1]) [] [2,3] [0] (Qa (Uc (QA a)) q)
  cases h;exact rx 86 [b0] [] [2,7] [0,32,55,85] (Qa (jEj b) QL)
 ·obtain⟨b,h⟩|⟨b,h⟩:=io h
  ·have⟨ta2,ha2,h⟩:=bo h;have q:=allE Qr ha2 (Qa (jDj b) QL);let o(l:jOj):=b1::.el (Zy ta2)::l;obtain⟨c,h⟩|⟨c,h⟩:=io h
   ·cases h;exact rx 86 (o [b1]) [] [2,3] [0] (Qa c q)
   have q:=Qa (QA c) q;obtain⟨d,h⟩|⟨d,h⟩:=io h
   ·have⟨ha5,h⟩:=gd h;have⟨a,h⟩:=gd h;cases h;exact rn 86 (o [b0,b1,.el (Zy ta2),b1]) [] [2,4,5,6,7,8] [0,9,32,64,85] (Qa a (Qa (ro 9 ha5) (allE Qr ha2 (Qa (jDj d) q))))
   have⟨ta5,ha5,h⟩:=bo h;have q:=Qa (Qja ha5) (allE Qr ha2 (Qa (jEj d) q));let o l:=o (b0::b0::.el (Zy ta2)::.ret (.tup [I ta5.1,B ta5.2])::l);obtain⟨a,h⟩|⟨a,h⟩:=io h
   ·have⟨ha7,h⟩:=gd h;have⟨ha8,h⟩:=gd h;cases h;exact rn 86 (o [b0,b1]) [] [2,4,5,6,7,8] [0,9,32,64,85] (Qa ha8 (Qa (ro 3 ha7) (Qa (Ud a) q)))
   cases h;exact rx 86 (o [b1]) [] [2,3] [0] (Qa (Uc (QA a)) q)
  cases h;exact rx 86 [b0] [] [2,7] [0,32,64,85] (Qa (jEj b) QL)
def Qju (n:Nat)(a0:jSj):Option (Int×jSj×jVj×jVj×jSj×Bool) := (Qi4 n a0 32).bind fun d=>(el Ww d 0).bind fun b=>(Q1 n b).bind fun c=>if Qh (1+(c.1.size:Int)) then if Qh ((1+(c.1.size:Int))+c.2.1) then if c.2.2=true then if((d).length:Int)=((1+(c.1.size:Int))+c.2.1) then(Q2 (QiL n d b c) n (.inl ())).bind fun a=>match a with|.inl a=>(some (0,⟨#[]⟩,[],[],⟨#[]⟩,false))|(.inr (.inl a))=>(some (0,b,[],[],⟨#[]⟩,true))|(.inr (.inr (.inl a)))=>(some (0,b,a,[],⟨#[]⟩,true))|(.inr (.inr (.inr (.inl a))))=>(some (0,b,[],a,⟨#[]⟩,true))|(.inr (.inr (.inr (.inr (.inl a)))))=>(some (0,b,a.1,a.2,⟨#[]⟩,true))|(.inr (.inr (.inr (.inr (.inr a)))))=>(some (0,b,a.2,a.1,⟨#[]⟩,true)) else some (0,⟨#[]⟩,[],[],⟨#[]⟩,false) else some (0,⟨#[]⟩,[],[],⟨#[]⟩,false) else none else none
theorem Qlq {n a0 r}(h:Qju n a0=some r):Computes cx 33 [Qr5 a0] (.tup [.agg [I r.1,Qr5 r.2.1,.lst false 1 r.2.2.1,.lst false 1 r.2.2.2.1,Qr5 r.2.2.2.2.1],B r.2.2.2.2.2]):=by
 unfold Qju at h;have⟨t1,h1,h⟩:=bo h;have⟨t2,h2,h⟩:=bo h;have⟨t3,h3,h⟩:=bo h;have⟨h4,h⟩:=gd h;have⟨h5,h⟩:=gd h;have q:=Qa h5 (Qa h4 (Qa (qq h3) (allE Qr h2 (Qa (Qko h1) QL))));let o(l:jOj):=.ret (.lst false 1 t1)::.el (Zy t2)::.ret (.agg [Qr5 t3.1,I t3.2.1,B t3.2.2])::l;obtain⟨b,h⟩|⟨b,h⟩:=io h
 ·have q:=Qa (Ud b) q;let o l:=o (b0::l);obtain⟨c,h⟩|⟨c,h⟩:=io h
  ·have q:=allE Qr h2 (Qa (nef c) q);let o l:=o (b0::.el (Zy t2)::l);have⟨a,h8,h⟩:=bo h;obtain a|a|a|a|a|a:=a
   ·cases h;exact(rf (r:=.tup [.agg [I 0,Qr5 ⟨#[]⟩,.lst true 0 [],.lst true 0 [],Qr5 ⟨#[]⟩],B false]) (o [.lp [] [2,4,5,6,7,8] [0,9,32] .ret [(2,.ptr 0 0 0 0 0),(3,.d (B false))] [(0,.box (.d Qr6))] 132]) (Qa (QH QiZ h8) q)).le (LEs.refl _) (.tups (.cons (.aggs (.cons (.refl _) (.cons (.refl _) (.cons (.nilF) (.cons (.nilF) (.cons (.refl _) (.nil))))))) (.cons (.refl _) (.nil))))
   ·cases h;exact(rf (r:=.tup [.agg [I 0,Qr5 t2,.lst true 0 [],.lst true 0 [],Qr5 ⟨#[]⟩],B true]) (o [.lp [] [2,4,5,6,7,8] [0,9,32] (.exit 0) [(2,.ptr 0 0 0 0 0),(7,.ptr 32 0 0 0 0)] [(0,.box (.d Qr6)),(32,.box (.d (.agg [I 0,Qr5 t2,.lst true 0 [],.lst true 0 [],Qr5 ⟨#[]⟩])))] 132]) (Qa (QH QiZ h8) q)).le (LEs.refl _) (.tups (.cons (.aggs (.cons (.refl _) (.cons (.refl _) (.cons (.nilF) (.cons (.nilF) (.cons (.refl _) (.nil))))))) (.cons (.refl _) (.nil))))
   ·cases h;exact(rf (r:=.tup [.agg [I 0,Qr5 t2,.lst false 1 a,.lst true 0 [],Qr5 ⟨#[]⟩],B true]) (o [.lp [] [2,4,5,6,7,8] [0,9,32] (.exit 0) [(2,.ptr 0 0 0 0 0),(7,.ptr 32 0 0 0 0)] [(0,.box (.d Qr6)),(32,.box (.agg [.d (I 0),.d (Qr5 t2),.own 55 0,.d (.lst true 0 []),.d (Qr5 ⟨#[]⟩)])),(55,.row 0 1 a)] 132]) (Qa (QH QiZ h8) q)).le (LEs.refl _) (.tups (.cons (.aggs (.cons (.refl _) (.cons (.refl _) (.cons (.refl _) (.cons (.nilF) (.cons (.refl _) (.nil))))))) (.cons (.refl _) (.nil))))
   ·cases h;exact(rf (r:=.tup [.agg [I 0,Qr5 t2,.lst true 0 [],.lst false 1 a,Qr5 ⟨#[]⟩],B true]) (o [.lp [] [2,4,5,6,7,8] [0,9,32] (.exit 0) [(2,.ptr 0 0 0 0 0),(7,.ptr 32 0 0 0 0)] [(0,.box (.d Qr6)),(32,.box (.agg [.d (I 0),.d (Qr5 t2),.d (.lst true 0 []),.own 64 0,.d (Qr5 ⟨#[]⟩)])),(64,.row 0 1 a)] 132]) (Qa (QH QiZ h8) q)).le (LEs.refl _) (.tups (.cons (.aggs (.cons (.refl _) (.cons (.refl _) (.cons (.nilF) (.cons (.refl _) (.cons (.refl _) (.nil))))))) (.cons (.refl _) (.nil))))
   ·cases h;exact rf (o [.lp [] [2,4,5,6,7,8] [0,9,32] (.exit 0) [(2,.ptr 0 0 0 0 0),(7,.ptr 32 0 0 0 0)] [(0,.box (.d Qr6)),(32,.box (.agg [.d (I 0),.d (Qr5 t2),.own 55 0,.own 85 0,.d (Qr5 ⟨#[]⟩)])),(55,.row 0 1 a.1),(85,.row 0 1 a.2)] 132]) (Qa (QH QiZ h8) q)
   cases h;exact rf (o [.lp [] [2,4,5,6,7,8] [0,9,32] (.exit 0) [(2,.ptr 0 0 0 0 0),(7,.ptr 32 0 0 0 0)] [(0,.box (.d Qr6)),(32,.box (.agg [.d (I 0),.d (Qr5 t2),.own 85 0,.own 64 0,.d (Qr5 ⟨#[]⟩)])),(64,.row 0 1 a.1),(85,.row 0 1 a.2)] 132]) (Qa (QH QiZ h8) q)
  cases h;exact(rf (r:=.tup [.agg [I 0,Qr5 ⟨#[]⟩,.lst true 0 [],.lst true 0 [],Qr5 ⟨#[]⟩],B false]) (o [b1]) (Qa (net c) q)).le (LEs.refl _) (.tups (.cons (.aggs (.cons (.refl _) (.cons (.refl _) (.cons (.nilF) (.cons (.nilF) (.cons (.refl _) (.nil))))))) (.cons (.refl _) (.nil))))
 cases h;exact(rf (r:=.tup [.agg [I 0,Qr5 ⟨#[]⟩,.lst true 0 [],.lst true 0 [],Qr5 ⟨#[]⟩],B false]) (o [b1,.no]) (Qa (Uc (QA b)) q)).le (LEs.refl _) (.tups (.cons (.aggs (.cons (.refl _) (.cons (.refl _) (.cons (.nilF) (.cons (.nilF) (.cons (.refl _) (.nil))))))) (.cons (.refl _) (.nil))))
def Qjs (n:Nat)(a0:jSj):Option (Int×jSj×jVj×jVj×jSj×Int) := if Qh ((a0.size:Int) - 8) then if((a0.size:Int) - 8)<0 then some (0,⟨#[]⟩,[],[],⟨#[]⟩,25) else(WQ a0 ((a0.size:Int) - 8)).bind fun j=>if j=35 then if Qh (((a0.size:Int) - 8)+1) then(Qi7 a0 (some (((a0.size:Int) - 8)+1)) none).bind fun i=>(Qjt n i).bind fun k=>if k=true then(Qi7 a0 none (some ((a0.size:Int) - 8))).bind fun h=>(QjC n h).bind fun e=>if(!(i.toList==e.toList))=true then some (0,⟨#[]⟩,[],[],⟨#[]⟩,27) else(Qi4 n h 32).bind fun d=>(el Ww d 0).bind fun b=>(QiH n b).bind fun c=>if c.2=true then if((d).length:Int)<2 then some (0,⟨#[]⟩,[],[],⟨#[]⟩,25) else if Qh ((b.size:Int)+1) then(Qi7 h (some ((b.size:Int)+1)) none).bind fun f=>(Qju n f).bind fun a=>if a.2.2.2.2.2=true then(WV n c.1 a.2.1 a.2.2.1 a.2.2.2.1 a.2.2.2.2.1).bind fun g=>if g=0 then some (c.1,a.2.1,a.2.2.1,a.2.2.2.1,a.2.2.2.2.1,0) else some (0,⟨#[]⟩,[],[],⟨#[]⟩,25) else some (0,⟨#[]⟩,[],[],⟨#[]⟩,25) else none else some (0,⟨#[]⟩,[],[],⟨#[]⟩,25) else some (0,⟨#[]⟩,[],[],⟨#[]⟩,25) else none else some (0,⟨#[]⟩,[],[],⟨#[]⟩,25) else none
theorem Qlo {n a0 r}(h:Qjs n a0=some r):Computes cx 27 [Qr5 a0] (.tup [.agg [I r.1,Qr5 r.2.1,.lst false 1 r.2.2.1,.lst false 1 r.2.2.2.1,Qr5 r.2.2.2.2.1],I r.2.2.2.2.2]):=by
 unfold Qjs at h;have⟨h1,h⟩:=gd h;have q:=Qa h1 QL;obtain⟨g,h⟩|⟨g,h⟩:=io h
 ·cases h;exact(rf (r:=.tup [.agg [I 0,Qr5 ⟨#[]⟩,.lst true 0 [],.lst true 0 [],Qr5 ⟨#[]⟩],I 25]) [b1,.no,.no] (Qa (jDj g) q)).le (LEs.refl _) (.tups (.cons (.aggs (.cons (.refl _) (.cons (.refl _) (.cons (.nilF) (.cons (.nilF) (.cons (.refl _) (.nil))))))) (.cons (.refl _) (.nil))))
 have⟨t3,m,h⟩:=bo h;have q:=Qa (Zq m:QV cx.P (Instr.index 9 (.string a0) (.int .i64 ((a0.size:Int) - 8)))=some (.int .u8 t3)) (Qa (jEj g) q);let o(l:jOj):=b0::.el (.v (.int .u8 t3))::l;obtain⟨i,h⟩|⟨i,h⟩:=io h
 ·have⟨h5,h⟩:=gd h;have⟨t6,k,h⟩:=bo h;have⟨t7,h7,h⟩:=bo h;have q:=Qa (Qlp h7) (Qa (QiU k:QV cx.P (Instr.sliceAt 9 (.string a0) (some (.int .i64 (((a0.size:Int) - 8)+1))) none none)=some (.string t6)) (Qa h5 (Qa (nef i) q)));let o l:=o (b0::.el (Qr5 t6)::.ret (B t7)::l);obtain⟨j,h⟩|⟨j,h⟩:=io h
  ·have⟨t9,p,h⟩:=bo h;have⟨t10,h10,h⟩:=bo h;have q:=Qa (QkV h10) (Qa (QiU k:QV cx.P (Instr.sliceAt 9 (.string a0) (some (.int .i64 (((a0.size:Int) - 8)+1))) none none)=some (.string t6)) (Qa h5 (Qa (QiU p:QV cx.P (Instr.sliceAt 9 (.string a0) none (some (.int .i64 ((a0.size:Int) - 8))) none)=some (.string t9)) (Qa (Ud j) q))));let o l:=o (b0::.el (Qr5 t9)::.el (Qr5 t6)::.ret (Qr5 t10)::l);obtain⟨a,h⟩|⟨a,h⟩:=io h
   ·cases h;exact(rf (r:=.tup [.agg [I 0,Qr5 ⟨#[]⟩,.lst true 0 [],.lst true 0 [],Qr5 ⟨#[]⟩],I 27]) (o [b1]) (Qa a q)).le (LEs.refl _) (.tups (.cons (.aggs (.cons (.refl _) (.cons (.refl _) (.cons (.nilF) (.cons (.nilF) (.cons (.refl _) (.nil))))))) (.cons (.refl _) (.nil))))
   have⟨t12,h12,h⟩:=bo h;have⟨t13,h13,h⟩:=bo h;have⟨t14,h14,h⟩:=bo h;have q:=Qa (Qja h14) (allE Qr h13 (Qa (Qko h12) (Qa (QA a) q)));let o l:=o (b0::.ret (.lst false 1 t12)::.el (Zy t13)::.ret (.tup [I t14.1,B t14.2])::l);obtain⟨b,h⟩|⟨b,h⟩:=io h
   ·have q:=Qa (Ud b) q;obtain⟨c,h⟩|⟨c,h⟩:=io h
    ·cases h;exact(rf (r:=.tup [.agg [I 0,Qr5 ⟨#[]⟩,.lst true 0 [],.lst true 0 [],Qr5 ⟨#[]⟩],I 25]) (o [b0,b1]) (Qa (jDj c) q)).le (LEs.refl _) (.tups (.cons (.aggs (.cons (.refl _) (.cons (.refl _) (.cons (.nilF) (.cons (.nilF) (.cons (.refl _) (.nil))))))) (.cons (.refl _) (.nil))))
    have⟨h17,h⟩:=gd h;have⟨t18,f,h⟩:=bo h;have⟨t19,h19,h⟩:=bo h;have q:=Qa (Qlq h19) (Qa (QiU f:QV cx.P (Instr.sliceAt 9 (.string t9) (some (.int .i64 ((t13.size:Int)+1))) none none)=some (.string t18)) (Qa h17 (allE Qr h13 (Qa (jEj c) q))));let o l:=o (b0::b0::.el (Zy t13)::.el (Qr5 t18)::.ret (.tup [.agg [I t19.1,Qr5 t19.2.1,.lst false 1 t19.2.2.1,.lst false 1 t19.2.2.2.1,Qr5 t19.2.2.2.2.1],B t19.2.2.2.2.2])::l);obtain⟨d,h⟩|⟨d,h⟩:=io h
    ·have⟨t21,h21,h⟩:=bo h;have q:=Qa (K7 h21) (Qa (Ud d) q);obtain⟨e,h⟩|⟨e,h⟩:=io h
     ·cases h;exact rf (o [b0,.ret (I t21),b0]) (Qa (nef e) q)
     cases h;exact(rf (r:=.tup [.agg [I 0,Qr5 ⟨#[]⟩,.lst true 0 [],.lst true 0 [],Qr5 ⟨#[]⟩],I 25]) (o [b0,.ret (I t21),b1]) (Qa (net e) q)).le (LEs.refl _) (.tups (.cons (.aggs (.cons (.refl _) (.cons (.refl _) (.cons (.nilF) (.cons (.nilF) (.cons (.refl _) (.nil))))))) (.cons (.refl _) (.nil))))
    cases h;exact(rf (r:=.tup [.agg [I 0,Qr5 ⟨#[]⟩,.lst true 0 [],.lst true 0 [],Qr5 ⟨#[]⟩],I 25]) (o [b1,.no]) (Qa (Uc (QA d)) q)).le (LEs.refl _) (.tups (.cons (.aggs (.cons (.refl _) (.cons (.refl _) (.cons (.nilF) (.cons (.nilF) (.cons (.refl _) (.nil))))))) (.cons (.refl _) (.nil))))
   cases h;exact(rf (r:=.tup [.agg [I 0,Qr5 ⟨#[]⟩,.lst true 0 [],.lst true 0 [],Qr5 ⟨#[]⟩],I 25]) (o [b1,.no]) (Qa (Uc (QA b)) q)).le (LEs.refl _) (.tups (.cons (.aggs (.cons (.refl _) (.cons (.refl _) (.cons (.nilF) (.cons (.nilF) (.cons (.refl _) (.nil))))))) (.cons (.refl _) (.nil))))
  cases h;exact(rf (r:=.tup [.agg [I 0,Qr5 ⟨#[]⟩,.lst true 0 [],.lst true 0 [],Qr5 ⟨#[]⟩],I 25]) (o [b1]) (Qa (Uc (QA j)) q)).le (LEs.refl _) (.tups (.cons (.aggs (.cons (.refl _) (.cons (.refl _) (.cons (.nilF) (.cons (.nilF) (.cons (.refl _) (.nil))))))) (.cons (.refl _) (.nil))))
 cases h;exact(rf (r:=.tup [.agg [I 0,Qr5 ⟨#[]⟩,.lst true 0 [],.lst true 0 [],Qr5 ⟨#[]⟩],I 25]) (o [b1,.no]) (Qa (net i) q)).le (LEs.refl _) (.tups (.cons (.aggs (.cons (.refl _) (.cons (.refl _) (.cons (.nilF) (.cons (.nilF) (.cons (.refl _) (.nil))))))) (.cons (.refl _) (.nil))))
def QiJ (n:Nat)(a0:jSj)(a:(Int×Int×jVj)):Option (Int×Int×jVj⊕Int×Int×jVj⊕Int×jVj) := if a.2.1<(a0.size:Int) then(WQ a0 a.2.1).bind fun c=>if c=10 then(Qi7 a0 (some a.1) (some a.2.1)).bind fun d=>(Qjs n d).bind fun b=>if b.2.2.2.2.2=0 then if Qh (((a.2.2).length:Int)+1) then if b.1=(((a.2.2).length:Int)+1) then if Wa 88 ((a.2.2).length+1) then if Qh (a.2.1+1) then some (.inl ((a.2.1+1),(a.2.1+1),(a.2.2++([.agg [I b.1,.v (.string b.2.1),.lst false 1 b.2.2.1,.lst false 1 b.2.2.2.1,.v (.string b.2.2.2.2.1)]]:jVj)))) else none else none else some (.inr (.inl (a.1,11,a.2.2))) else none else some (.inr (.inl (a.1,b.2.2.2.2.2,a.2.2))) else if Qh (a.2.1+1) then some (.inl (a.1,(a.2.1+1),a.2.2)) else none else some (.inr (.inr (a.1,a.2.2)))
noncomputable def Qks (a0:jSj):Lp (Int×Int×jVj) (Int×Int×jVj⊕Int×jVj):=⟨fun a=>[(0,.d (Qr5 a0)),(5,.own 9 0),(6,.d (I a.1)),(7,.d (I a.2.1))],fun a=>[(9,.row 0 5 a.2.2)],fun
 | (.inl e)=>.ret
 | (.inr e)=>(.exit 0),fun
 | (.inl e)=>[(2,.own 9 0),(3,.d (I e.1)),(4,.d (I e.2.1))]
 | (.inr e)=>[(0,.d (Qr5 a0)),(5,.own 9 0),(6,.d (I e.1))],fun
 | (.inl e)=>[(9,.row 0 5 e.2.2)]
 | (.inr e)=>[(9,.row 0 5 e.2)]⟩
theorem QjS {n a0}(f)(r)(h:QiJ n a0 f=some r):Rl (ZJ cx.P 5 0) 60 0 false (Qks a0) f r:=by
 unfold QiJ at h;obtain⟨b,h⟩|⟨b,h⟩:=io h
 ·have⟨ta2,g,h⟩:=bo h;have q:=Qa (Zq g:QV cx.P (Instr.index 9 (.string a0) (.int .i64 f.2.1))=some (.int .u8 ta2)) (Qa (jDj b) QL);let o(l:jOj):=b1::.el (.v (.int .u8 ta2))::l;obtain⟨c,h⟩|⟨c,h⟩:=io h
  ·have⟨ta4,d,h⟩:=bo h;have⟨ta5,ha5,h⟩:=bo h;have q:=Qa (Qlo ha5) (Qa (QiU d:QV cx.P (Instr.sliceAt 9 (.string a0) (some (.int .i64 f.1)) (some (.int .i64 f.2.1)) none)=some (.string ta4)) (Qa (nef c) q));let o l:=o (b0::.el (Qr5 ta4)::.ret (.tup [.agg [I ta5.1,Qr5 ta5.2.1,.lst false 1 ta5.2.2.1,.lst false 1 ta5.2.2.2.1,Qr5 ta5.2.2.2.2.1],I ta5.2.2.2.2.2])::l);obtain⟨a,h⟩|⟨a,h⟩:=io h
   ·have⟨ha7,h⟩:=gd h;have q:=Qa ha7 (Qa (eqt a) q);obtain⟨e,h⟩|⟨e,h⟩:=io h
    ·have⟨ha9,h⟩:=gd h;have⟨ha10,h⟩:=gd h;cases h;exact rn 10 (o [b1,b0,b0,b1]) [] [0,5,6,7] [9] (Qa ha10 (Qa ha10 (Qa (ro 39 ha9) (Qa (nef a) (Qa (nef e) q)))))
    cases h;exact rx 10 (o [b1,b1,.no]) [] [2,3,4] [9] (Qa (net e) q)
   cases h;exact rx 10 (o [b0,.no,b1]) [] [2,3,4] [9] (Qa (net a) (Qa (eqf a) q))
  have⟨d,h⟩:=gd h;cases h;exact rn 10 (o [b1]) [] [0,5,6,7] [9] (Qa d (Qa (net c) q))
 cases h;exact rx 10 [b0] [] [0,5,6] [9] (Qa (jEj b) QL)
def Qjp (n:Nat)(a0:jSj):Option (jVj×Int×Int) := if(a0.size:Int)>1000000 then some ([],0,26) else(Q2 (QiJ n a0) n (0,0,[])).bind fun a=>match a with|.inl a=>(some (a.2.2,a.1,a.2.1))|.inr a=>(if a.1<(a0.size:Int) then some (a.2,a.1,28) else some (a.2,a.1,0))
theorem QkZ {n a0 r}(h:Qjp n a0=some r):Computes cx 5 [Qr5 a0] (.tup [.lst false 5 r.1,I r.2.1,I r.2.2]):=by
 unfold Qjp at h;obtain⟨b,h⟩|⟨b,h⟩:=io h
 ·cases h;exact(rf (r:=.tup [.lst true 0 [],I 0,I 26]) [b1] (Qa (jDj b) QL)).le (LEs.refl _) (.tups (.cons (.nilF) (.cons (.refl _) (.cons (.refl _) (.nil)))))
 have q:=Qa (jEj b) QL;have⟨a,h2,h⟩:=bo h;obtain a|a:=a
 ·cases h;exact rf [b0,.lp [5,5] [0,5,6,7] [9] .ret [(2,.own 9 0),(3,.d (I a.1)),(4,.d (I a.2.1))] [(9,.row 0 5 a.2.2)] 63] (Qa (QH QjS h2) q)
 have q:=Qa (QH QjS h2) q;let o(l:jOj):=b0::.lp [5,5] [0,5,6,7] [9] (.exit 0) [(0,.d (Qr5 a0)),(5,.own 9 0),(6,.d (I a.1))] [(9,.row 0 5 a.2)] 63::l;obtain⟨c,h⟩|⟨c,h⟩:=io h
 ·cases h;exact rf (o [b1]) (Qa (jDj c) q)
 cases h;exact rf (o [b0]) (Qa (jEj c) q)
def Qi1 (n:Nat)(a0:Int)(a1:jSj)(a2 a3:jVj)(a4:jSj)(a:(jSj×Int)):Option (jSj×Int⊕jSj) := if a.2<((a2).length:Int) then if a.1.size+(⟨#[32]⟩:jSj).size<=9223372036854775807 then(el Ww a2 a.2).bind fun b=>if(a.1++(⟨#[32]⟩:jSj)).size+b.size<=9223372036854775807 then if Qh (a.2+1) then some (.inl (((a.1++(⟨#[32]⟩:jSj))++b),(a.2+1))) else none else none else none else some (.inr a.1)
noncomputable def Qk4 (a0:Int)(a1:jSj)(a2 a3:jVj)(a4:jSj):Lp (jSj×Int) (jSj):=⟨fun a=>[(1,.ptr 0 0 0 0 0),(3,.d (Qr5 a.1)),(4,.d (I a.2))],fun _=>[(0,.box (.d (.agg [I a0,Qr5 a1,.lst false 1 a2,.lst false 1 a3,Qr5 a4])))],fun _=>(.exit 0),fun e=>[(1,.ptr 0 0 0 0 0),(3,.d (Qr5 e))],fun _=>[(0,.box (.d (.agg [I a0,Qr5 a1,.lst false 1 a2,.lst false 1 a3,Qr5 a4])))]⟩
theorem Qk1 {n a0 a1 a2 a3 a4}(b)(r)(h:Qi1 n a0 a1 a2 a3 a4 b=some r):Rl (ZJ cx.P 53 0) 45 0 false (Qk4 a0 a1 a2 a3 a4) b r:=by
 unfold Qi1 at h;obtain⟨a,h⟩|⟨a,h⟩:=io h
 ·have⟨ha2,h⟩:=gd h;have⟨ta3,ha3,h⟩:=bo h;have⟨ha4,h⟩:=gd h;have⟨ha5,h⟩:=gd h;cases h;exact rn 11 [b1,.el (Zy ta3)] [] [1,3,4] [0] (Qa ha5 (Qa ha4 (allE Qr ha3 (Qa ha2 (Qa (jDj a) QL)))))
 cases h;exact rx 11 [b0] [] [1,3] [0] (Qa (jEj a) QL)
def Qi0 (n:Nat)(a0:Int)(a1:jSj)(a2 a3:jVj)(a4:jSj)(a:(jSj×Int)):Option (jSj×Int⊕jSj) := if a.2<((a3).length:Int) then if a.1.size+(⟨#[32]⟩:jSj).size<=9223372036854775807 then(el Vt a3 a.2).bind fun c=>(Qjm n c).bind fun b=>if(a.1++(⟨#[32]⟩:jSj)).size+b.size<=9223372036854775807 then if Qh (a.2+1) then some (.inl (((a.1++(⟨#[32]⟩:jSj))++b),(a.2+1))) else none else none else none else some (.inr a.1)
noncomputable def Qk3 (a0:Int)(a1:jSj)(a2 a3:jVj)(a4:jSj):Lp (jSj×Int) (jSj):=⟨fun a=>[(1,.ptr 0 0 0 0 0),(3,.d (Qr5 a.1)),(5,.d (I a.2))],fun _=>[(0,.box (.d (.agg [I a0,Qr5 a1,.lst false 1 a2,.lst false 1 a3,Qr5 a4])))],fun _=>(.exit 2),fun e=>[(3,.d (Qr5 e))],fun _=>[]⟩
theorem Qk0 {n a0 a1 a2 a3 a4}(b)(r)(h:Qi0 n a0 a1 a2 a3 a4 b=some r):Rl (ZJ cx.P 53 1) 45 0 false (Qk3 a0 a1 a2 a3 a4) b r:=by
 unfold Qi0 at h;obtain⟨a,h⟩|⟨a,h⟩:=io h
 ·have⟨ha2,h⟩:=gd h;have⟨ta3,ha3,h⟩:=bo h;have⟨ta4,ha4,h⟩:=bo h;have⟨ha5,h⟩:=gd h;have⟨ha6,h⟩:=gd h;cases h;exact rn 40 [b1,.el (Q3 ta3),.ret (Qr5 ta4)] [] [1,3,5] [0] (Qa ha6 (Qa ha5 (Qa (Qj3 ha4) (allE Qi ha3 (Qa ha2 (Qa (jDj a) QL))))))
 cases h;exact rx 40 [b0] [] [3] [] (Qa (jEj a) QL)
def QjG (n:Nat)(a0:Int)(a1:jSj)(a2 a3:jVj)(a4:jSj):Option (jSj) := (Qjm n a0).bind fun a=>if a.size+(⟨#[32]⟩:jSj).size<=9223372036854775807 then if(a++(⟨#[32]⟩:jSj)).size+a1.size<=9223372036854775807 then(Q2 (Qi1 n a0 a1 a2 a3 a4) n (((a++(⟨#[32]⟩:jSj))++a1),0)).bind fun b=>(Q2 (Qi0 n a0 a1 a2 a3 a4) n (b,0)).bind fun c=>some c else none else none
theorem QkE {n a0 a1 a2 a3 a4 r}(h:QjG n a0 a1 a2 a3 a4=some r):Computes cx 53 [.agg [I a0,Qr5 a1,.lst false 1 a2,.lst false 1 a3,Qr5 a4]] (Qr5 r):=by unfold QjG at h;have⟨t1,h1,h⟩:=bo h;have⟨h2,h⟩:=gd h;have⟨h3,h⟩:=gd h;have⟨t4,h4,h⟩:=bo h;have⟨t5,h5,h⟩:=bo h;obtain rfl:=oi h;exact rf [.ret (Qr5 t1),.lp [] [1,3,4] [0] (.exit 0) [(1,.ptr 0 0 0 0 0),(3,.d (Qr5 t4))] [(0,.box (.d (.agg [I a0,Qr5 a1,.lst false 1 a2,.lst false 1 a3,Qr5 a4])))] 39,.lp [] [1,3,5] [0] (.exit 2) [(3,.d (Qr5 t5))] [] 69] (Qa (QH Qk0 h5) (Qa (QH Qk1 h4) (Qa h3 (Qa h2 (Qa (Qj3 h1) QL)))))
def QiY (n:Nat)(a0:jVj)(c:(jSj×Int)):Option (jSj×Int⊕jSj) := if c.2<((a0).length:Int) then(el Ze a0 c.2).bind fun b=>(QjG n b.1 b.2.1 b.2.2.1 b.2.2.2.1 b.2.2.2.2).bind fun a=>if c.1.size+a.size<=9223372036854775807 then if(c.1++a).size+(⟨#[35]⟩:jSj).size<=9223372036854775807 then(QjC n a).bind fun d=>if((c.1++a)++(⟨#[35]⟩:jSj)).size+d.size<=9223372036854775807 then if(((c.1++a)++(⟨#[35]⟩:jSj))++d).size+(⟨#[10]⟩:jSj).size<=9223372036854775807 then if Qh (c.2+1) then some (.inl (((((c.1++a)++(⟨#[35]⟩:jSj))++d)++(⟨#[10]⟩:jSj)),(c.2+1))) else none else none else none else none else none else some (.inr c.1)
noncomputable def Qlz (a0:jVj):Lp (jSj×Int) (jSj):=⟨fun a=>[(0,.d (.lst false 5 a0)),(3,.d (Qr5 a.1)),(4,.d (I a.2))],fun _=>[],fun _=>(.exit 0),fun e=>[(3,.d (Qr5 e))],fun _=>[]⟩
theorem Qlw {n a0}(b)(r)(h:QiY n a0 b=some r):Rl (ZJ cx.P 13 0) 28 0 false (Qlz a0) b r:=by
 unfold QiY at h;obtain⟨a,h⟩|⟨a,h⟩:=io h
 ·have⟨ta2,ha2,h⟩:=bo h;have⟨ta3,ha3,h⟩:=bo h;have⟨ha4,h⟩:=gd h;have⟨ha5,h⟩:=gd h;have⟨ta6,ha6,h⟩:=bo h;have⟨ha7,h⟩:=gd h;have⟨ha8,h⟩:=gd h;have⟨ha9,h⟩:=gd h;cases h;exact rn 3 [b1,.el (QP ta2),.ret (Qr5 ta3),.el (QP ta2),.ret (Qr5 ta3),.ret (Qr5 ta6)] [] [0,3,4] [] (Qa ha9 (Qa ha8 (Qa ha7 (Qa (QkV ha6) (Qa (QkE ha3) (allE Ql ha2 (Qa ha5 (Qa ha4 (Qa (QkE ha3) (allE Ql ha2 (Qa (jDj a) QL)))))))))))
 cases h;exact rx 3 [b0] [] [3] [] (Qa (jEj a) QL)
def QjD (n:Nat)(a0:jVj):Option (jSj) := (Q2 (QiY n a0) n (⟨#[]⟩,0)).bind fun a=>some a
theorem Qmr {n a0 r}(h:QjD n a0=some r):Computes cx 13 [.lst false 5 a0] (Qr5 r):=by unfold QjD at h;have⟨t1,h1,h⟩:=bo h;obtain rfl:=oi h;exact rf [.lp [] [0,3,4] [] (.exit 0) [(3,.d (Qr5 t1))] [] 38] (Qa (QH Qlw h1) QL)
def tab2:jVj:=[.tup [Qr5 ⟨#[115,116,97,116,101]⟩,.agg [.v (.int .u8 0),.fn (.func 86) [] []]],.tup [Qr5 ⟨#[114,97,116,101]⟩,.agg [.v (.int .u8 0),.fn (.func 88) [] []]],.tup [Qr5 ⟨#[97,105,109,101,100]⟩,.agg [.v (.int .u8 0),.fn (.func 89) [] []]],.tup [Qr5 ⟨#[98,111,111,107,115]⟩,.agg [.v (.int .u8 0),.fn (.func 90) [] []]],.tup [Qr5 ⟨#[111,102,102,101,114,115]⟩,.agg [.v (.int .u8 0),.fn (.func 92) [] []]],.tup [Qr5 ⟨#[100,105,114,116]⟩,.agg [.v (.int .u8 109),.fn (.func 98) [] []]],.tup [Qr5 ⟨#[99,111,117,110,116]⟩,.agg [.v (.int .u8 115),.fn (.func 99) [] []]]]
theorem mk2 (c:jSj)(r:D){k:jSj}{l:List UInt8}(h:k.data.toList=l)(hc:c.data.toList=l:=by rfl)(a:Zi true (.string c) (.agg [.v (.int .u8 0),.v (.nilFunc)]) tab2=some r:=by kernel_rfl):Zi true (.string k) (.agg [.v (.int .u8 0),.v (.nilFunc)]) tab2=some r:=QO h hc a
def Qn9 (n:Nat)(a0:Bool)(a1 a2:jSj):Option (jSj) := if a0=true then some a1 else some a2
theorem QoZ {n a0 a1 a2 r}(h:Qn9 n a0 a1 a2=some r):Computes cx 87 [B a0,Qr5 a1,Qr5 a2] (Qr5 r):=by
 unfold Qn9 at h;obtain⟨a,h⟩|⟨a,h⟩:=io h
 ·obtain rfl:=oi h;exact rf [b1] (Qa a QL)
 obtain rfl:=oi h;exact rf [b0] (Qa (QA a) QL)
def QnR (n:Nat)(a0:jSj)(a1 a2:jVj)(a3 a4:Int)(a5 a6:Bool)(a7 a8 g:Int)(a b c:jVj):Option (jVj) := (Qn9 n a5 (⟨#[102,105,108,108,101,100]⟩) (⟨#[101,109,112,116,121]⟩)).bind fun d=>(Qn9 n a6 (⟨#[116,114,105,112,112,101,100]⟩) (⟨#[114,101,97,100,121]⟩)).bind fun e=>(Jk n a4).bind fun f=>some [.v (.string d),.v (.string e),.v (.string f)]
theorem QoE {n a0 a1 a2 a3 a4 a5 a6 a7 a8 e a b c r}(h:QnR n a0 a1 a2 a3 a4 a5 a6 a7 a8 e a b c=some r):ComputesO cx 86 [.ptr 0 0 0 0 2,.d (Qr5 a0)] (some (Qb a1 a2 a3 a4 a5 a6 a7 a8 e a b c)) (.d (.lst false 1 r)) (Qb a1 a2 a3 a4 a5 a6 a7 a8 e a b c) ZV:=by unfold QnR at h;have⟨t1,h1,h⟩:=bo h;have⟨t2,h2,h⟩:=bo h;have⟨t3,h3,h⟩:=bo h;cases h;exact(rfO 0 (r:=.d (.lst true 1 [Qr5 t1,Qr5 t2,Qr5 t3])) (cs:=(Qb a1 a2 a3 a4 a5 a6 a7 a8 e a b c)) [.ret (Qr5 t1),.ret (Qr5 t2),.ret (Qr5 t3)] (Qa (jd h3) (Qa (QoZ h2) (Qa (QoZ h1) QL)))).le (.refl _) (.refl _) (.d (.full _ _ _)) (.same _ (.same _ (.same _ (.same _ (.same _ (.same _ (.same _ (.same _ (.same _ (.same _ (.same _ (.same _ (.nil)))))))))))))
def QnQ (n:Nat)(a0:jSj)(a1 a2:jVj)(a3 a4:Int)(a5 a6:Bool)(a7 a8 d:Int)(a b c:jVj):Option (jVj) := (Wq n a1 a2 a3 a4 a5 a6 a7 a8 d a b c).bind fun e=>(Jk n e).bind fun f=>some [.v (.string f)]
theorem QoD {n a0 a1 a2 a3 a4 a5 a6 a7 a8 e a b c r}(h:QnQ n a0 a1 a2 a3 a4 a5 a6 a7 a8 e a b c=some r):ComputesO cx 88 [.ptr 0 0 0 0 2,.d (Qr5 a0)] (some (Qb a1 a2 a3 a4 a5 a6 a7 a8 e a b c)) (.d (.lst false 1 r)) (Qb a1 a2 a3 a4 a5 a6 a7 a8 e a b c) ZV:=by unfold QnQ at h;have⟨t1,h1,h⟩:=bo h;have⟨t2,h2,h⟩:=bo h;cases h;exact(rfO 0 (r:=.d (.lst true 1 [Qr5 t2])) (cs:=(Qb a1 a2 a3 a4 a5 a6 a7 a8 e a b c)) [.obj (some 0) (.d (I t1)) (Qb a1 a2 a3 a4 a5 a6 a7 a8 e a b c) ZV,.ret (Qr5 t2)] (Qa (jd h2) (Qa (Ut h1) QL))).le (.refl _) (.refl _) (.d (.full _ _ _)) (.same _ (.same _ (.same _ (.same _ (.same _ (.same _ (.same _ (.same _ (.same _ (.same _ (.same _ (.same _ (.nil)))))))))))))
def Qnw (n:Nat)(a1 a2:jVj)(a3 a4:Int)(a5 a6:Bool)(a7 a8 f:Int)(d c e:jVj)(b:(Int)⊕Int×jVj):Option ((Int⊕Int×jVj)⊕Unit⊕jVj):=match b with|(.inl b)=>(if b<((c).length:Int) then if 0<=b/\b<((c).length:Int) then((nth (c) (Int.toNat b)).bind QM).bind fun a=>if a.2.2.2.2.2=true then if Qh (b+1) then some (.inl (.inr ((b+1),[.agg [.v (.string a.1),.v (.string a.2.1),I a.2.2.1,I a.2.2.2.1,B a.2.2.2.2.1,B a.2.2.2.2.2]]))) else none else if Qh (b+1) then some (.inl (.inl (b+1))) else none else none else some (.inr (.inl ())))|.inr b=>(if b.1<((c).length:Int) then if 0<=b.1/\b.1<((c).length:Int) then((nth (c) (Int.toNat b.1)).bind QM).bind fun a=>if a.2.2.2.2.2=true then if Wa 56 ((b.2).length+1) then if Qh (b.1+1) then some (.inl (.inr ((b.1+1),(b.2++([.agg [.v (.string a.1),.v (.string a.2.1),I a.2.2.1,I a.2.2.2.1,B a.2.2.2.2.1,B a.2.2.2.2.2]]:jVj))))) else none else none else if Qh (b.1+1) then some (.inl (.inr ((b.1+1),b.2))) else none else none else some (.inr (.inr b.2)))
noncomputable def Qon (a1 a2:jVj)(a3 a4:Int)(a5 a6:Bool)(a7 a8 f:Int)(b a c:jVj):Lp (Int⊕Int×jVj) (Unit⊕jVj):=⟨fun
 | (.inl sa)=>[(0,.own 30 0),(8,.own 11 0),(9,.d (I ((a).length:Int))),(10,.d (I sa))]
 | (.inr sa)=>[(0,.own 30 0),(8,.own 11 0),(9,.d (I ((a).length:Int))),(10,.d (I sa.1))],fun
 | (.inl sa)=>[(0,.box (.agg [.own 1 0,.own 2 0,.d (I a3),.d (I a4),.d (B a5),.d (B a6),.d (I a7),.d (I a8),.d (I f),.own 10 0,.own 11 0,.own 12 0])),(1,.row 0 5 a1),(2,.row 0 5 a2),(10,.row 0 1 b),(11,.row 0 6 a),(12,.row 0 7 c),(19,.box (.ptr 0 0 0 0 2)),(27,.box (.d (.lst true 0 []))),(30,.loop true [(6,.fn (.func 160) [] [.ptr 19 0 0 0 0]),(4,.d (.lst true 0 [])),(2,.ptr 27 0 0 0 0),(1,.fn (.func 160) [] [.ptr 19 0 0 0 0]),(0,.d (.lst true 0 []))] [7] (ZY cx.P 159 0).1 (ZY cx.P 159 0).2 13)]
 | (.inr sa)=>[(0,.box (.agg [.own 1 0,.own 2 0,.d (I a3),.d (I a4),.d (B a5),.d (B a6),.d (I a7),.d (I a8),.d (I f),.own 10 0,.own 11 0,.own 12 0])),(1,.row 0 5 a1),(2,.row 0 5 a2),(10,.row 0 1 b),(11,.row 0 6 a),(12,.row 0 7 c),(19,.box (.ptr 0 0 0 0 2)),(27,.box (.own 55 0)),(30,.loop true [(6,.fn (.func 160) [] [.ptr 19 0 0 0 0]),(4,.d (.lst true 0 [])),(2,.ptr 27 0 0 0 0),(1,.fn (.func 160) [] [.ptr 19 0 0 0 0]),(0,.d (.lst true 0 []))] [7] (ZY cx.P 159 0).1 (ZY cx.P 159 0).2 13),(55,.row 0 6 sa.2)],fun _=>(.exit 0),fun _=>[],fun
 | (.inl e)=>[(0,.box (.agg [.own 1 0,.own 2 0,.d (I a3),.d (I a4),.d (B a5),.d (B a6),.d (I a7),.d (I a8),.d (I f),.own 10 0,.own 11 0,.own 12 0])),(1,.row 0 5 a1),(2,.row 0 5 a2),(10,.row 0 1 b),(11,.row 0 6 a),(12,.row 0 7 c),(19,.box (.ptr 0 0 0 0 2)),(27,.box (.d (.lst true 0 []))),(30,.loop true [(6,.fn (.func 160) [] [.ptr 19 0 0 0 0]),(4,.d (.lst true 0 [])),(2,.ptr 27 0 0 0 0),(1,.fn (.func 160) [] [.ptr 19 0 0 0 0]),(0,.d (.lst true 0 []))] [7] (ZY cx.P 159 0).1 (ZY cx.P 159 0).2 13)]
 | (.inr e)=>[(0,.box (.agg [.own 1 0,.own 2 0,.d (I a3),.d (I a4),.d (B a5),.d (B a6),.d (I a7),.d (I a8),.d (I f),.own 10 0,.own 11 0,.own 12 0])),(1,.row 0 5 a1),(2,.row 0 5 a2),(10,.row 0 1 b),(11,.row 0 6 a),(12,.row 0 7 c),(19,.box (.ptr 0 0 0 0 2)),(27,.box (.own 55 0)),(30,.loop true [(6,.fn (.func 160) [] [.ptr 19 0 0 0 0]),(4,.d (.lst true 0 [])),(2,.ptr 27 0 0 0 0),(1,.fn (.func 160) [] [.ptr 19 0 0 0 0]),(0,.d (.lst true 0 []))] [7] (ZY cx.P 159 0).1 (ZY cx.P 159 0).2 13),(55,.row 0 6 e)]⟩
theorem Qn7 {n a1 a2 a3 a4 a5 a6 a7 a8 g c d e}(f)(r)(h:Qnw n a1 a2 a3 a4 a5 a6 a7 a8 g c d e f=some r):Rl (ZJ cx.P 160 0) 23 31 false (Qon a1 a2 a3 a4 a5 a6 a7 a8 g c d e) f r:=by
 unfold Qnw at h;obtain f|f:=f
 ·obtain⟨a,h⟩|⟨a,h⟩:=io h
  ·have⟨ha2,h⟩:=gd h;have⟨ta3,ha3,h⟩:=bo h;have q:=Qa (QX Qq ha3) (Qa ha2 (Qa (jDj a) QL));let o(l:jOj):=b1::b1::.el (QB ta3)::l;obtain⟨b,h⟩|⟨b,h⟩:=io h
   ·have⟨ha5,h⟩:=gd h;cases h;exact rn 37 (o [b1,.no,.no,.no]) [] [0,8,9,10] [0,1,2,10,11,12,19,27,30,55] (Qa ha5 (Qa b q))
   have⟨ha5,h⟩:=gd h;cases h;exact rn 37 (o [b0,.no]) [] [0,8,9,10] [0,1,2,10,11,12,19,27,30] (Qa ha5 (Qa (QA b) q))
  cases h;exact rx 37 [b0] [] [] [0,1,2,10,11,12,19,27,30] (Qa (jEj a) QL)
 ·obtain⟨a,h⟩|⟨a,h⟩:=io h
  ·have⟨ha2,h⟩:=gd h;have⟨ta3,ha3,h⟩:=bo h;have q:=Qa (QX Qq ha3) (Qa ha2 (Qa (jDj a) QL));let o(l:jOj):=b1::b1::.el (QB ta3)::l;obtain⟨b,h⟩|⟨b,h⟩:=io h
   ·have⟨ha5,h⟩:=gd h;have⟨ha6,h⟩:=gd h;cases h;exact rn 56 (o [b1,b1,.no]) [] [0,8,9,10] [0,1,2,10,11,12,19,27,30,55] (Qa ha6 (Qa (ro 127 ha5) (Qa b q)))
   have⟨ha5,h⟩:=gd h;cases h;exact rn 56 (o [b0,.no]) [] [0,8,9,10] [0,1,2,10,11,12,19,27,30,55] (Qa ha5 (Qa (QA b) q))
  cases h;exact rx 56 [b0] [] [] [0,1,2,10,11,12,19,27,30,55] (Qa (jEj a) QL)
def QnA (n:Nat)(a1 a2:jVj)(a3 a4:Int)(a5 a6:Bool)(a7 a8 h:Int)(e f g c:jVj)(b:(Int×jVj)):Option (Int×jVj⊕jVj) := if b.1<((c).length:Int) then if 0<=b.1/\b.1<((c).length:Int) then((nth (c) (Int.toNat b.1)).bind QM).bind fun a=>(ZN n a.1 a.2.1 a.2.2.1 a.2.2.2.1 a.2.2.2.2.1 a.2.2.2.2.2).bind fun d=>if Wa 16 ((b.2).length+1) then if Qh (b.1+1) then some (.inl ((b.1+1),(b.2++([.v (.string d)]:jVj)))) else none else none else none else some (.inr b.2)
noncomputable def Qom (a1 a2:jVj)(a3 a4:Int)(a5 a6:Bool)(a7 a8 h:Int)(a b c g:jVj):Lp (Int×jVj) (jVj):=⟨fun f=>[(1,.d (.fn (.func 61) [] [])),(5,.own 96 0),(8,.own 55 0),(9,.d (I ((g).length:Int))),(10,.d (I f.1))],fun f=>[(0,.box (.agg [.own 1 0,.own 2 0,.d (I a3),.d (I a4),.d (B a5),.d (B a6),.d (I a7),.d (I a8),.d (I h),.own 10 0,.own 11 0,.own 12 0])),(1,.row 0 5 a1),(2,.row 0 5 a2),(10,.row 0 1 a),(11,.row 0 6 b),(12,.row 0 7 c),(19,.box (.ptr 0 0 0 0 2)),(27,.box (.own 55 0)),(30,.dead),(55,.row 0 6 g),(96,.row 0 1 f.2)],fun _=>(.exit 0),fun _=>[(5,.own 96 0)],fun e=>[(0,.box (.agg [.own 1 0,.own 2 0,.d (I a3),.d (I a4),.d (B a5),.d (B a6),.d (I a7),.d (I a8),.d (I h),.own 10 0,.own 11 0,.own 12 0])),(1,.row 0 5 a1),(2,.row 0 5 a2),(10,.row 0 1 a),(11,.row 0 6 b),(12,.row 0 7 c),(19,.box (.ptr 0 0 0 0 2)),(27,.box (.own 55 0)),(30,.dead),(55,.row 0 6 g),(96,.row 0 1 e)]⟩
theorem Qoj {n a1 a2 a3 a4 a5 a6 a7 a8 e b c d g}(f)(r)(h:QnA n a1 a2 a3 a4 a5 a6 a7 a8 e b c d g f=some r):Rl (ZJ cx.P 58 0) 22 91 false (Qom a1 a2 a3 a4 a5 a6 a7 a8 e b c d g) f r:=by
 unfold QnA at h;obtain⟨a,h⟩|⟨a,h⟩:=io h
 ·have⟨ha2,h⟩:=gd h;have⟨ta3,ha3,h⟩:=bo h;have⟨ta4,ha4,h⟩:=bo h;have⟨ha5,h⟩:=gd h;have⟨ha6,h⟩:=gd h;cases h;exact rn 97 [b1,b1,.el (QB ta3),.ret (Qr5 ta4),b1] [] [1,5,8,9,10] [0,1,2,10,11,12,19,27,30,55,96] (Qa ha6 (Qa (ro 9 ha5) (Qa (jJ ha4) (Qa (QX Qq ha3) (Qa ha2 (Qa (jDj a) QL))))))
 cases h;exact rx 97 [b0] [] [5] [0,1,2,10,11,12,19,27,30,55,96] (Qa (jEj a) QL)
def QnP (n:Nat)(a0:jSj)(a1 a2:jVj)(a3 a4:Int)(a5 a6:Bool)(a7 a8 e:Int)(a b c:jVj):Option (jVj) := (Q2 (Qnw n a1 a2 a3 a4 a5 a6 a7 a8 e a b c) n (.inl 0)).bind fun d=>match d with|.inl d=>(some [])|.inr d=>((Q2 (QnA n a1 a2 a3 a4 a5 a6 a7 a8 e a b c d) n (0,[])).bind fun f=>some f)
theorem QoC {n a0 a1 a2 a3 a4 a5 a6 a7 a8 e a b c r}(h:QnP n a0 a1 a2 a3 a4 a5 a6 a7 a8 e a b c=some r):ComputesO cx 89 [.ptr 0 0 0 0 2,.d (Qr5 a0)] (some (Qb a1 a2 a3 a4 a5 a6 a7 a8 e a b c)) (.d (.lst false 1 r)) (Qb a1 a2 a3 a4 a5 a6 a7 a8 e a b c) ZV:=by
 unfold QnP at h;have⟨f,h1,h⟩:=bo h;obtain f|f:=f
 ·cases h;exact(rfO 0 (r:=.d (.lst true 0 [])) (cs:=(Qb a1 a2 a3 a4 a5 a6 a7 a8 e a b c)) [b1,b1,b1,.lp [] [0,8,9,10] [0,1,2,10,11,12,19,27,30] (.exit 0) [] [(0,.box (.agg [.own 1 0,.own 2 0,.d (I a3),.d (I a4),.d (B a5),.d (B a6),.d (I a7),.d (I a8),.d (I e),.own 10 0,.own 11 0,.own 12 0])),(1,.row 0 5 a1),(2,.row 0 5 a2),(10,.row 0 1 a),(11,.row 0 6 b),(12,.row 0 7 c),(19,.box (.ptr 0 0 0 0 2)),(27,.box (.d (.lst true 0 []))),(30,.loop true [(6,.fn (.func 160) [] [.ptr 19 0 0 0 0]),(4,.d (.lst true 0 [])),(2,.ptr 27 0 0 0 0),(1,.fn (.func 160) [] [.ptr 19 0 0 0 0]),(0,.d (.lst true 0 []))] [7] (ZY cx.P 159 0).1 (ZY cx.P 159 0).2 13)] 89,b1,.no,.no] (Qa (QH Qn7 h1) QL)).le (.refl _) (.refl _) (.d (.nilF)) (.same _ (.same _ (.same _ (.same _ (.same _ (.same _ (.same _ (.same _ (.same _ (.same _ (.same _ (.same _ (.nil)))))))))))))
 have⟨t2,h2,h⟩:=bo h;obtain rfl:=oi h;exact rfO 0 [b1,b1,b1,.lp [] [0,8,9,10] [0,1,2,10,11,12,19,27,30] (.exit 0) [] [(0,.box (.agg [.own 1 0,.own 2 0,.d (I a3),.d (I a4),.d (B a5),.d (B a6),.d (I a7),.d (I a8),.d (I e),.own 10 0,.own 11 0,.own 12 0])),(1,.row 0 5 a1),(2,.row 0 5 a2),(10,.row 0 1 a),(11,.row 0 6 b),(12,.row 0 7 c),(19,.box (.ptr 0 0 0 0 2)),(27,.box (.own 55 0)),(30,.loop true [(6,.fn (.func 160) [] [.ptr 19 0 0 0 0]),(4,.d (.lst true 0 [])),(2,.ptr 27 0 0 0 0),(1,.fn (.func 160) [] [.ptr 19 0 0 0 0]),(0,.d (.lst true 0 []))] [7] (ZY cx.P 159 0).1 (ZY cx.P 159 0).2 13),(55,.row 0 6 f)] 89,b1,.lp [5,1] [1,5,8,9,10] [0,1,2,10,11,12,19,27,30,55,96] (.exit 0) [(5,.own 96 0)] [(0,.box (.agg [.own 1 0,.own 2 0,.d (I a3),.d (I a4),.d (B a5),.d (B a6),.d (I a7),.d (I a8),.d (I e),.own 10 0,.own 11 0,.own 12 0])),(1,.row 0 5 a1),(2,.row 0 5 a2),(10,.row 0 1 a),(11,.row 0 6 b),(12,.row 0 7 c),(19,.box (.ptr 0 0 0 0 2)),(27,.box (.own 55 0)),(30,.dead),(55,.row 0 6 f),(96,.row 0 1 t2)] 122] (Qa (QH Qoj h2) (Qa (QH Qn7 h1) QL))
def QnO (n:Nat)(a0:jSj)(a1 a2:jVj)(a3 a4:Int)(a5 a6:Bool)(a7 a8 d:Int)(a b c:jVj):Option (jVj) := (QiX n ([I a7,I a8,I d])).bind fun e=>some e
theorem QoB {n a0 a1 a2 a3 a4 a5 a6 a7 a8 e a b c r}(h:QnO n a0 a1 a2 a3 a4 a5 a6 a7 a8 e a b c=some r):ComputesO cx 90 [.ptr 0 0 0 0 2,.d (Qr5 a0)] (some (Qb a1 a2 a3 a4 a5 a6 a7 a8 e a b c)) (.d (.lst false 1 r)) (Qb a1 a2 a3 a4 a5 a6 a7 a8 e a b c) ZV:=by unfold QnO at h;have⟨t1,h1,h⟩:=bo h;obtain rfl:=oi h;exact rfO 0 [.ret (.lst false 1 t1)] (Qa (((QjQ h1).le (.cons (.full _ _ _) (.cons (.refl _) (.nil))) (.refl _)):Computes cx 91 [.lst true 1 [I a7,I a8,I e],.fn (.func 46) [] []] (.lst false 1 t1)) QL)
def QnW (n:Nat)(a0:jSj)(a1 a2 a3 a4 a5:Int)(a6:Bool):Option (Bool) := some (!a6)
theorem QoF {n a0 a1 a2 a3 a4 a5 a6 r}(h:QnW n a0 a1 a2 a3 a4 a5 a6=some r):Computes cx 96 [.agg [Qr5 a0,I a1,I a2,I a3,I a4,I a5,B a6]] (B r):=by unfold QnW at h;cases h;exact rf [] QL
def QnS (n:Nat)(a0:jSj)(a1 a2 a3 a4 a5:Int)(a6:Bool):Option (jVj) := (Zg n a0 a1 a2 a3 a4 a5 a6).bind fun a=>(Jk n a).bind fun b=>some [.v (.string a0),.v (.string b)]
theorem Qog {n a0 a1 a2 a3 a4 a5 a6 r}(h:QnS n a0 a1 a2 a3 a4 a5 a6=some r):Computes cx 97 [.agg [Qr5 a0,I a1,I a2,I a3,I a4,I a5,B a6]] (.lst false 1 r):=by unfold QnS at h;have⟨t1,h1,h⟩:=bo h;have⟨t2,h2,h⟩:=bo h;cases h;exact(rf (r:=.lst true 1 [Qr5 a0,Qr5 t2]) [.ret (I t1),.ret (Qr5 t2)] (Qa (jd h2) (Qa (W8 h1) QL))).le (LEs.refl _) (.full _ _ _)
def QnF (n:Nat)(a0:jVj)(b:(Int×jVj)):Option (Int×jVj⊕jVj) := if b.1<((a0).length:Int) then(el Z6 a0 b.1).bind fun a=>(QnS n a.1 a.2.1 a.2.2.1 a.2.2.2.1 a.2.2.2.2.1 a.2.2.2.2.2.1 a.2.2.2.2.2.2).bind fun c=>if Wa 24 ((b.2).length+1) then if Qh (b.1+1) then some (.inl ((b.1+1),(b.2++([.lst false 1 c]:jVj)))) else none else none else some (.inr b.2)
noncomputable def Qov (a0:jVj):Lp (Int×jVj) (jVj):=⟨fun a=>[(1,.d (.fn (.func 97) [] [])),(5,.own 5 0),(8,.d (.lst false 7 a0)),(9,.d (I ((a0).length:Int))),(10,.d (I a.1))],fun a=>[(5,.row 0 1 a.2)],fun _=>(.exit 0),fun _=>[(5,.own 5 0)],fun e=>[(5,.row 0 1 e)]⟩
theorem Qou {n a0}(b)(r)(h:QnF n a0 b=some r):Rl (ZJ cx.P 94 0) 22 0 false (Qov a0) b r:=by
 unfold QnF at h;obtain⟨a,h⟩|⟨a,h⟩:=io h
 ·have⟨ta2,ha2,h⟩:=bo h;have⟨ta3,ha3,h⟩:=bo h;have⟨ha4,h⟩:=gd h;have⟨ha5,h⟩:=gd h;cases h;exact rn 6 [b1,.el (Q7 ta2),.ret (.lst false 1 ta3),b1] [] [1,5,8,9,10] [5] (Qa ha5 (Qa (ro 22 ha4) (Qa (Qog ha3) (allE Q0 ha2 (Qa (jDj a) QL)))))
 cases h;exact rx 6 [b0] [] [5] [5] (Qa (jEj a) QL)
def QnZ (n:Nat)(a0:jVj):Option (jVj) := (Q2 (QnF n a0) n (0,[])).bind fun a=>some a
theorem QoT {n a0 r}(h:QnZ n a0=some r):Computes cx 94 [.lst false 7 a0,.fn (.func 97) [] []] (.lst false 1 r):=by unfold QnZ at h;have⟨t1,h1,h⟩:=bo h;obtain rfl:=oi h;exact rf [.lp [5,1] [1,5,8,9,10] [5] (.exit 0) [(5,.own 5 0)] [(5,.row 0 1 t1)] 31] (Qa (QH Qou h1) QL)
def QpH (x:jVj):D:=.lst false 1 x
def QpJ (d:D):Option (jVj):=Em 1 d
theorem Qps {d:D}{x:jVj}(h:QpJ d=some x):d=QpH x:=J7 h
def QnB (n:Nat)(a0:jVj)(a:(Int×Int)):Option (Int×Int⊕Int) := if a.2<((a0).length:Int) then(el QpJ a0 a.2).bind fun b=>if Qh (a.1+((b).length:Int)) then if(a.1+((b).length:Int))<0 then none else if Qh (a.2+1) then some (.inl ((a.1+((b).length:Int)),(a.2+1))) else none else none else some (.inr a.1)
noncomputable def QoM (a0:jVj):Lp (Int×Int) (Int):=⟨fun a=>[(0,.d (.lst false 1 a0)),(3,.d (I a.1)),(9,.d (.lst false 1 a0)),(10,.d (I ((a0).length:Int))),(11,.d (I a.2))],fun _=>[],fun _=>(.exit 0),fun e=>[(0,.d (.lst false 1 a0)),(3,.d (I e))],fun _=>[]⟩
theorem QoG {n a0}(c)(r)(h:QnB n a0 c=some r):Rl (ZJ cx.P 93 0) 36 0 false (QoM a0) c r:=by
 unfold QnB at h;obtain⟨a,h⟩|⟨a,h⟩:=io h
 ·have⟨ta2,ha2,h⟩:=bo h;have⟨ha3,h⟩:=gd h;obtain⟨b,h⟩|⟨b,h⟩:=io h
  ·cases h
  have⟨ha5,h⟩:=gd h;cases h;exact rn 5 [b1,.el (QpH ta2),b0] [] [0,3,9,10,11] [] (Qa ha5 (Qa (jEj b) (Qa ha3 (allE Qps ha2 (Qa (jDj a) QL)))))
 cases h;exact rx 5 [b0] [] [0,3] [] (Qa (jEj a) QL)
def Qny (n:Nat)(a0:jVj)(a:(Int×jVj)):Option (Int×jVj⊕jVj) := if a.1<((a0).length:Int) then(el QpJ a0 a.1).bind fun b=>if Wa 16 ((a.2).length+(b).length) then if Qh (a.1+1) then some (.inl ((a.1+1),(a.2++b))) else none else none else some (.inr a.2)
noncomputable def QoL (a0:jVj):Lp (Int×jVj) (jVj):=⟨fun a=>[(6,.own 50 0),(25,.d (.lst false 1 a0)),(26,.d (I ((a0).length:Int))),(27,.d (I a.1))],fun a=>[(50,.row 0 1 a.2)],fun _=>(.exit 2),fun _=>[(6,.own 50 0)],fun e=>[(50,.row 0 1 e)]⟩
theorem Qob {n a0}(b)(r)(h:Qny n a0 b=some r):Rl (ZJ cx.P 93 1) 36 0 false (QoL a0) b r:=by
 unfold Qny at h;obtain⟨a,h⟩|⟨a,h⟩:=io h
 ·have⟨ta2,ha2,h⟩:=bo h;have⟨ha3,h⟩:=gd h;have⟨ha4,h⟩:=gd h;cases h;exact rn 60 [b1,.el (QpH ta2),b1] [] [6,25,26,27] [50] (Qa ha4 (Qa (ro 9 ha3) (allE Qps ha2 (Qa (jDj a) QL))))
 cases h;exact rx 60 [b0] [] [6] [50] (Qa (jEj a) QL)
def QnV (n:Nat)(a0:jVj):Option (jVj) := (Q2 (QnB n a0) n (0,0)).bind fun a=>if a<0 then none else if Qh (a - 0) then if(a - 0)>0 then if 0<(a - 0)/\Wa 16 (Int.toNat (a - 0)) then if(0:Int)<=0/\0<=(((List.replicate (Int.toNat (a - 0)) (.v (.string ⟨#[]⟩):D)):jVj).length:Int) then(Q2 (Qny n a0) n (0,[])).bind fun c=>some c else none else none else(Q2 (Qny n a0) n (0,[])).bind fun b=>some b else none
theorem QoY {n a0 r}(h:QnV n a0=some r):Computes cx 93 [.lst false 1 a0] (.lst false 1 r):=by
 unfold QnV at h;have⟨t1,h1,h⟩:=bo h;have q:=Qa (QH QoG h1) QL;let o(l:jOj):=.lp [] [0,3,9,10,11] [] (.exit 0) [(0,.d (.lst false 1 a0)),(3,.d (I t1))] [] 29::b1::b0::l;obtain⟨c,h⟩|⟨c,h⟩:=io h
 ·cases h
 have⟨h3,h⟩:=gd h;have q:=Qa h3 (Qa ((by unfold Qh;omega):Qh 0) (Qa (jEj c) q));obtain⟨a,h⟩|⟨a,h⟩:=io h
 ·have⟨h5,h⟩:=gd h;have⟨h6,h⟩:=gd h;have⟨t7,h7,h⟩:=bo h;obtain rfl:=oi h;exact rf (o [b1,.no,b1,.ix 0,b1,.lp [] [6,25,26,27] [50] (.exit 2) [(6,.own 50 0)] [(50,.row 0 1 t7)] 81]) (Qa (QH Qob h7) (Qa h6 (Qa (⟨h5.1,(ZB (b:=16) (by kernel_rfl) (by decide) h5.2)⟩:0<(t1 - 0)/\room cx 9 (Int.toNat (t1 - 0))) (Qa (jDj a) q))))
 have⟨t5,h5,h⟩:=bo h;obtain rfl:=oi h;exact rf (o [b0,.lp [6,1] [6,25,26,27] [50] (.exit 2) [(6,.own 50 0)] [(50,.row 0 1 t5)] 81]) (Qa (QH Qob h5) (Qa (jEj a) q))
def Qnz (n:Nat)(a1 a2:jVj)(a3 a4:Int)(a5 a6:Bool)(a7 a8 g:Int)(e f c:jVj)(b:(Int×jVj)):Option (Int×jVj⊕jVj) := if b.1<((c).length:Int) then if 0<=b.1/\b.1<((c).length:Int) then((nth (c) (Int.toNat b.1)).bind Z6).bind fun a=>(QnW n a.1 a.2.1 a.2.2.1 a.2.2.2.1 a.2.2.2.2.1 a.2.2.2.2.2.1 a.2.2.2.2.2.2).bind fun d=>if d=true then if Wa 64 ((b.2).length+1) then if Qh (b.1+1) then some (.inl ((b.1+1),(b.2++([.agg [.v (.string a.1),I a.2.1,I a.2.2.1,I a.2.2.2.1,I a.2.2.2.2.1,I a.2.2.2.2.2.1,B a.2.2.2.2.2.2]]:jVj)))) else none else none else if Qh (b.1+1) then some (.inl ((b.1+1),b.2)) else none else none else some (.inr b.2)
noncomputable def Qol (a1 a2:jVj)(a3 a4:Int)(a5 a6:Bool)(a7 a8 g:Int)(b c a:jVj):Lp (Int×jVj) (jVj):=⟨fun f=>[(1,.d (.fn (.func 96) [] [])),(5,.own 27 0),(8,.own 12 0),(9,.d (I ((a).length:Int))),(10,.d (I f.1))],fun f=>[(0,.box (.agg [.own 1 0,.own 2 0,.d (I a3),.d (I a4),.d (B a5),.d (B a6),.d (I a7),.d (I a8),.d (I g),.own 10 0,.own 11 0,.own 12 0])),(1,.row 0 5 a1),(2,.row 0 5 a2),(10,.row 0 1 b),(11,.row 0 6 c),(12,.row 0 7 a),(27,.row 0 7 f.2)],fun _=>(.exit 0),fun _=>[(5,.own 27 0)],fun e=>[(0,.box (.agg [.own 1 0,.own 2 0,.d (I a3),.d (I a4),.d (B a5),.d (B a6),.d (I a7),.d (I a8),.d (I g),.own 10 0,.own 11 0,.own 12 0])),(1,.row 0 5 a1),(2,.row 0 5 a2),(10,.row 0 1 b),(11,.row 0 6 c),(12,.row 0 7 a),(27,.row 0 7 e)]⟩
theorem Qoi {n a1 a2 a3 a4 a5 a6 a7 a8 f c d e}(g)(r)(h:Qnz n a1 a2 a3 a4 a5 a6 a7 a8 f c d e g=some r):Rl (ZJ cx.P 95 0) 23 22 false (Qol a1 a2 a3 a4 a5 a6 a7 a8 f c d e) g r:=by
 unfold Qnz at h;obtain⟨a,h⟩|⟨a,h⟩:=io h
 ·have⟨ha2,h⟩:=gd h;have⟨ta3,ha3,h⟩:=bo h;have⟨ta4,ha4,h⟩:=bo h;have q:=Qa (QoF ha4) (Qa (QX Q0 ha3) (Qa ha2 (Qa (jDj a) QL)));let o(l:jOj):=b1::b1::.el (Q7 ta3)::.ret (B ta4)::l;obtain⟨b,h⟩|⟨b,h⟩:=io h
  ·have⟨ha6,h⟩:=gd h;have⟨ha7,h⟩:=gd h;cases h;exact rn 28 (o [b1,b1]) [] [1,5,8,9,10] [0,1,2,10,11,12,27] (Qa ha7 (Qa (ro 174 ha6) (Qa b q)))
  have⟨ha6,h⟩:=gd h;cases h;exact rn 28 (o [b0]) [] [1,5,8,9,10] [0,1,2,10,11,12,27] (Qa ha6 (Qa (QA b) q))
 cases h;exact rx 28 [b0] [] [5] [0,1,2,10,11,12,27] (Qa (jEj a) QL)
def QnN (n:Nat)(a0:jSj)(a1 a2:jVj)(a3 a4:Int)(a5 a6:Bool)(a7 a8 d:Int)(a b c:jVj):Option (jVj) := (Q2 (Qnz n a1 a2 a3 a4 a5 a6 a7 a8 d a b c) n (0,[])).bind fun e=>(QnZ n e).bind fun f=>(QnV n f).bind fun g=>some g
theorem QoA {n a0 a1 a2 a3 a4 a5 a6 a7 a8 e a b c r}(h:QnN n a0 a1 a2 a3 a4 a5 a6 a7 a8 e a b c=some r):ComputesO cx 92 [.ptr 0 0 0 0 2,.d (Qr5 a0)] (some (Qb a1 a2 a3 a4 a5 a6 a7 a8 e a b c)) (.d (.lst false 1 r)) (Qb a1 a2 a3 a4 a5 a6 a7 a8 e a b c) ZV:=by unfold QnN at h;have⟨t1,h1,h⟩:=bo h;have⟨t2,h2,h⟩:=bo h;have⟨t3,h3,h⟩:=bo h;obtain rfl:=oi h;exact rfO 0 [b1,.lp [5,7] [1,5,8,9,10] [0,1,2,10,11,12,27] (.exit 0) [(5,.own 27 0)] [(0,.box (.agg [.own 1 0,.own 2 0,.d (I a3),.d (I a4),.d (B a5),.d (B a6),.d (I a7),.d (I a8),.d (I e),.own 10 0,.own 11 0,.own 12 0])),(1,.row 0 5 a1),(2,.row 0 5 a2),(10,.row 0 1 a),(11,.row 0 6 b),(12,.row 0 7 c),(27,.row 0 7 t1)] 54,.ret (.lst false 1 t2),.ret (.lst false 1 t3)] (Qa (QoY h3) (Qa (QoT h2) (Qa (QH Qoi h1) QL)))
def QnM (n:Nat)(a0:jSj)(a1 a2:jVj)(a3 a4:Int)(a5 a6:Bool)(a7 a8 e:Int)(b a c:jVj):Option (jVj) := (Qw n 109 a1 a2 a3 a4 a5 a6 a7 a8 e b a c).bind fun f=>(QE n f a0).bind fun d=>if 0<=d/\d<((a).length:Int) then((nth (a) (Int.toNat d)).bind QM).bind fun g=>(Jk n g.2.2.2.1).bind fun h=>some [.v (.string h)] else none
theorem Qoz {n a0 a1 a2 a3 a4 a5 a6 a7 a8 e a b c r}(h:QnM n a0 a1 a2 a3 a4 a5 a6 a7 a8 e a b c=some r):ComputesO cx 98 [.ptr 0 0 0 0 2,.d (Qr5 a0)] (some (Qb a1 a2 a3 a4 a5 a6 a7 a8 e a b c)) (.d (.lst false 1 r)) (Qb a1 a2 a3 a4 a5 a6 a7 a8 e a b c) ZV:=by unfold QnM at h;have⟨t1,h1,h⟩:=bo h;have⟨t2,h2,h⟩:=bo h;have⟨h3,h⟩:=gd h;have⟨t4,h4,h⟩:=bo h;have⟨t5,h5,h⟩:=bo h;cases h;exact(rfO 0 (r:=.d (.lst true 1 [Qr5 t5])) (cs:=(Qb a1 a2 a3 a4 a5 a6 a7 a8 e a b c)) [b1,.obj (some 0) (.d (.lst false 1 t1)) (Qb a1 a2 a3 a4 a5 a6 a7 a8 e a b c) ZV,.ret (I t2),b1,.el (QB t4),.ret (Qr5 t5)] (Qa (jd h5) (Qa (QX Qq h4) (Qa h3 (Qa (QK h2) (Qa (QC h1) QL)))))).le (.refl _) (.refl _) (.d (.full _ _ _)) (.same _ (.same _ (.same _ (.same _ (.same _ (.same _ (.same _ (.same _ (.same _ (.same _ (.same _ (.same _ (.nil)))))))))))))
def QnL (n:Nat)(a0:jSj)(a1 a2:jVj)(a3 a4:Int)(a5 a6:Bool)(a7 a8 e:Int)(a b c:jVj):Option (jVj) := (VV n a0 a1 a2 a3 a4 a5 a6 a7 a8 e a b c).bind fun d=>(QiX n ([I d.1,I d.2])).bind fun f=>some f
theorem Qoy {n a0 a1 a2 a3 a4 a5 a6 a7 a8 e a b c r}(h:QnL n a0 a1 a2 a3 a4 a5 a6 a7 a8 e a b c=some r):ComputesO cx 99 [.ptr 0 0 0 0 2,.d (Qr5 a0)] (some (Qb a1 a2 a3 a4 a5 a6 a7 a8 e a b c)) (.d (.lst false 1 r)) (Qb a1 a2 a3 a4 a5 a6 a7 a8 e a b c) ZV:=by unfold QnL at h;have⟨t1,h1,h⟩:=bo h;have⟨t2,h2,h⟩:=bo h;obtain rfl:=oi h;exact rfO 0 [.obj (some 0) (.d (.agg [I t1.1,I t1.2])) (Qb a1 a2 a3 a4 a5 a6 a7 a8 e a b c) ZV,.ret (.lst false 1 t2)] (Qa (((QjQ h2).le (.cons (.full _ _ _) (.cons (.refl _) (.nil))) (.refl _)):Computes cx 91 [.lst true 1 [I t1.1,I t1.2],.fn (.func 46) [] []] (.lst false 1 t2)) (Qa (GU h1) QL))
def Qnx (n:Nat)(a0:jSj)(a1 a2:jVj)(a3 a4:Int)(a5 a6:Bool)(a7 a8 e:Int)(a b c:jVj):Option (jSj×Int×jVj×jVj×jRj) := (Qm n (decide ((a0.size:Int)>4096)) 26).bind fun A=>(Qm n (a0.toList==(⟨#[]⟩:jSj).toList) 25).bind fun C=>(Qo n ([I A,I C])).bind fun z=>if z=0 then(Qjn n a0).bind fun f=>(el Ww f 0).bind fun k=>if k.data.toList=[115,116,97,116,101] then if(0:Int)<=1/\1<=((f).length:Int)/\((f).length:Int)<=((f).length:Int)/\(f=[]\/1=1) then if(((f.drop (Int.toNat 1)):jVj).length:Int)>0 then some (⟨#[]⟩,25,a1,a2,a3,a4,a5,a6,a7,a8,e,a,b,c) else(QnR n (⟨#[]⟩) a1 a2 a3 a4 a5 a6 a7 a8 e a b c).bind fun q=>if((q).length:Int)=0 then some (⟨#[110,111,110,101]⟩,0,a1,a2,a3,a4,a5,a6,a7,a8,e,a,b,c) else(Jj n q (⟨#[32]⟩)).bind fun l=>some (l,0,a1,a2,a3,a4,a5,a6,a7,a8,e,a,b,c) else none else if k.data.toList=[114,97,116,101] then if(0:Int)<=1/\1<=((f).length:Int)/\((f).length:Int)<=((f).length:Int)/\(f=[]\/1=1) then if(((f.drop (Int.toNat 1)):jVj).length:Int)>0 then some (⟨#[]⟩,25,a1,a2,a3,a4,a5,a6,a7,a8,e,a,b,c) else(QnQ n (⟨#[]⟩) a1 a2 a3 a4 a5 a6 a7 a8 e a b c).bind fun r=>if((r).length:Int)=0 then some (⟨#[110,111,110,101]⟩,0,a1,a2,a3,a4,a5,a6,a7,a8,e,a,b,c) else(Jj n r (⟨#[32]⟩)).bind fun m=>some (m,0,a1,a2,a3,a4,a5,a6,a7,a8,e,a,b,c) else none else if k.data.toList=[97,105,109,101,100] then if(0:Int)<=1/\1<=((f).length:Int)/\((f).length:Int)<=((f).length:Int)/\(f=[]\/1=1) then if(((f.drop (Int.toNat 1)):jVj).length:Int)>0 then some (⟨#[]⟩,25,a1,a2,a3,a4,a5,a6,a7,a8,e,a,b,c) else(QnP n (⟨#[]⟩) a1 a2 a3 a4 a5 a6 a7 a8 e a b c).bind fun l=>if((l).length:Int)=0 then some (⟨#[110,111,110,101]⟩,0,a1,a2,a3,a4,a5,a6,a7,a8,e,a,b,c) else(Jj n l (⟨#[32]⟩)).bind fun o=>some (o,0,a1,a2,a3,a4,a5,a6,a7,a8,e,a,b,c) else none else if k.data.toList=[98,111,111,107,115] then if(0:Int)<=1/\1<=((f).length:Int)/\((f).length:Int)<=((f).length:Int)/\(f=[]\/1=1) then if(((f.drop (Int.toNat 1)):jVj).length:Int)>0 then some (⟨#[]⟩,25,a1,a2,a3,a4,a5,a6,a7,a8,e,a,b,c) else(QnO n (⟨#[]⟩) a1 a2 a3 a4 a5 a6 a7 a8 e a b c).bind fun m=>if((m).length:Int)=0 then some (⟨#[110,111,110,101]⟩,0,a1,a2,a3,a4,a5,a6,a7,a8,e,a,b,c) else(Jj n m (⟨#[32]⟩)).bind fun j=>some (j,0,a1,a2,a3,a4,a5,a6,a7,a8,e,a,b,c) else none else if k.data.toList=[111,102,102,101,114,115] then if(0:Int)<=1/\1<=((f).length:Int)/\((f).length:Int)<=((f).length:Int)/\(f=[]\/1=1) then if(((f.drop (Int.toNat 1)):jVj).length:Int)>0 then some (⟨#[]⟩,25,a1,a2,a3,a4,a5,a6,a7,a8,e,a,b,c) else(QnN n (⟨#[]⟩) a1 a2 a3 a4 a5 a6 a7 a8 e a b c).bind fun o=>if((o).length:Int)=0 then some (⟨#[110,111,110,101]⟩,0,a1,a2,a3,a4,a5,a6,a7,a8,e,a,b,c) else(Jj n o (⟨#[32]⟩)).bind fun i=>some (i,0,a1,a2,a3,a4,a5,a6,a7,a8,e,a,b,c) else none else if k.data.toList=[100,105,114,116] then if(0:Int)<=1/\1<=((f).length:Int)/\((f).length:Int)<=((f).length:Int)/\(f=[]\/1=1) then if(((f.drop (Int.toNat 1)):jVj).length:Int)=1 then(el Ww (f.drop (Int.toNat 1)) 0).bind fun j=>if(j.toList==(⟨#[]⟩:jSj).toList)=true then some (⟨#[]⟩,25,a1,a2,a3,a4,a5,a6,a7,a8,e,a,b,c) else(Qw n 109 a1 a2 a3 a4 a5 a6 a7 a8 e a b c).bind fun x=>(Zb n x j).bind fun d=>if d=true then(QnM n j a1 a2 a3 a4 a5 a6 a7 a8 e a b c).bind fun h=>if((h).length:Int)=0 then some (⟨#[110,111,110,101]⟩,0,a1,a2,a3,a4,a5,a6,a7,a8,e,a,b,c) else(Jj n h (⟨#[32]⟩)).bind fun p=>some (p,0,a1,a2,a3,a4,a5,a6,a7,a8,e,a,b,c) else some (⟨#[]⟩,10,a1,a2,a3,a4,a5,a6,a7,a8,e,a,b,c) else some (⟨#[]⟩,25,a1,a2,a3,a4,a5,a6,a7,a8,e,a,b,c) else none else if k.data.toList=[99,111,117,110,116] then if(0:Int)<=1/\1<=((f).length:Int)/\((f).length:Int)<=((f).length:Int)/\(f=[]\/1=1) then if(((f.drop (Int.toNat 1)):jVj).length:Int)=1 then(el Ww (f.drop (Int.toNat 1)) 0).bind fun i=>if(i.toList==(⟨#[]⟩:jSj).toList)=true then some (⟨#[]⟩,25,a1,a2,a3,a4,a5,a6,a7,a8,e,a,b,c) else(Zb n a i).bind fun d=>if d=true then(QnL n i a1 a2 a3 a4 a5 a6 a7 a8 e a b c).bind fun h=>if((h).length:Int)=0 then some (⟨#[110,111,110,101]⟩,0,a1,a2,a3,a4,a5,a6,a7,a8,e,a,b,c) else(Jj n h (⟨#[32]⟩)).bind fun p=>some (p,0,a1,a2,a3,a4,a5,a6,a7,a8,e,a,b,c) else some (⟨#[]⟩,10,a1,a2,a3,a4,a5,a6,a7,a8,e,a,b,c) else some (⟨#[]⟩,25,a1,a2,a3,a4,a5,a6,a7,a8,e,a,b,c) else none else if ¬(VY (.string k) tab2).isSome=true then if(VY (.string k) Wr).isSome=true then((VY (.string k) Wr).bind J8).bind fun i=>if Qh (((a1).length:Int)+1) then(Qjz n (((a1).length:Int)+1) f).bind fun d=>(Qm n (!d.2.2.2.2.2) 25).bind fun y=>(Qm n (decide (((a1).length:Int)>=1000)) 5).bind fun h=>(Qo n ([I y,I h])).bind fun s=>if s=0 then(WX n d.1 d.2.1 d.2.2.1 d.2.2.2.1 d.2.2.2.2.1).bind fun t=>if t=0 then(Qs n d.1 d.2.1 d.2.2.1 d.2.2.2.1 d.2.2.2.2.1 a1 a2 a3 a4 a5 a6 a7 a8 e a b c).bind fun u=>if u=0 then(WO n d.1 d.2.1 d.2.2.1 d.2.2.2.1 d.2.2.2.2.1 a1 a2 a3 a4 a5 a6 a7 a8 e a b c).bind fun g=>(Jk n d.1).bind fun v=>if(⟨#[100,111,110,101,32]⟩:jSj).size+v.size<=9223372036854775807 then some (((⟨#[100,111,110,101,32]⟩:jSj)++v),0,g.1,g.2.1,g.2.2.1,g.2.2.2.1,g.2.2.2.2.1,g.2.2.2.2.2.1,g.2.2.2.2.2.2.1,g.2.2.2.2.2.2.2.1,g.2.2.2.2.2.2.2.2.1,g.2.2.2.2.2.2.2.2.2.1,g.2.2.2.2.2.2.2.2.2.2.1,g.2.2.2.2.2.2.2.2.2.2.2) else none else some (⟨#[]⟩,u,a1,a2,a3,a4,a5,a6,a7,a8,e,a,b,c) else some (⟨#[]⟩,t,a1,a2,a3,a4,a5,a6,a7,a8,e,a,b,c) else some (⟨#[]⟩,s,a1,a2,a3,a4,a5,a6,a7,a8,e,a,b,c) else none else some (⟨#[]⟩,13,a1,a2,a3,a4,a5,a6,a7,a8,e,a,b,c) else none else some (⟨#[]⟩,z,a1,a2,a3,a4,a5,a6,a7,a8,e,a,b,c)
theorem QnT {n a0 a1 a2 a3 a4 a5 a6 a7 a8 x g i j r}(h:Qnx n a0 a1 a2 a3 a4 a5 a6 a7 a8 x g i j=some r):ComputesO cx 9 [.ptr 0 0 0 0 0,.d (Qr5 a0)] (some (Qb a1 a2 a3 a4 a5 a6 a7 a8 x g i j)) (.d (.tup [Qr5 r.1,I r.2.1])) (Qb' r.2.2) []:=by
 unfold Qnx at h;have⟨t1,h1,h⟩:=bo h;have⟨t2,h2,h⟩:=bo h;have⟨t3,h3,h⟩:=bo h;have q:=Qa (leF (Qx h3)) (Qa (Qu h2) (Qa (Qu h1) QL));let o(l:jOj):=.no::.ret (I t1)::.ret (I t2)::.ret (I t3)::l;obtain⟨E,h⟩|⟨E,h⟩:=io h
 ·have⟨t5,h5,h⟩:=bo h;have⟨t6,h6,h⟩:=bo h;have q:=allE Qr h6 (Qa (QkW h5) (Qa (nef E) q));let o l:=o (b0::.ret (.lst false 1 t5)::b1::(no 7 (.el (Zy t6)::l)));obtain⟨F,h⟩|⟨F,h⟩:=io h
  ·have⟨C,h⟩:=gd h;have q:=Qa C (Qa (mk2 ⟨#[115,116,97,116,101]⟩ (.tup [.agg [.v (.int .u8 0),.fn (.func 86) [] []],B true]) F) q);let o l:=o (.el (.tup [.agg [.v (.int .u8 0),.fn (.func 86) [] []],B true])::.no::b1::.no::.no::l);obtain⟨y,h⟩|⟨y,h⟩:=io h
   ·cases h;exact rfO 0 (o [b1]) (Qa (jDj y) q)
   have⟨t10,k,h⟩:=bo h;have q:=Qa (QoE k) (Qa (jEj y) q);let o l:=o (b0::.obj (some 0) (.d (.lst false 1 t10)) (Qb a1 a2 a3 a4 a5 a6 a7 a8 x g i j) ZV::l);obtain⟨f,h⟩|⟨f,h⟩:=io h
   ·cases h;exact rfO 0 (o [b1]) (Qa (eqt f) q)
   have⟨t12,a,h⟩:=bo h;cases h;exact rfO 0 (o [b0,.ret (Qr5 t12)]) (Qa ((jc a):Computes cx 50 [.lst false 1 t10,Qr5 ⟨#[32]⟩] (Qr5 t12)) (Qa (eqf f) q))
  obtain⟨C,h⟩|⟨C,h⟩:=io h
  ·have⟨y,h⟩:=gd h;have q:=Qa y (Qa (mk2 ⟨#[114,97,116,101]⟩ (.tup [.agg [.v (.int .u8 0),.fn (.func 88) [] []],B true]) C) q);let o l:=o (.el (.tup [.agg [.v (.int .u8 0),.fn (.func 88) [] []],B true])::.no::b1::.no::.no::l);obtain⟨k,h⟩|⟨k,h⟩:=io h
   ·cases h;exact rfO 0 (o [b1]) (Qa (jDj k) q)
   have⟨t11,f,h⟩:=bo h;have q:=Qa (QoD f) (Qa (jEj k) q);let o l:=o (b0::.obj (some 0) (.d (.lst false 1 t11)) (Qb a1 a2 a3 a4 a5 a6 a7 a8 x g i j) ZV::l);obtain⟨a,h⟩|⟨a,h⟩:=io h
   ·cases h;exact rfO 0 (o [b1]) (Qa (eqt a) q)
   have⟨t13,b,h⟩:=bo h;cases h;exact rfO 0 (o [b0,.ret (Qr5 t13)]) (Qa ((jc b):Computes cx 50 [.lst false 1 t11,Qr5 ⟨#[32]⟩] (Qr5 t13)) (Qa (eqf a) q))
  obtain⟨y,h⟩|⟨y,h⟩:=io h
  ·have⟨k,h⟩:=gd h;have q:=Qa k (Qa (mk2 ⟨#[97,105,109,101,100]⟩ (.tup [.agg [.v (.int .u8 0),.fn (.func 89) [] []],B true]) y) q);let o l:=o (.el (.tup [.agg [.v (.int .u8 0),.fn (.func 89) [] []],B true])::.no::b1::.no::.no::l);obtain⟨f,h⟩|⟨f,h⟩:=io h
   ·cases h;exact rfO 0 (o [b1]) (Qa (jDj f) q)
   have⟨t12,a,h⟩:=bo h;have q:=Qa (QoC a) (Qa (jEj f) q);let o l:=o (b0::.obj (some 0) (.d (.lst false 1 t12)) (Qb a1 a2 a3 a4 a5 a6 a7 a8 x g i j) ZV::l);obtain⟨b,h⟩|⟨b,h⟩:=io h
   ·cases h;exact rfO 0 (o [b1]) (Qa (eqt b) q)
   have⟨t14,c,h⟩:=bo h;cases h;exact rfO 0 (o [b0,.ret (Qr5 t14)]) (Qa ((jc c):Computes cx 50 [.lst false 1 t12,Qr5 ⟨#[32]⟩] (Qr5 t14)) (Qa (eqf b) q))
  obtain⟨k,h⟩|⟨k,h⟩:=io h
  ·have⟨f,h⟩:=gd h;have q:=Qa f (Qa (mk2 ⟨#[98,111,111,107,115]⟩ (.tup [.agg [.v (.int .u8 0),.fn (.func 90) [] []],B true]) k) q);let o l:=o (.el (.tup [.agg [.v (.int .u8 0),.fn (.func 90) [] []],B true])::.no::b1::.no::.no::l);obtain⟨a,h⟩|⟨a,h⟩:=io h
   ·cases h;exact rfO 0 (o [b1]) (Qa (jDj a) q)
   have⟨t13,b,h⟩:=bo h;have q:=Qa (QoB b) (Qa (jEj a) q);let o l:=o (b0::.obj (some 0) (.d (.lst false 1 t13)) (Qb a1 a2 a3 a4 a5 a6 a7 a8 x g i j) ZV::l);obtain⟨c,h⟩|⟨c,h⟩:=io h
   ·cases h;exact rfO 0 (o [b1]) (Qa (eqt c) q)
   have⟨t15,e,h⟩:=bo h;cases h;exact rfO 0 (o [b0,.ret (Qr5 t15)]) (Qa ((jc e):Computes cx 50 [.lst false 1 t13,Qr5 ⟨#[32]⟩] (Qr5 t15)) (Qa (eqf c) q))
  obtain⟨f,h⟩|⟨f,h⟩:=io h
  ·have⟨a,h⟩:=gd h;have q:=Qa a (Qa (mk2 ⟨#[111,102,102,101,114,115]⟩ (.tup [.agg [.v (.int .u8 0),.fn (.func 92) [] []],B true]) f) q);let o l:=o (.el (.tup [.agg [.v (.int .u8 0),.fn (.func 92) [] []],B true])::.no::b1::.no::.no::l);obtain⟨b,h⟩|⟨b,h⟩:=io h
   ·cases h;exact rfO 0 (o [b1]) (Qa (jDj b) q)
   have⟨t14,c,h⟩:=bo h;have q:=Qa (QoA c) (Qa (jEj b) q);let o l:=o (b0::.obj (some 0) (.d (.lst false 1 t14)) (Qb a1 a2 a3 a4 a5 a6 a7 a8 x g i j) ZV::l);obtain⟨e,h⟩|⟨e,h⟩:=io h
   ·cases h;exact rfO 0 (o [b1]) (Qa (eqt e) q)
   have⟨t16,m,h⟩:=bo h;cases h;exact rfO 0 (o [b0,.ret (Qr5 t16)]) (Qa ((jc m):Computes cx 50 [.lst false 1 t14,Qr5 ⟨#[32]⟩] (Qr5 t16)) (Qa (eqf e) q))
  obtain⟨a,h⟩|⟨a,h⟩:=io h
  ·have⟨b,h⟩:=gd h;have q:=Qa b (Qa (mk2 ⟨#[100,105,114,116]⟩ (.tup [.agg [.v (.int .u8 109),.fn (.func 98) [] []],B true]) a) q);let o l:=o (.el (.tup [.agg [.v (.int .u8 109),.fn (.func 98) [] []],B true])::.no::b1::.no::.no::l);obtain⟨c,h⟩|⟨c,h⟩:=io h
   ·have⟨t15,e,h⟩:=bo h;have q:=allE Qr e (Qa (nef c) q);let o l:=o (b0::.el (Zy t15)::l);obtain⟨m,h⟩|⟨m,h⟩:=io h
    ·cases h;exact rfO 0 (o [b1]) (Qa m q)
    have⟨t17,t,h⟩:=bo h;have⟨t18,h18,h⟩:=bo h;have q:=Qa (Z2 h18) (Qa (QC t) (allE Qr e (Qa (QA m) q)));let o l:=o (b0::.el (Zy t15)::.obj (some 0) (.d (.lst false 1 t17)) (Qb a1 a2 a3 a4 a5 a6 a7 a8 x g i j) ZV::.ret (B t18)::l);obtain⟨p,h⟩|⟨p,h⟩:=io h
    ·have⟨t20,h20,h⟩:=bo h;have q:=Qa (Qoz h20) (Qa (Ud p) q);let o l:=o (b0::.obj (some 0) (.d (.lst false 1 t20)) (Qb a1 a2 a3 a4 a5 a6 a7 a8 x g i j) ZV::l);obtain⟨s,h⟩|⟨s,h⟩:=io h
     ·cases h;exact rfO 0 (o [b1]) (Qa (eqt s) q)
     have⟨t22,u,h⟩:=bo h;cases h;exact rfO 0 (o [b0,.ret (Qr5 t22)]) (Qa ((jc u):Computes cx 50 [.lst false 1 t20,Qr5 ⟨#[32]⟩] (Qr5 t22)) (Qa (eqf s) q))
    cases h;exact rfO 0 (o [b1]) (Qa (Uc (QA p)) q)
   cases h;exact rfO 0 (o [b1,.no]) (Qa (net c) q)
  obtain⟨b,h⟩|⟨b,h⟩:=io h
  ·have⟨c,h⟩:=gd h;have q:=Qa c (Qa (mk2 ⟨#[99,111,117,110,116]⟩ (.tup [.agg [.v (.int .u8 115),.fn (.func 99) [] []],B true]) b) q);let o l:=o (.el (.tup [.agg [.v (.int .u8 115),.fn (.func 99) [] []],B true])::.no::b1::.no::.no::l);obtain⟨e,h⟩|⟨e,h⟩:=io h
   ·have⟨t16,m,h⟩:=bo h;have q:=allE Qr m (Qa (nef e) q);let o l:=o (b0::.el (Zy t16)::l);obtain⟨t,h⟩|⟨t,h⟩:=io h
    ·cases h;exact rfO 0 (o [b1]) (Qa t q)
    have⟨t18,h18,h⟩:=bo h;have q:=Qa (Z2 h18) (allE Qr m (Qa (QA t) q));let o l:=o (b0::.el (Zy t16)::.ix (-9)::b1::.no::.ix 0::.ret (B t18)::l);obtain⟨p,h⟩|⟨p,h⟩:=io h
    ·have⟨t20,h20,h⟩:=bo h;have q:=Qa (Qoy h20) (Qa (Ud p) q);let o l:=o (b0::.obj (some 0) (.d (.lst false 1 t20)) (Qb a1 a2 a3 a4 a5 a6 a7 a8 x g i j) ZV::l);obtain⟨s,h⟩|⟨s,h⟩:=io h
     ·cases h;exact rfO 0 (o [b1]) (Qa (eqt s) q)
     have⟨t22,u,h⟩:=bo h;cases h;exact rfO 0 (o [b0,.ret (Qr5 t22)]) (Qa ((jc u):Computes cx 50 [.lst false 1 t20,Qr5 ⟨#[32]⟩] (Qr5 t22)) (Qa (eqf s) q))
    cases h;exact rfO 0 (o [b1]) (Qa (Uc (QA p)) q)
   cases h;exact rfO 0 (o [b1,.no]) (Qa (net e) q)
  have⟨c,h⟩:=gd h;have q:=allE Qr h6 (Qa ((QaB (by kernel_rfl) (mno c)):Zi true (.string t6) (.agg [.v (.int .u8 0),.v (.nilFunc)]) tab2=some (.tup [.agg [.v (.int .u8 0),.v (.nilFunc)],B false])) q);let o l:=o (.el (.tup [.agg [.v (.int .u8 0),.v (.nilFunc)],B false])::.no::b1::(no 28 (.el (Zy t6)::l)));obtain⟨e,h⟩|⟨e,h⟩:=io h
  ·have⟨t16,m,h⟩:=bo h;have⟨t,h⟩:=gd h;have⟨t18,h18,h⟩:=bo h;have⟨t19,p,h⟩:=bo h;have⟨t20,h20,h⟩:=bo h;have⟨t21,s,h⟩:=bo h;have q:=Qa (leF (Qx s)) (Qa (Qu h20) (Qa (Qu p) (Qa (QlD h18) (Qa t (Qa ((QbG (by kernel_rfl) (Qdv yf m)):Zi true (.string t6) (.agg [Qr5 ⟨#[]⟩,I 0,.v (.nilFunc),.v (.nilFunc)]) Wr=some (.tup [.agg [Qr5 t16.1,I t16.2.1,.fn t16.2.2.1.1 t16.2.2.1.2.1 t16.2.2.1.2.2,.fn t16.2.2.2.1 t16.2.2.2.2.1 t16.2.2.2.2.2],B true])) q)))));let o l:=o (.el (.tup [.agg [Qr5 t16.1,I t16.2.1,.fn t16.2.2.1.1 t16.2.2.1.2.1 t16.2.2.1.2.2,.fn t16.2.2.2.1 t16.2.2.2.2.1 t16.2.2.2.2.2],B true])::.no::.ret (.tup [.agg [I t18.1,Qr5 t18.2.1,.lst false 1 t18.2.2.1,.lst false 1 t18.2.2.2.1,Qr5 t18.2.2.2.2.1],B t18.2.2.2.2.2])::.ret (I t19)::.ret (I t20)::.ret (I t21)::l);obtain⟨u,h⟩|⟨u,h⟩:=io h
   ·have⟨t23,h23,h⟩:=bo h;have q:=Qa (Ja h23) (Qa (nef u) q);let o l:=o (b0::.ret (I t23)::l);obtain⟨z,h⟩|⟨z,h⟩:=io h
    ·have⟨t25,h25,h⟩:=bo h;have q:=Qa (YZ h25) (Qa (nef z) q);let o l:=o (b0::.obj (some 0) (.d (I t25)) (Qb a1 a2 a3 a4 a5 a6 a7 a8 x g i j) ZV::l);obtain⟨A,h⟩|⟨A,h⟩:=io h
     ·have⟨t27,h27,h⟩:=bo h;have⟨t28,h28,h⟩:=bo h;have⟨h29,h⟩:=gd h;cases h;exact rfO 0 (o [b0,.ix (-9),.obj (some 0) (.d (.tup [])) (Qb' t27) [],.ret (Qr5 t28)]) (Qa h29 (Qa (jd h28) (Qa (Kf h27) (Qa (nef A) q))))
     cases h;exact rfO 0 (o [b1]) (Qa (net A) q)
    cases h;exact rfO 0 (o [b1]) (Qa (net z) q)
   cases h;exact rfO 0 (o [b1]) (Qa (net u) q)
  cases h;exact rfO 0 (o [.el (.tup [.agg [Qr5 ⟨#[]⟩,I 0,.v (.nilFunc),.v (.nilFunc)],B false]),.no]) (Qa ((QaB (by kernel_rfl) (mno e)):Zi true (.string t6) (.agg [Qr5 ⟨#[]⟩,I 0,.v (.nilFunc),.v (.nilFunc)]) Wr=some (.tup [.agg [Qr5 ⟨#[]⟩,I 0,.v (.nilFunc),.v (.nilFunc)],B false])) q)
 cases h;exact rfO 0 (o [b1]) (Qa (net E) q)
def QnE (n:Nat)(a0 a1:jVj)(a2 a3:Int)(a4 a5:Bool)(a6 a7 a8:Int)(f d e:jVj)(b:(Int×jVj)):Option (Int×jVj⊕jVj) := if b.1<((a0).length:Int) then if 0<=b.1/\b.1<((a0).length:Int) then((nth (a0) (Int.toNat b.1)).bind Ze).bind fun a=>(Qjv n a.1 a.2.1 a.2.2.1 a.2.2.2.1 a.2.2.2.2).bind fun c=>if Wa 16 ((b.2).length+1) then if Qh (b.1+1) then some (.inl ((b.1+1),(b.2++([.v (.string c)]:jVj)))) else none else none else none else some (.inr b.2)
noncomputable def Qor (a0 a1:jVj)(a2 a3:Int)(a4 a5:Bool)(a6 a7 a8:Int)(f a b:jVj):Lp (Int×jVj) (jVj):=⟨fun c=>[(1,.d (.fn (.func 52) [] [])),(5,.own 29 0),(8,.own 1 0),(9,.d (I ((a0).length:Int))),(10,.d (I c.1))],fun c=>[(0,.box (.agg [.own 1 0,.own 2 0,.d (I a2),.d (I a3),.d (B a4),.d (B a5),.d (I a6),.d (I a7),.d (I a8),.own 10 0,.own 11 0,.own 12 0])),(1,.row 0 5 a0),(2,.row 0 5 a1),(10,.row 0 1 f),(11,.row 0 6 a),(12,.row 0 7 b),(29,.row 0 1 c.2)],fun _=>(.exit 0),fun _=>[(5,.own 29 0)],fun e=>[(0,.box (.agg [.own 1 0,.own 2 0,.d (I a2),.d (I a3),.d (B a4),.d (B a5),.d (I a6),.d (I a7),.d (I a8),.own 10 0,.own 11 0,.own 12 0])),(1,.row 0 5 a0),(2,.row 0 5 a1),(10,.row 0 1 f),(11,.row 0 6 a),(12,.row 0 7 b),(29,.row 0 1 e)]⟩
theorem Qoq {n a0 a1 a2 a3 a4 a5 a6 a7 a8 d b c}(e)(r)(h:QnE n a0 a1 a2 a3 a4 a5 a6 a7 a8 d b c e=some r):Rl (ZJ cx.P 51 0) 22 24 false (Qor a0 a1 a2 a3 a4 a5 a6 a7 a8 d b c) e r:=by
 unfold QnE at h;obtain⟨a,h⟩|⟨a,h⟩:=io h
 ·have⟨ha2,h⟩:=gd h;have⟨ta3,ha3,h⟩:=bo h;have⟨ta4,ha4,h⟩:=bo h;have⟨ha5,h⟩:=gd h;have⟨ha6,h⟩:=gd h;cases h;exact rn 30 [b1,b1,.el (QP ta3),.ret (Qr5 ta4),b1] [] [1,5,8,9,10] [0,1,2,10,11,12,29] (Qa ha6 (Qa (ro 9 ha5) (Qa (Qlr ha4) (Qa (QX Ql ha3) (Qa ha2 (Qa (jDj a) QL))))))
 cases h;exact rx 30 [b0] [] [5] [0,1,2,10,11,12,29] (Qa (jEj a) QL)
def QnJ (n:Nat)(a0 a1:jVj)(a2 a3:Int)(a4 a5:Bool)(a6 a7 a8:Int)(c a b:jVj):Option (jSj) := (Q2 (QnE n a0 a1 a2 a3 a4 a5 a6 a7 a8 c a b) n (0,[])).bind fun d=>(Jj n d (⟨#[]⟩)).bind fun e=>some e
theorem Qod {n a0 a1 a2 a3 a4 a5 a6 a7 a8 c a b r}(h:QnJ n a0 a1 a2 a3 a4 a5 a6 a7 a8 c a b=some r):ComputesO cx 12 [.ptr 0 0 0 0 0] (some (Qb a0 a1 a2 a3 a4 a5 a6 a7 a8 c a b)) (.d (Qr5 r)) (Qb a0 a1 a2 a3 a4 a5 a6 a7 a8 c a b) ZV:=by unfold QnJ at h;have⟨t1,h1,h⟩:=bo h;have⟨t2,h2,h⟩:=bo h;obtain rfl:=oi h;exact rfO 0 [.no,b1,.lp [5,1] [1,5,8,9,10] [0,1,2,10,11,12,29] (.exit 0) [(5,.own 29 0)] [(0,.box (.agg [.own 1 0,.own 2 0,.d (I a2),.d (I a3),.d (B a4),.d (B a5),.d (I a6),.d (I a7),.d (I a8),.own 10 0,.own 11 0,.own 12 0])),(1,.row 0 5 a0),(2,.row 0 5 a1),(10,.row 0 1 c),(11,.row 0 6 a),(12,.row 0 7 b),(29,.row 0 1 t1)] 55,.ret (Qr5 t2)] (Qa ((jc h2):Computes cx 50 [.lst false 1 t1,Qr5 ⟨#[]⟩] (Qr5 t2)) (Qa (QH Qoq h1) QL))
end Go.Proofs.YtabbjgnpiijghaaGreatDoor
