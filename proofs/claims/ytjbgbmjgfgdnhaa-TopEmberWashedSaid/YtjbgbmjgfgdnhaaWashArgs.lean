/- Own texts. -/
import Derived.Test.YtjbgbmjgfgdnhaaSxTwentyFive
import Derived.Test.YtjbgbmjgfgdnhaaTw2
set_option linter.unusedSimpArgs false
set_option linter.unusedVariables false
set_option linter.unnecessarySimpa false
set_option maxRecDepth 20000
namespace Go.Proofs.Ytjbgbmjgfgdnhaa
open Go.SX
abbrev Sd (b:jSj):D:=.v (.string b)
def mkS (l:List UInt8):jSj:=⟨l.toArray⟩
theorem yD (s:jSj):mkS s.data.toList=s:=by cases s;simp[mkS]
theorem Qjx (l:List UInt8):(mkS l).data.toList=l:=by simp[mkS]
theorem dlen (s:jSj):s.data.toList.length=s.size:=by cases s;rfl
theorem Qbl (s:jSj):∀(m i:Nat) (r:List UInt8),i+m=s.size->ByteArray.toList.loop s i r=r.reverse++s.data.toList.drop i
 | 0,i,r,h=>by rw[ByteArray.toList.loop,jFj (by omega),List.drop_eq_nil_of_le (by rw[dlen];omega),List.append_nil]
 | m+1,i,r,h=>by
  have c:i<s.data.toList.length:=by rw[dlen];omega
  rw[ByteArray.toList.loop,jTj (by omega),Qbl s m (i+1) _ (by omega),List.reverse_cons,List.append_assoc];congr 1
  rw[List.drop_eq_getElem_cons c];have:s.get! i=s.data.toList[i]:=by
   cases s with
   | mk a =>
    simp only[ByteArray.get!];have b : i<a.size:=c;rw[getElem!_pos a i b];simp
  rw[this];rfl
theorem jW (s:jSj):s.toList=s.data.toList:=by unfold ByteArray.toList;rw[Qbl s s.size 0 [] (by omega)];rfl
theorem Qab {a b:jSj}(h:a.data.toList=b.data.toList):a=b:=by rw[<-yD a,<-yD b,h]
theorem XZ (a b:jSj):(a.toList==b.toList)=decide (a=b):=by rw[Bool.eq_iff_iff,beq_iff_eq,decide_eq_true_eq,jW,jW];exact⟨Qab,fun h=>by rw[h]⟩
theorem kq (a:jSj)(l:Array UInt8):((a.toList==(⟨l⟩:jSj).toList)=true)=(a.data.toList=l.toList):=by rw[XZ,decide_eq_true_eq,eq_iff_iff];exact⟨fun h=>by rw[h],fun h=>Qab h⟩
def Qt:List Int->Int
 | []=>0
 | x::l=>if x=0 then Qt l else x
theorem ZD {a b:Type}{f:a->b}{l:List a}{i:Nat}{x:a}(h:l[i]?=some x):(i:Int)<((l.map f).length:Int):=by have:=(jGj h).1;simp;omega
theorem EM {ms:List Int}{i:Nat}{x:Int}(h:ms[i]?=some x):el Vt (ms.map I) (i:Int)=some x:=Xr (un:=Vt) (enc:=I) (fun _=>rfl) h
theorem jH {l:List jSj}{i:Nat}{x:jSj}(h:l[i]?=some x):el Ww (l.map Sd) (i:Int)=some x:=Xr (un:=Ww) (enc:=Sd) (fun _=>rfl) h
theorem Q4 {a:Type}{un:D->Option a}{enc:a->D}(b:∀x,un (enc x)=some x){l:List a}{i:Nat}{x:a}(h:l[i]?=some x):(nth (l.map enc) (Int.toNat (i:Int))).bind un=some x:=by rw[jtj,Ub,List.getElem?_map,h];exact b x
def fG (_:Unit)(x:Int):Unit⊕(Int⊕Unit):=if x=0 then .inl () else .inr (.inl x)
theorem Es:∀(l:List Int),Y6 fG (fun _=>.inr ()) l ()=if Qt l=0 then .inr () else .inl (Qt l)
 | []=>rfl
 | x::l=>by
  unfold Y6 fG;by_cases h:x=0
  ·rw[jTj h];simp only[Qt,jTj h];exact Es l
  ·rw[jFj h];simp only[Qt,jFj h]
theorem Xp {n:Nat}(ms:List Int)(d:ms.length<9223372036854775807)(b:ms.length<n):Qo n (ms.map I)=some (Qt ms):=by
 unfold Qo;have:=ZK (step:=Vi n (ms.map I)) fG (fun _=>.inr ()) (fun i _=>(i:Int)) ms (fun _ _=>True)
  (fun i s x a _=>by
   unfold fG Vi;have c:=(jGj a).1;by_cases h:x=0
   ·rw[jTj h];refine⟨?_,trivial⟩;rw[jTj (ZD a),EM a,jBj,jTj h,jTj (by unfold Qh;omega)];rfl
   ·rw[jFj h];dsimp only;rw[jTj (ZD a),EM a,jBj,jFj h])
  (fun s _=>by unfold Vi;rw[jFj (by simp)]) (s:=()) trivial b
 rw[show(0:Int)=((0:Nat):Int) from rfl,this,Es];by_cases h:Qt ms=0
 ·rw[jTj h,h];rfl
 ·rw[jFj h];rfl
theorem VE {n:Nat}(c:10<=n)(a b:Int):Qo n [I a,I b]=some (Qt [a,b]):=Xp [a,b] (by simp) (by simp;omega)
theorem wX {n:Nat}(d:10<=n)(a b c:Int):Qo n [I a,I b,I c]=some (Qt [a,b,c]):=Xp [a,b,c] (by simp) (by simp;omega)
theorem QaK {n:Nat}(e:10<=n)(a b c d:Int):Qo n [I a,I b,I c,I d]=some (Qt [a,b,c,d]):=Xp [a,b,c,d] (by simp) (by simp;omega)
theorem Zv:∀{l:List Int},Qt l=0->∀x,x∈l->x=0
 | [],_,x,hx=>by cases hx
 | y::l,h,x,hx=>by
  unfold Qt at h;split at h
  ·rename_i a;cases hx with
   | head=>exact a
   | tail _ hx=>exact Zv h x hx
  ·rename_i a;exact absurd h a
def inR (x b a:Int):Int:=if x<b then 3 else if x>a then 3 else 0
def QF (b:Bool)(e:Int):Int:=if b then e else 0
theorem V2 (n:Nat)(x b a:Int):ZE n x b a=some (inR x b a):=by
 unfold ZE Kx Qm inR;by_cases h:x<b
 ·simp[h]
 ·by_cases c:x>a
  ·simp[h,c]
  ·simp[h,c]
theorem YC {x b a:Int}:inR x b a=0↔b<=x/\x<=a:=by
 unfold inR;constructor
 ·intro h;repeat' split at h
  all_goals omega
 ·intro h;rw[jFj (by omega),jFj (by omega)]
theorem qO (x b a:Int):inR x b a=0\/inR x b a=3:=by
 unfold inR;repeat' split
 all_goals simp
theorem Zd (n:Nat)(b:Bool)(e:Int):Qm n b e=some (QF b e):=by unfold Qm QF;cases b<;>rfl
def Yy (s:jSj)(i:Nat):Nat:=(s.get! i).toNat
def ER (p c:Nat):Prop:=(97<=c/\c<=122)\/(65<=c/\c<=90)\/(p≠0/\(c=95\/(48<=c/\c<=57)))
instance (p c:Nat):Decidable (ER p c):=by unfold ER;infer_instance
def JU (s:jSj):Nat->Nat->Bool
 | 0,_=>true
 | m+1,p=>decide (ER p (Yy s p))&&JU s m (p+1)
theorem QaR {s:jSj}{p:Nat}(h:Yy s p<128):Utf8.decode s p=(Yy s p,1):=by unfold Yy at h ⊢;unfold Utf8.decode;simp only[Nat.add_zero];rw[jTj h]
theorem Qaa {s:jSj}{p:Nat}(h:¬Yy s p<128):128<=(Utf8.decode s p).1:=by
 unfold Yy at h;unfold Utf8.decode;simp only[Nat.add_zero];rw[jFj h];have a:128<=Utf8.runeError:=by decide
 repeat' split
 all_goals first|exact a|(simp only[jAj,decide_eq_true_eq,ge_iff_le] at *;omega)
theorem QdM (n:Nat){s:jSj}{p:Nat}(h:p<s.size):Wn n s p=if ER p (Yy s p) then some (.inl (p+1)) else some (.inr (.inl ())):=by
 unfold Wn;rw[jTj h];by_cases b:Yy s p<128
 ·rw[QaR b];dsimp only;generalize Yy s p=c at b ⊢;by_cases a:ER p c
  ·rw[jTj a];unfold ER at a;repeat' split
   all_goals first|rfl|(exfalso;omega)
  ·rw[jFj a];unfold ER at a;repeat' split
   all_goals first|rfl|(exfalso;omega)
 ·have e:=Qaa b;have d:¬ER p (Yy s p):=by unfold ER;omega
  rw[jFj d];generalize (Utf8.decode s p).1=c at e ⊢;repeat' split
  all_goals first|rfl|(exfalso;omega)
theorem Qdl (n:Nat){s:jSj}:∀(m k p:Nat),p+m=s.size->m<k->Q2 (Wn n s) k p=some (if JU s m p=true then .inr () else .inl ())
 | m,0,p,_,h=>by omega
 | 0,k+1,p,hp,_=>by rw[JB (e:=.inr ()) (by unfold Wn;rw[jFj (by omega)])];rfl
 | m+1,k+1,p,hp,hk=>by
  have a:=QdM n (s:=s) (p:=p) (by omega);by_cases h:ER p (Yy s p)
  ·rw[jTj h] at a;rw[E3 a,Qdl n m k (p+1) (by omega) (by omega)];simp[JU,h]
  ·rw[jFj h] at a;rw[JB a];simp[JU,h]
def Us (s:jSj):Bool:=decide (s.size≠0)&&decide (s.size<=24)&&JU s s.size 0
theorem uM (s:jSj):∀(m i:Nat) (r:List UInt8),i+m=s.size->(ByteArray.toList.loop s i r).length=r.length+m
 | 0,i,r,h=>by rw[ByteArray.toList.loop,jFj (by omega),List.length_reverse];rfl
 | m+1,i,r,h=>by rw[ByteArray.toList.loop,jTj (by omega),uM s m (i+1) _ (by omega),List.length_cons];omega
theorem Gx (s:jSj):s.toList.length=s.size:=by unfold ByteArray.toList;rw[uM s s.size 0 [] (by omega)];simp
theorem yy (s:jSj):(s.toList==(⟨#[]⟩:jSj).toList)=decide (s.size=0):=by
 rw[Bool.eq_iff_iff,beq_iff_eq,decide_eq_true_eq];constructor
 ·intro h;have a:s.toList.length=0:=by rw[h,Gx];rfl
  rw[Gx] at a;exact a
 ·intro h;have a:s.toList.length=0:=by rw[Gx];exact h
  have b:(⟨#[]⟩:jSj).toList.length=0:=by rw[Gx];rfl
  rw[List.eq_nil_of_length_eq_zero a,List.eq_nil_of_length_eq_zero b]
theorem QbL {n:Nat}{s:jSj}(h:s.size<n):Yi n s=some (Us s):=by
 unfold Yi;rw[show Q2 (Wn n s) n 0=_ from Qdl n s.size n 0 (by omega) h,jBj];unfold Us;by_cases a:JU s s.size 0=true
 ·rw[jTj a,a];dsimp only;rw[yy];by_cases b:s.size=0
  ·simp[b]
  ·simp[b];omega
 ·rw[jFj a];simp only[Bool.not_eq_true] at a;rw[a];simp
abbrev Mir:=jSj×jSj×Int×Int×Bool×Bool
abbrev Off:=jSj×Int×Int×Int×Int×Int×Bool
def QY (m:Mir):D:=QB m
def Zj (o:Off):D:=Q7 o
theorem unM (m:Mir):QM (QY m)=some m:=rfl
theorem unO (o:Off):Z6 (Zj o)=some o:=rfl
def isA (m:Mir):Bool:=m.2.2.2.2.2
structure Reg where
 tick:Int
 level:Int
 filled:Bool
 tripped:Bool
 light:Int
 heat:Int
 money:Int
 sectors:List jSj
 mirrors:List Mir
 offers:List Off
def Reg.zero:Reg:=⟨0,0,false,false,0,0,0,[],[],[]⟩
def okM (m:Mir):Prop:=(1<=m.2.2.1/\m.2.2.1<=100)/\(0<=m.2.2.2.1/\m.2.2.2.1<=1000)
def okO (o:Off):Prop:=(1<=o.2.2.2.1/\o.2.2.2.1<=1000)/\(0<=o.2.2.2.2.1/\o.2.2.2.2.1<=1000)/\(0<=o.2.2.2.2.2.1/\o.2.2.2.2.2.1<=o.2.2.2.1)
structure Inv (c:Nat) (r:Reg):Prop where
 tick:0<=r.tick/\r.tick<=999999999
 level:0<=r.level/\r.level<=1000
 light:0<=r.light/\r.light<=1000000000000000
 heat:0<=r.heat/\r.heat<=1000000000000000
 money : -(2000000*(c:Int))<=r.money/\r.money<=2000000*(c:Int)
 secs:r.sectors.length<=8
 lenM:r.mirrors.length<=min c 32
 lenO:r.offers.length<=min c 32
 mirs:∀m,m∈r.mirrors->okM m
 offs:∀o,o∈r.offers->okO o
theorem Qdu {g c p q:Int}(hp:0<=p)(f : -p<=g/\g<=p)(a:0<=q)(hc : -q<=c/\c<=q) : -(p*q)<=g*c/\g*c<=p*q:=by have h:=Int.natAbs_mul g c;have b:g.natAbs*c.natAbs<=p.natAbs*q.natAbs:=Nat.mul_le_mul (by omega) (by omega);have d:=Int.natAbs_mul p q;have e:0<=p*q:=Int.mul_nonneg hp a;omega
theorem wF {g c p q:Int}(a:0<=g/\g<=p)(hc:0<=c/\c<=q):0<=g*c/\g*c<=p*q :=
 ⟨Int.mul_nonneg a.1 hc.1,(Qdu (by omega) ⟨by omega,a.2⟩ (by omega) ⟨by omega,hc.2⟩).2⟩
def yh (lv:Int)(m:Mir):Int:=if isA m=true then m.2.2.1*(1000 - m.2.2.2.1)*lv else 0
def UR (lv:Int):List Mir->Int
 | []=>0
 | m::l=>yh lv m+UR lv l
def wz (r:Reg):Int:=UR r.level r.mirrors
theorem EU {lv:Int}(d:0<=lv/\lv<=1000){m:Mir}(e:okM m):(0<=m.2.2.1*(1000 - m.2.2.2.1)/\m.2.2.1*(1000 - m.2.2.2.1)<=100000)/\(0<=m.2.2.1*(1000 - m.2.2.2.1)*lv/\m.2.2.1*(1000 - m.2.2.2.1)*lv<=100000000)/\(0<=yh lv m/\yh lv m<=100000000):=by obtain⟨f,h⟩:=e;have a:=wF (g:=m.2.2.1) (c:=1000 - m.2.2.2.1) (p:=100) (q:=1000) (by omega) (by omega);have b:=wF (g:=m.2.2.1*(1000 - m.2.2.2.1)) (c:=lv) (p:=100000) (q:=1000) (by omega) d;refine⟨by omega,by omega,?_⟩;unfold yh;split<;>omega
theorem kl {lv:Int}(a:0<=lv/\lv<=1000):∀{l:List Mir},(∀m,m∈l->okM m)->0<=UR lv l/\UR lv l<=100000000*(l.length:Int)
 | [],_=>by simp[UR]
 | m::l,h=>by have c:=(EU a (h m jMj)).2.2;have d:=kl a (l:=l) fun x b=>h x (jmj _ b);simp only[UR,List.length_cons];omega
def rG (lv:Int)(s:Int)(m:Mir):Int⊕Int:=.inl (s+yh lv m)
theorem XK (lv:Int):∀(l:List Mir) (s:Int),Y6 (rG lv) (fun s=>s) l s=s+UR lv l
 | [],s=>by simp[Y6,UR]
 | m::l,s=>by unfold Y6 rG;simp only;have:=XK lv l (s+yh lv m);unfold rG at this;rw[this];simp only[UR];omega
theorem Qbc {n:Nat}(f a1:jVj)(a2 lv:Int)(a4 a5:Bool)(a6 a7 g:Int)(h b:jVj)(l:0<=lv/\lv<=1000)(ms:List Mir)(c:∀m,m∈ms->okM m)(j:ms.length<=992)(t:1700<=n):Wq n f a1 a2 lv a4 a5 a6 a7 g h (ms.map QY) b=some (UR lv ms):=by
 unfold Wq;have:=ZK (step:=Z0 n f a1 a2 lv a4 a5 a6 a7 g h (ms.map QY) b) (rG lv) (fun s=>s) (fun i s=>(((i:Int),s):Int×Int)) ms (fun i s=>0<=s/\s<=100000000*(i:Int))
  (fun i s m a u=>by
   have r:=(jGj a).1;obtain⟨b1,p,q⟩:=EU l (c m (jgj a));unfold rG;refine⟨?_,?_⟩
   ·unfold Z0;dsimp only;rw[jTj (ZD a),jTj ⟨Int.natCast_nonneg i,ZD a⟩,Q4 unM a,jBj];unfold yh isA;by_cases d:m.2.2.2.2.2=true
    ·rw[jTj d,jTj d,jTj (by unfold Qh;have:=(c m (jgj a)).2;omega),jTj (by unfold Qh;omega),jTj (by unfold Qh;omega),jTj (by unfold Qh;omega),jTj (by unfold Qh;omega)];rfl
    ·rw[jFj d,jFj d,jTj (by unfold Qh;omega),Int.add_zero];rfl
   ·simp only[Int.natCast_add,Int.natCast_one];omega)
  (fun s _=>by unfold Z0;dsimp only;rw[jFj (by simp)]) (s:=0) (by simp) (k:=n) (by omega)
 have e:=this;rw[XK,Int.zero_add] at e;exact(congrArg (fun x:Option Int=>x.bind fun o=>some o) e)
theorem Qci {n:Nat}(d lv:Int)(a2 a3:Bool)(a4 a5 a6:Int)(a7 f:jVj)(h:0<=lv/\lv<=1000)(ms:List Mir)(b:∀m,m∈ms->okM m)(g:ms.length<=992)(q:1700<=n):WD n d lv a2 a3 a4 a5 a6 a7 (ms.map QY) f=some (UR lv ms):=by
 unfold WD;have:=ZK (step:=ZF n d lv a2 a3 a4 a5 a6 a7 (ms.map QY) f) (rG lv) (fun s=>s) (fun i s=>(((i:Int),s):Int×Int)) ms (fun i s=>0<=s/\s<=100000000*(i:Int))
  (fun i s m a r=>by
   have p:=(jGj a).1;obtain⟨b1,l,o⟩:=EU h (b m (jgj a));unfold rG;refine⟨?_,?_⟩
   ·unfold ZF;dsimp only;rw[jTj (ZD a),jTj ⟨Int.natCast_nonneg i,ZD a⟩,Q4 unM a,jBj];unfold yh isA;by_cases c:m.2.2.2.2.2=true
    ·rw[jTj c,jTj c,jTj (by unfold Qh;have:=(b m (jgj a)).2;omega),jTj (by unfold Qh;omega),jTj (by unfold Qh;omega),jTj (by unfold Qh;omega),jTj (by unfold Qh;omega)];rfl
    ·rw[jFj c,jFj c,jTj (by unfold Qh;omega),Int.add_zero];rfl
   ·simp only[Int.natCast_add,Int.natCast_one];omega)
  (fun s _=>by unfold ZF;dsimp only;rw[jFj (by simp)]) (s:=0) (by simp) (k:=n) (by omega)
 have e:=this;rw[XK,Int.zero_add] at e;exact(congrArg (fun x:Option Int=>x.bind fun j=>some j) e)
def ZL (r:Reg)(t:Int):Int:=wz r*(t - r.tick)
def okT (r:Reg)(t:Int):Prop:=r.tick<=t/\t<=999999999
def Zk (r:Reg)(t:Int):Int:=if r.light+ZL r t<=1000000000000000/\r.heat+ZL r t<=1000000000000000 then 0 else 4
theorem K4 {c:Nat}{r:Reg}(d:Inv c r)(hc:c<=992){t:Int}(f:okT r t):(0<=wz r/\wz r<=4000000000)/\(0<=ZL r t/\ZL r t<=4000000000000000000):=by
 obtain⟨i,j⟩:=f;have h:=d.tick;have l:=d.lenM;have a:0<=wz r/\wz r<=100000000*(r.mirrors.length:Int):=kl d.level d.mirs;have e : 0<=wz r/\wz r<=4000000000:=by omega
 have b:=wF (g:=wz r) (c:=t - r.tick) (p:=4000000000) (q:=1000000000) e (by omega);refine⟨e,?_⟩;unfold ZL;omega
theorem Z7 {n c:Nat}{evs b:jVj}{r:Reg}(a:Inv c r)(hc:c<=992)(f:1700<=n){t:Int}(d:okT r t):Q8 n t evs b r.tick r.level r.filled r.tripped r.light r.heat r.money (r.sectors.map Sd) (r.mirrors.map QY) (r.offers.map Zj)=some (r.light+ZL r t,r.heat+ZL r t):=by obtain⟨b1,g⟩:=K4 a hc d;obtain⟨h,i⟩:=d;have j:=a.tick;have l:=a.light;have m:=a.heat;unfold Q8;rw[Qbc _ _ _ _ _ _ _ _ _ _ _ a.level _ a.mirs (by have:=a.lenM;omega) f,jBj,jTj (by unfold Qh;omega)];have e:UR r.level r.mirrors*(t - r.tick)=ZL r t:=rfl;simp only[e];rw[jTj (by unfold Qh;omega),jTj (by unfold Qh;omega),jTj (by unfold Qh;omega)]
theorem Wc {n c:Nat}{r:Reg}(a:Inv c r)(hc:c<=992)(d:1700<=n){t:Int}(b:okT r t):Wh n t r.tick r.level r.filled r.tripped r.light r.heat r.money (r.sectors.map Sd) (r.mirrors.map QY) (r.offers.map Zj)=some (r.light+ZL r t,r.heat+ZL r t):=by obtain⟨b1,f⟩:=K4 a hc b;obtain⟨g,h⟩:=b;have i:=a.tick;have j:=a.light;have l:=a.heat;unfold Wh;rw[Qci _ _ _ _ _ _ _ _ _ a.level _ a.mirs (by have:=a.lenM;omega) d,jBj,jTj (by unfold Qh;omega)];have e:UR r.level r.mirrors*(t - r.tick)=ZL r t:=rfl;simp only[e];rw[jTj (by unfold Qh;omega),jTj (by unfold Qh;omega),jTj (by unfold Qh;omega)]
theorem minB (a b m:Int):(!((a==min a m)&&((b==min b m)&&true)))=decide (¬(a<=m/\b<=m)):=by rw[Bool.eq_iff_iff];simp only[Bool.not_eq_true',Bool.and_true,Bool.and_eq_false_iff,beq_eq_false_iff_ne,ne_eq,decide_eq_true_eq];omega
theorem Za {n c:Nat}{evs b:jVj}{r:Reg}(e:Inv c r)(hc:c<=992)(d:1700<=n){t:Int}(f:okT r t):Qp n t evs b r.tick r.level r.filled r.tripped r.light r.heat r.money (r.sectors.map Sd) (r.mirrors.map QY) (r.offers.map Zj)=some (Zk r t):=by
 unfold Qp;rw[Z7 e hc d f,jBj];dsimp only;rw[Zd,jBj,Qbi,Qbi,minB];unfold QF Zk;by_cases a:r.light+ZL r t<=1000000000000000/\r.heat+ZL r t<=1000000000000000
 ·rw[jTj a];simp[a]
 ·rw[jFj a,jTj (jDj a)]
theorem UV {b E:Type}{step:Int×jVj->Option (Int×jVj⊕E)}(c:jVj->E)(l:List b)(f:b->jVj)(g:∀x,(f x).length<=1)
  (a:∀(i:Nat) (out:jVj) (x:b),l[i]?=some x->out.length<=i->step ((i:Int),out)=some (.inl (((i+1:Nat):Int),out++f x)))
  (d:∀out:jVj,out.length<=l.length->step ((l.length:Int),out)=some (.inr (c out))) {k:Nat} (j:l.length<k):Q2 step k (0,[])=some (c (l.flatMap f)):=by
 have:=ZK (step:=step) (E:=E) (fun(s:jVj) (x:b)=>.inl (s++f x)) c (fun i s=>((i:Int),s)) l (fun i s=>s.length<=i)
  (fun i s x n h=>⟨a i s x n h,by rw[jaj];have:=g x;omega⟩)
  (fun s m=>d s m) (k:=k) (s:=[]) (Nat.zero_le _) j
 have e:∀(l:List b) (s:jVj),Y6 (E:=E) (fun(s:jVj) (x:b)=>.inl (s++f x)) c l s=c (s++l.flatMap f):=by
  intro l;induction l with
  | nil=>intro s;simp[Y6]
  | cons x l ih =>
   intro s;show Y6 (E:=E) (fun(s:jVj) (x:b)=>.inl (s++f x)) c l (s++f x)=_;rw[ih,List.flatMap_cons,List.append_assoc]
 rw[e,List.nil_append] at this;exact this
theorem wW {a b:Type}(f:a->b)(l:List a):l.flatMap (fun x=>[f x])=l.map f:=by
 induction l with
 | nil=>rfl
 | cons x l ih=>rw[List.flatMap_cons,ih];rfl
theorem V7 {b n:Nat}(a:b<=200)(h:n<=5000):Wa b n:=by have c:n*b<=5000*200:=Nat.mul_le_mul h a;show n*b<=140737488355328;omega
def pos:List jSj->jSj->Option Nat
 | [],_=>none
 | x::l,s=>if x=s then some 0 else(pos l s).map (·+1)
def YJ (l:List jSj)(s:jSj):Int:=match pos l s with
 | some i=>(i:Int)
 | none=>-1
theorem wB:∀{l:List jSj} {s:jSj} {i:Nat},pos l s=some i->i<l.length/\l[i]?=some s
 | [],s,i,h=>by cases h
 | x::l,s,i,h=>by
  unfold pos at h;split at h
  ·rename_i e;cases h;subst e;exact⟨by simp,rfl⟩
  ·obtain⟨j,b,rfl⟩:=Option.map_eq_some_iff.1 h;obtain⟨c,a⟩:=wB b;exact⟨by simp;omega,by simpa using a⟩
theorem pos_mem:∀{l:List jSj} {s:jSj},(pos l s).isSome=true↔s∈l
 | [],s=>by simp[pos]
 | x::l,s=>by
  unfold pos;by_cases h:x=s
  ·rw[jTj h];simp[h]
  ·rw[jFj h,Option.isSome_map,pos_mem];simp only[List.mem_cons];constructor
   ·exact .inr
   ·rintro(e|e)
    ·exact absurd e.symm h
    ·exact e
theorem wC {l:List jSj}{s:jSj}:YJ l s<0↔¬s∈l:=by
 rw[<-pos_mem];unfold YJ;cases pos l s with
 | none=>simp
 | some i=>simp
theorem Qu6 {l:List jSj}{s:jSj}:YJ l s>=0↔s∈l:=by
 have:=wC (l:=l) (s:=s);by_cases h:s∈l
 ·have:¬YJ l s<0:=fun b=>(this.1 b) h;constructor
  ·exact fun _=>h
  ·intro _;omega
 ·have c:=this.2 h;constructor
  ·intro a;omega
  ·intro a;exact absurd a h
def pG {b:Type}(f:b->jSj)(a:jSj)(s:Nat)(x:b):Nat⊕(Int⊕Unit):=if f x=a then .inr (.inl (s:Int)) else .inl (s+1)
theorem Xd {b:Type}(f:b->jSj)(a:jSj):∀(l:List b) (s:Nat),Y6 (pG f a) (fun _=>.inr ()) l s=(match pos (l.map f) a with
 | some i=>.inl ((s+i:Nat):Int)
 | none=>.inr ())
 | [],s=>rfl
 | x::l,s=>by
  unfold Y6 pG;rw[jCj];unfold pos;by_cases h:f x=a
  ·rw[jTj h,jTj h];rfl
  ·rw[jFj h,jFj h];have:=Xd f a l (s+1);unfold pG at this;simp only;rw[this];cases pos (l.map f) a with
   | none=>rfl
   | some i=>simp only[Option.map_some];congr 2;omega
theorem Qdx {n:Nat}(l:List jSj)(s:jSj)(f:l.length<=5000)(b:l.length<n):Q2 (Wj n (l.map Sd) s) n 0=some (match pos (l.map (fun x=>x)) s with
  | some i=>.inl (i:Int)
  | none=>.inr ()):=by
 have:=ZK (step:=Wj n (l.map Sd) s) (pG (fun x=>x) s) (fun _=>.inr ()) (fun i (_:Nat)=>(i:Int)) l (fun i t=>t=i)
  (fun i t x a c=>by
   have d:=(jGj a).1;subst c;unfold pG Wj;by_cases h:(fun x=>x) x=s
   ·rw[jTj h];dsimp only;rw[jTj (ZD a),jH a,jBj,jTj (by rw[XZ];exact jDj h.symm)]
   ·rw[jFj h];refine⟨?_,rfl⟩;rw[jTj (ZD a),jH a,jBj,jFj (by rw[XZ];exact fun e=>h ((of_decide_eq_true e).symm)),jTj (by unfold Qh;omega)];rfl)
  (fun t _=>by unfold Wj;rw[jFj (by simp)]) (s:=0) rfl b
 rw[show(0:Int)=((0:Nat):Int) from rfl,this,Xd];cases pos (l.map (fun x=>x)) s with
 | none=>rfl
 | some i=>simp only[Nat.zero_add]
theorem Wb {n:Nat}(l:List jSj)(s:jSj)(a:l.length<=5000)(b:l.length<n):QE n (l.map Sd) s=some (YJ l s):=by unfold QE YJ;rw[Qdx l s a b,jBj,List.map_id'];cases pos l s<;>rfl
def Zu (l:List jSj)(s:jSj):Bool:=(pos l s).isSome
theorem W4 {n:Nat}(l:List jSj)(s:jSj)(a:l.length<=5000)(b:l.length<n):Zb n (l.map Sd) s=some (Zu l s):=by
 unfold Zb;rw[Wb l s a b,jBj];congr 1
 rw[Bool.eq_iff_iff,decide_eq_true_eq,Qu6];exact pos_mem.symm
def nmM (l:List Mir):List jSj:=l.map fun x=>x.1
def nmO (l:List Off):List jSj:=l.map fun x=>x.1
theorem Zo (l:List Mir):(nmM l).length=l.length:=by unfold nmM;simp
theorem Vq (l:List Off):(nmO l).length=l.length:=by unfold nmO;simp
theorem UC {n:Nat}{a1 a2:jVj}{a3 a4:Int}{a5 a6:Bool}{a7 d e:Int}{a b:jVj}(l:List Mir)(h:l.length<=4000)(f:l.length<n):Qw n 109 a1 a2 a3 a4 a5 a6 a7 d e a (l.map QY) b=some ((nmM l).map Sd):=by
 unfold Qw;have:=UV (step:=ZP n a1 a2 a3 a4 a5 a6 a7 d e a (l.map QY) b) (E:=jVj) (fun out=>out) l (fun x=>[Sd x.1]) (fun _=>jLj _)
  (fun i out x c j=>by have g:=(jGj c).1;unfold ZP ZN;dsimp only;rw[jTj (ZD c),jTj ⟨Int.natCast_nonneg i,ZD c⟩,Q4 unM c,jBj,jBj,jTj (V7 (by decide) (by omega)),jTj (by unfold Qh;omega)];rfl)
  (fun out _=>by unfold ZP;dsimp only;rw[jFj (by simp)]) f
 rw[jFj (by decide),jTj rfl,this,jBj,wW];unfold nmM;rw[List.map_map];rfl
theorem EC {n:Nat}{a1 a2:jVj}{a3 a4:Int}{a5 a6:Bool}{a7 d e:Int}{a b:jVj}(l:List Off)(h:l.length<=4000)(f:l.length<n):Qw n 111 a1 a2 a3 a4 a5 a6 a7 d e a b (l.map Zj)=some ((nmO l).map Sd):=by
 unfold Qw;have:=UV (step:=ZO n a1 a2 a3 a4 a5 a6 a7 d e a b (l.map Zj)) (E:=jVj) (fun out=>out) l (fun x=>[Sd x.1]) (fun _=>jLj _)
  (fun i out x c j=>by have g:=(jGj c).1;unfold ZO ZM;dsimp only;rw[jTj (ZD c),jTj ⟨Int.natCast_nonneg i,ZD c⟩,Q4 unO c,jBj,jBj,jTj (V7 (by decide) (by omega)),jTj (by unfold Qh;omega)];rfl)
  (fun out _=>by unfold ZO;dsimp only;rw[jFj (by simp)]) f
 rw[jFj (by decide),jFj (by decide),this,jBj,wW];unfold nmO;rw[List.map_map];rfl
theorem XN {n:Nat}{a1 a2:Int}{a3 a4:Bool}{a5 a6 a7:Int}{c a:jVj}(l:List Mir)(f:l.length<=4000)(d:l.length<n):QQ n 109 a1 a2 a3 a4 a5 a6 a7 c (l.map QY) a=some ((nmM l).map Sd):=by
 unfold QQ;have:=UV (step:=ZA n a1 a2 a3 a4 a5 a6 a7 c (l.map QY) a) (E:=jVj) (fun out=>out) l (fun x=>[Sd x.1]) (fun _=>jLj _)
  (fun i out x b g=>by have e:=(jGj b).1;unfold ZA ZN;dsimp only;rw[jTj (ZD b),jTj ⟨Int.natCast_nonneg i,ZD b⟩,Q4 unM b,jBj,jBj,jTj (V7 (by decide) (by omega)),jTj (by unfold Qh;omega)];rfl)
  (fun out _=>by unfold ZA;dsimp only;rw[jFj (by simp)]) d
 rw[jFj (by decide),jTj rfl,this,jBj,wW];unfold nmM;rw[List.map_map];rfl
theorem Qbh {n:Nat}{a1 a2:Int}{a3 a4:Bool}{a5 a6 a7:Int}{b c:jVj}(l:List Off)(f:l.length<=4000)(d:l.length<n):QQ n 111 a1 a2 a3 a4 a5 a6 a7 b c (l.map Zj)=some ((nmO l).map Sd):=by
 unfold QQ;have:=UV (step:=Zz n a1 a2 a3 a4 a5 a6 a7 b c (l.map Zj)) (E:=jVj) (fun out=>out) l (fun x=>[Sd x.1]) (fun _=>jLj _)
  (fun i out x a g=>by have e:=(jGj a).1;unfold Zz ZM;dsimp only;rw[jTj (ZD a),jTj ⟨Int.natCast_nonneg i,ZD a⟩,Q4 unO a,jBj,jBj,jTj (V7 (by decide) (by omega)),jTj (by unfold Qh;omega)];rfl)
  (fun out _=>by unfold Zz;dsimp only;rw[jFj (by simp)]) d
 rw[jFj (by decide),jFj (by decide),this,jBj,wW];unfold nmO;rw[List.map_map];rfl
theorem WH {s:List Mir}{i:Nat}{y:Mir}:List.set (s.map QY) i (QY y)=(s.set i y).map QY:=by rw[List.map_set]
theorem wv {s:List Mir}{i:Nat}{x:Mir}(h:s[i]?=some x):s.set i x=s:=by obtain⟨b,a⟩:=jGj h;rw[<-a,List.set_getElem_self]
theorem KC {step:Int×jVj->Option (Int×jVj⊕jVj)}(f:Mir->Mir)(ms:List Mir)
  (a:∀(i:Nat) (s:List Mir) (x:Mir),s.length=ms.length->s[i]?=some x->step ((i:Int),s.map QY)=some (.inl (((i+1:Nat):Int),(s.set i (f x)).map QY)))
  (b:∀s:List Mir,s.length=ms.length->step ((ms.length:Int),s.map QY)=some (.inr (s.map QY))) {k:Nat} (g:ms.length<k) :
  Q2 step k (0,ms.map QY)=some ((ms.map f).map QY):=by
 have h:∀(m i:Nat) (k:Nat),i+m=ms.length->m<k->Q2 step k ((i:Int),((ms.take i).map f++ms.drop i).map QY)=some ((ms.map f).map QY):=by
  intro m;induction m with
  | zero =>
   intro i k l g;obtain⟨k,rfl⟩:∃j,k=j+1:=⟨k - 1,by omega⟩
   have e:i=ms.length:=by omega
   subst e;rw[List.take_length,List.drop_length,List.append_nil,JB (b _ (by simp))]
  | succ m ih =>
   intro i k l g;obtain⟨k,rfl⟩:∃j,k=j+1:=⟨k - 1,by omega⟩
   have d:i<ms.length:=by omega
   have c:((ms.take i).map f++ms.drop i).length=ms.length:=by simp;omega
   have o:((ms.take i).map f++ms.drop i)[i]?=some ms[i]:=by rw[List.getElem?_append_right (by simp;omega)];simp;rw[jej (by omega)];congr 2;omega
   rw[E3 (a i _ _ c o)];have e:((ms.take i).map f++ms.drop i).set i (f ms[i])=(ms.take (i+1)).map f++ms.drop (i+1):=by
    rw[List.set_append_right _ _ (by simp;omega)];have n:((ms.take i).map f).length=i:=by simp;omega
    rw[n,Nat.sub_self,List.drop_eq_getElem_cons d,List.set_cons_zero,List.take_succ_eq_append_getElem d,List.map_append];simp
   rw[e];exact ih (i+1) k (by omega) (by omega)
 have:=h ms.length 0 k (by omega) g;simpa using this
def Ka (m:Mir):Mir:=(m.1,m.2.1,m.2.2.1,m.2.2.2.1,m.2.2.2.2.1,false)
def EN (s:jSj)(m:Mir):Mir:=if m.2.1=s then Ka m else m
theorem QdO {n:Nat}{g:Int}{a1 s:jSj}{a3:jVj}{a4:jSj}{a5 a6:Int}{a7 j:Bool}{l a b:Int}{c d:jVj}(ms:List Mir)(q:ms.length<=5000)(m:ms.length<n):WR n g a1 [Sd s] a3 a4 a5 a6 a7 j l a b c (ms.map QY) d=some ((ms.map (EN s)).map QY):=by
 unfold WR;have:=KC (step:=Z1 n g a1 [Sd s] a3 a4 a5 a6 a7 j l a b c (ms.map QY) d) (EN s) ms
  (fun i u x o f=>by
   have p:=(jGj f).1;unfold Z1 WC;dsimp only;rw[jTj (by simp;omega),jTj ⟨Int.natCast_nonneg i,ZD f⟩,Q4 unM f,jBj];rw[show el Ww [Sd s] 0=some s from rfl,jBj,jBj];unfold EN;by_cases h:x.2.1=s
   ·rw[jTj (by rw[XZ];exact jDj h),jTj (by unfold Qh;omega),jTj h,<-WH,jtj];rfl
   ·rw[jFj (by rw[XZ];exact fun e=>h (of_decide_eq_true e)),jTj (by unfold Qh;omega),jFj h,wv f];rfl)
  (fun u o=>by unfold Z1;dsimp only;rw[jFj (by simp)]) m
 rw[this];rfl
theorem Qdr {n:Nat}{l:Int}{a1 s:jSj}{a3:jVj}{a4:jSj}{a5 a6:jVj}{a7 m:Int}{o a:Bool}{b c d:Int}{f g:jVj}(ms:List Mir)(t:ms.length<=5000)(p:ms.length<n):WF n l a1 [Sd s] a3 a4 a5 a6 a7 m o a b c d f (ms.map QY) g=some ((ms.map (EN s)).map QY):=by
 unfold WF;have:=KC (step:=ZH n l a1 [Sd s] a3 a4 a5 a6 a7 m o a b c d f (ms.map QY) g) (EN s) ms
  (fun i u x q j=>by
   have r:=(jGj j).1;unfold ZH WC;dsimp only;rw[jTj (by simp;omega),jTj ⟨Int.natCast_nonneg i,ZD j⟩,Q4 unM j,jBj];rw[show el Ww [Sd s] 0=some s from rfl,jBj,jBj];unfold EN;by_cases h:x.2.1=s
   ·rw[jTj (by rw[XZ];exact jDj h),jTj (by unfold Qh;omega),jTj h,<-WH,jtj];rfl
   ·rw[jFj (by rw[XZ];exact fun e=>h (of_decide_eq_true e)),jTj (by unfold Qh;omega),jFj h,wv j];rfl)
  (fun u q=>by unfold ZH;dsimp only;rw[jFj (by simp)]) p
 rw[this];rfl
theorem QdN {n:Nat}{b a1:Int}{a2 a3:Bool}{a4 a5 a6:Int}{a7 c:jVj}(ms:List Mir)(g:ms.length<=5000)(d:ms.length<n):WG n b a1 a2 a3 a4 a5 a6 a7 (ms.map QY) c=some ((ms.map Ka).map QY):=by
 unfold WG;have:=KC (step:=ZI n b a1 a2 a3 a4 a5 a6 a7 (ms.map QY) c) Ka ms
  (fun i u x e a=>by have f:=(jGj a).1;unfold ZI WB;dsimp only;rw[jTj (by simp;omega),jTj ⟨Int.natCast_nonneg i,ZD a⟩,Q4 unM a,jBj];rw[jBj,jTj rfl,jTj (by unfold Qh;omega),<-WH,jtj];rfl)
  (fun u e=>by unfold ZI;dsimp only;rw[jFj (by simp)]) d
 rw[this];rfl
theorem Qdq {n:Nat}{c a1:jVj}{a2 a3:Int}{a4 a5:Bool}{a6 a7 d:Int}{e a:jVj}(ms:List Mir)(j:ms.length<=5000)(f:ms.length<n):WE n c a1 a2 a3 a4 a5 a6 a7 d e (ms.map QY) a=some ((ms.map Ka).map QY):=by
 unfold WE;have:=KC (step:=ZG n c a1 a2 a3 a4 a5 a6 a7 d e (ms.map QY) a) Ka ms
  (fun i u x g b=>by have h:=(jGj b).1;unfold ZG WB;dsimp only;rw[jTj (by simp;omega),jTj ⟨Int.natCast_nonneg i,ZD b⟩,Q4 unM b,jBj];rw[jBj,jTj rfl,jTj (by unfold Qh;omega),<-WH,jtj];rfl)
  (fun u g=>by unfold ZG;dsimp only;rw[jFj (by simp)]) f
 rw[this];rfl
def aG (_:Unit)(m:Mir):Unit⊕(Unit⊕Unit):=if isA m=true then .inr (.inl ()) else .inl ()
theorem ur:∀(l:List Mir),Y6 aG (fun _=>.inr ()) l ()=if l.any isA=true then .inl () else .inr ()
 | []=>rfl
 | x::l=>by
  unfold Y6 aG;by_cases h:isA x=true
  ·rw[jTj h];simp[h]
  ·rw[jFj h];simp only[List.any_cons,h,Bool.false_or];exact ur l
theorem QdF {n:Nat}{d a1:jVj}{a2 a3:Int}{a4 a5:Bool}{a6 a7 e:Int}{f c:jVj}(ms:List Mir)(l:ms.length<=5000)(g:ms.length<n):W6 n d a1 a2 a3 a4 a5 a6 a7 e f (ms.map QY) c=some (ms.any isA):=by
 unfold W6;have:=ZK (step:=Z9 n d a1 a2 a3 a4 a5 a6 a7 e f (ms.map QY) c) aG (fun _=>.inr ()) (fun i _=>(i:Int)) ms (fun _ _=>True)
  (fun i _ m b _=>by
   have j:=(jGj b).1;unfold aG Z9;by_cases a:isA m=true
   ·rw[jTj a];dsimp only;rw[jTj (ZD b),jTj ⟨Int.natCast_nonneg i,ZD b⟩,Q4 unM b,jBj];unfold isA at a;rw[jTj a,jFj (by rw[a];simp)]
   ·rw[jFj a];refine⟨?_,trivial⟩;rw[jTj (ZD b),jTj ⟨Int.natCast_nonneg i,ZD b⟩,Q4 unM b,jBj];unfold isA at a;rw[jFj a,jTj (by unfold Qh;omega)];rfl)
  (fun s _=>by unfold Z9;rw[jFj (by simp)]) (s:=()) trivial g
 rw[show(0:Int)=((0:Nat):Int) from rfl,this,ur];by_cases h:ms.any isA=true
 ·rw[jTj h,h];rfl
 ·rw[jFj h];simp only[Bool.not_eq_true] at h;rw[h];rfl
def YQ (ms:List Mir):List jSj:=(ms.filter isA).map fun x=>x.1
theorem Qdm:∀(ms:List Mir),(ms.flatMap fun x=>if isA x=true then[Sd x.1] else[])=(YQ ms).map Sd
 | []=>rfl
 | x::l=>by
  rw[List.flatMap_cons,Qdm l];unfold YQ;by_cases h:isA x=true
  ·rw[jTj h,List.filter_cons_of_pos h];rfl
  ·rw[jFj h,List.filter_cons_of_neg h];rfl
def Ws (o:Off):Int:=o.2.2.2.1 - o.2.2.2.2.2.1
def U5 (o:Off):Int:=o.2.2.2.2.1*o.2.2.2.2.2.1 - 2*o.2.2.2.2.1*Ws o
theorem YF {o:Off}(h:okO o):(0<=Ws o/\Ws o<=1000)/\(0<=o.2.2.2.2.1*o.2.2.2.2.2.1/\o.2.2.2.2.1*o.2.2.2.2.2.1<=1000000)/\(0<=2*o.2.2.2.2.1*Ws o/\2*o.2.2.2.2.1*Ws o<=2000000)/\(-2000000<=U5 o/\U5 o<=1000000):=by
 obtain⟨f,e,i⟩:=h;have d:0<=Ws o/\Ws o<=1000:=by unfold Ws;omega
 have a:=wF (g:=o.2.2.2.2.1) (c:=o.2.2.2.2.2.1) (p:=1000) (q:=1000) e (by omega);have b:=wF (g:=2*o.2.2.2.2.1) (c:=Ws o) (p:=2000) (q:=1000) (by omega) d;refine⟨d,by omega,by omega,?_⟩;unfold U5;omega
theorem Qag (n:Nat){o:Off}(h:okO o):Zg n o.1 o.2.1 o.2.2.1 o.2.2.2.1 o.2.2.2.2.1 o.2.2.2.2.2.1 o.2.2.2.2.2.2=some (Ws o):=by obtain⟨a,_⟩:=YF h;unfold Ws at a;unfold Zg Ws;rw[jTj (by unfold Qh;omega)]
theorem Qbp (n:Nat){o:Off}(h:okO o):Wv n o.1 o.2.1 o.2.2.1 o.2.2.2.1 o.2.2.2.2.1 o.2.2.2.2.2.1 o.2.2.2.2.2.2=some (U5 o):=by obtain⟨a,b,c,d⟩:=YF h;have e:=h.2.1;unfold Wv;rw[Qag n h,jTj (by unfold Qh;omega),jTj (by unfold Qh;omega),jBj,jTj (by unfold Qh;omega)];unfold U5 at d ⊢;rw[jTj (by unfold Qh;omega)]
inductive Ki where
 | sector
 | mirror
 | soil
 | clean
 | defect
 | repair
 | aim
 | park
 | dim
 | sun
 | fill
 | drain
 | trip
 | reset
 | offer
 | deliver
 | bill
 | undo
 deriving DecidableEq
def kw:Ki->List UInt8
 | .sector=>[115,101,99,116,111,114]
 | .mirror=>[109,105,114,114,111,114]
 | .soil=>[115,111,105,108]
 | .clean=>[99,108,101,97,110]
 | .defect=>[100,101,102,101,99,116]
 | .repair=>[114,101,112,97,105,114]
 | .aim=>[97,105,109]
 | .park=>[112,97,114,107]
 | .dim=>[100,105,109]
 | .sun=>[115,117,110]
 | .fill=>[102,105,108,108]
 | .drain=>[100,114,97,105,110]
 | .trip=>[116,114,105,112]
 | .reset=>[114,101,115,101,116]
 | .offer=>[111,102,102,101,114]
 | .deliver=>[100,101,108,105,118,101,114]
 | .bill=>[98,105,108,108]
 | .undo=>[117,110,100,111]
def kr:Ki->List UInt8
 | .sector=>[83]
 | .mirror=>[77,115]
 | .soil=>[109]
 | .clean=>[109]
 | .defect=>[109]
 | .repair=>[109]
 | .aim=>[109]
 | .park=>[109]
 | .dim=>[115]
 | .sun=>[]
 | .fill=>[]
 | .drain=>[]
 | .trip=>[]
 | .reset=>[]
 | .offer=>[79]
 | .deliver=>[111]
 | .bill=>[111]
 | .undo=>[]
def kn (k:Ki):Nat:=(kr k).length
def kv:Ki->Nat
 | .sector=>1
 | .mirror=>2
 | .soil=>2
 | .clean=>1
 | .defect=>1
 | .repair=>1
 | .aim=>1
 | .park=>1
 | .dim=>1
 | .sun=>2
 | .fill=>1
 | .drain=>1
 | .trip=>1
 | .reset=>1
 | .offer=>5
 | .deliver=>2
 | .bill=>1
 | .undo=>0
def allKd:List Ki:=[.sector,.mirror,.soil,.clean,.defect,.repair,.aim,.park,.dim,.sun,.fill,.drain,.trip,.reset,.offer,.deliver,.bill,.undo]
def yJ (l:List UInt8):Option Ki:=allKd.find? fun k=>decide (kw k=l)
theorem E7 (k:Ki):yJ (kw k)=some k:=by cases k<;>decide
theorem qM {l:List UInt8}{k:Ki}(h:yJ l=some k):l=kw k:=by have:=List.find?_some h;simpa using(of_decide_eq_true this).symm
theorem kE {l:List UInt8}(h:yJ l=none)(k:Ki):l≠kw k:=by intro e;rw[e,E7] at h;cases h
theorem kne {a:jSj}{L:List UInt8}(h:a.data.toList=L){l:Array UInt8}(b:L≠l.toList):¬((a.toList==(⟨l⟩:jSj).toList)=true):=by rw[kq,h];exact b
theorem keq {a:jSj}{L:List UInt8}(h:a.data.toList=L){l:Array UInt8}(b:L=l.toList):(a.toList==(⟨l⟩:jSj).toList)=true:=by rw[kq,h];exact b
theorem dne {a:jSj}{L M:List UInt8}(h:a.data.toList=L)(b:L≠M):¬a.data.toList=M:=by rw[h];exact b
theorem QdZ {a b:jSj}(h:(a==b)=true):a=b:=by cases a;cases b;have c : (ByteArray.mk _==ByteArray.mk _)=true:=h;simp only[ByteArray.mk.injEq];exact eq_of_beq h
theorem QbA {s:jSj}:∀{j:Value},X9 (.string s) j=some true->j=.string s:=by intro j h;cases j<;>simp[X9] at h;rw[QdZ h]
theorem kA:∀(es:jVj) (s:jSj),(VY (.string s) es).isSome=true->∃x,D.tup [.v (.string s),x]∈es
 | [],s,h=>by simp[VY] at h
 | e::es,s,h=>by
  unfold VY at h;split at h
  ·rename_i j x b;split at h
   ·rename_i d;have:j=.string s:=QbA d;subst this;refine⟨x,?_⟩;unfold SX.keyOf at b;split at b<;>try cases b
    rename_i l;unfold Qck at b;split at b
    ·cases b
    ·rename_i a l;split at b
     ·cases b
     ·rename_i y r;split at b
      ·split at b
       ·rename_i k c;cases b;unfold vOf at c;split at c<;>cases c;exact jMj
       ·cases b
      ·cases b
   ·obtain⟨x,f⟩:=kA es s h;exact⟨x,jmj _ f⟩
  ·cases h
theorem Qby {a:jSj}(h:(VY (.string a) Wr).isSome=true):∃k,a.data.toList=kw k:=by
 obtain⟨x,b⟩:=kA _ _ h;unfold Wr at b;simp only[List.mem_cons,D.tup.injEq,List.cons.injEq,D.v.injEq,Value.string.injEq,List.not_mem_nil,or_false] at b;obtain h|h|h|h|h|h|h|h|h|h|h|h|h|h|h|h|h|h:=b
 ·exact⟨.sector,by rw[h.1];rfl⟩
 ·exact⟨.mirror,by rw[h.1];rfl⟩
 ·exact⟨.soil,by rw[h.1];rfl⟩
 ·exact⟨.clean,by rw[h.1];rfl⟩
 ·exact⟨.defect,by rw[h.1];rfl⟩
 ·exact⟨.repair,by rw[h.1];rfl⟩
 ·exact⟨.aim,by rw[h.1];rfl⟩
 ·exact⟨.park,by rw[h.1];rfl⟩
 ·exact⟨.dim,by rw[h.1];rfl⟩
 ·exact⟨.sun,by rw[h.1];rfl⟩
 ·exact⟨.fill,by rw[h.1];rfl⟩
 ·exact⟨.drain,by rw[h.1];rfl⟩
 ·exact⟨.trip,by rw[h.1];rfl⟩
 ·exact⟨.reset,by rw[h.1];rfl⟩
 ·exact⟨.offer,by rw[h.1];rfl⟩
 ·exact⟨.deliver,by rw[h.1];rfl⟩
 ·exact⟨.bill,by rw[h.1];rfl⟩
 ·exact⟨.undo,by rw[h.1];rfl⟩
theorem Qdp:∀(k:Ki),((VY (.string (mkS (kw k))) Wr).bind J8).map (fun x=>(x.1,x.2.1))=some (mkS (kr k),(kv k:Int))
 | .sector=>by kernel_rfl
 | .mirror=>by kernel_rfl
 | .soil=>by kernel_rfl
 | .clean=>by kernel_rfl
 | .defect=>by kernel_rfl
 | .repair=>by kernel_rfl
 | .aim=>by kernel_rfl
 | .park=>by kernel_rfl
 | .dim=>by kernel_rfl
 | .sun=>by kernel_rfl
 | .fill=>by kernel_rfl
 | .drain=>by kernel_rfl
 | .trip=>by kernel_rfl
 | .reset=>by kernel_rfl
 | .offer=>by kernel_rfl
 | .deliver=>by kernel_rfl
 | .bill=>by kernel_rfl
 | .undo=>by kernel_rfl
theorem QcY {a:jSj}{k:Ki}(h:a.data.toList=kw k):(VY (.string a) Wr).isSome=true/\∃f g,(VY (.string a) Wr).bind J8=some (mkS (kr k),(kv k:Int),f,g):=by
 have e:a=mkS (kw k):=by rw[<-h,yD]
 subst e;have:=Qdp k;cases hm:VY (.string (mkS (kw k))) Wr with
 | none=>rw[hm] at this;cases this
 | some d =>
  rw[hm,jBj] at this;refine⟨rfl,?_⟩;obtain⟨x,i,j⟩:=Option.map_eq_some_iff.1 this;refine⟨x.2.2.1,x.2.2.2,?_⟩;rw[jBj,i];obtain⟨b,c⟩:=Prod.mk.inj j;rw[<-b,<-c]
abbrev Ev:=Int×jSj×List jSj×List Int×jSj
def Zr (e:Ev):D:=QP (e.1,e.2.1,e.2.2.1.map Sd,e.2.2.2.1.map I,e.2.2.2.2)
def Short (e:Ev):Prop:=e.2.1.size<=40/\e.2.2.1.length<=6/\e.2.2.2.1.length<=8/\e.2.2.2.2.size<=200/\∀s,s∈e.2.2.1->s.size<=40
def Shw (n:Nat)(e:Ev):Prop:=e.2.2.1.length<=6/\e.2.2.2.1.length<=8/\∀s,s∈e.2.2.1->s.size<n
theorem Short.w {n:Nat}(b:1700<=n){e:Ev}(h:Short e):Shw n e:=⟨h.2.1,h.2.2.1,fun s a=>Nat.lt_of_le_of_lt (h.2.2.2.2 s a) (by omega)⟩
def wq (v:Int):Bool:=decide (inR v 0 999999999=0)
def chk (e:Ev):Int:=if inR e.1 1 1000=0 then(match yJ e.2.1.data.toList with
 | none=>13
 | some k=>if e.2.2.1.length=kn k/\e.2.2.2.1.length=kv k then(if e.2.2.1.all Us=true then(if e.2.2.2.1.all wq=true then(if e.2.2.2.2.size=0 then 0 else 1) else 3) else 8) else 2) else 3
structure Good (e:Ev) (k:Ki):Prop where
 num:1<=e.1/\e.1<=1000
 kind:e.2.1.data.toList=kw k
 names:e.2.2.1.length=kn k
 vals:e.2.2.2.1.length=kv k
 name:∀s,s∈e.2.2.1->Us s=true
 val:∀v,v∈e.2.2.2.1->0<=v/\v<=999999999
 text:e.2.2.2.2.size=0
theorem qn {e:Ev}(h:chk e=0):∃k,Good e k:=by
 unfold chk at h;split at h;case isFalse=>cases h
 rename_i b;split at h
 ·cases h
 rename_i k g;split at h;case isFalse=>cases h
 rename_i a;split at h;case isFalse=>cases h
 rename_i c;split at h;case isFalse=>cases h
 rename_i d;split at h;case isFalse=>cases h
 rename_i f;refine⟨k,YC.1 b,qM g,a.1,a.2,List.all_eq_true.1 c,fun v i=>?_,f⟩;have:=List.all_eq_true.1 d v i;exact YC.1 (of_decide_eq_true this)
theorem Qc4 {n:Nat}(e:1700<=n)(l:List jSj)(d:l.length<=60)(b:∀s,s∈l->s.size<n):Wf n (l.map Sd)=some ((l.map fun s=>QF (!Us s) 8).map I):=by
 unfold Wf;have:=UV (step:=WN n (l.map Sd)) (E:=jVj) (fun out=>out) l (fun s=>[I (QF (!Us s) 8)]) (fun _=>jLj _)
  (fun i out x a f=>by have c:=(jGj a).1;unfold WN Vs;dsimp only;rw[jTj (ZD a),jH a,jBj,QbL (by have:=b x (jgj a);omega),jBj,Zd,jBj,jBj,jTj (V7 (by decide) (by omega)),jTj (by unfold Qh;omega)];rfl)
  (fun out _=>by unfold WN;dsimp only;rw[jFj (by simp)]) (k:=n) (by omega)
 rw[this,jBj,wW,List.map_map];rfl
theorem Qc3 {n:Nat}(d:1700<=n)(l:List Int)(c:l.length<=60):ZU n (l.map I)=some ((l.map fun v=>inR v 0 999999999).map I):=by
 unfold ZU;have:=UV (step:=Wp n (l.map I)) (E:=jVj) (fun out=>out) l (fun v=>[I (inR v 0 999999999)]) (fun _=>jLj _)
  (fun i out x a e=>by have b:=(jGj a).1;unfold Wp Vr;dsimp only;rw[jTj (ZD a),EM a,jBj,V2,jBj,jBj,jTj (V7 (by decide) (by omega)),jTj (by unfold Qh;omega)];rfl)
  (fun out _=>by unfold Wp;dsimp only;rw[jFj (by simp)]) (k:=n) (by omega)
 rw[this,jBj,wW,List.map_map];rfl
theorem kH:∀(l:List jSj),Qt (l.map fun s=>QF (!Us s) 8)=if l.all Us=true then 0 else 8
 | []=>rfl
 | s::l=>by
  have a:=kH l;rw[jCj];unfold Qt QF;unfold QF at a;cases h:Us s with
  | true=>simp only[Bool.not_true,Bool.false_eq_true,if_false,if_true,List.all_cons,h,Bool.true_and];exact a
  | false=>simp[h]
theorem uU:∀(l:List Int),Qt (l.map fun v=>inR v 0 999999999)=if l.all wq=true then 0 else 3
 | []=>rfl
 | v::l=>by
  have a:=uU l;rw[jCj];unfold Qt;obtain h|h:=qO v 0 999999999
  ·rw[jTj h,a];simp[wq,h]
  ·rw[h,jFj (by decide)];simp[wq,h]
theorem Qa8 (s:jSj):(!(s.toList==(⟨#[]⟩:jSj).toList))=decide (s.size≠0):=by rw[yy];by_cases h:s.size=0<;>simp[h]
theorem QkC {n:Nat}(v:1700<=n)(e:Ev)(F:e.2.2.1.length<=6)(G:e.2.2.2.1.length<=8)(A:∀s,s∈e.2.2.1->s.size<n):WX n e.1 e.2.1 (e.2.2.1.map Sd) (e.2.2.2.1.map I) e.2.2.2.2=some (chk e):=by
 have a:(Wf n (e.2.2.1.map Sd)).bind (fun E=>(Qo n E).bind fun p=>(ZU n (e.2.2.2.1.map I)).bind fun q=>(Qo n q).bind fun r =>
   (Qm n (!(e.2.2.2.2.toList==(⟨#[]⟩:jSj).toList)) 1).bind fun t=>(Qo n ([I p,I r,I t])).bind fun u=>some u) =
   some (if e.2.2.1.all Us=true then(if e.2.2.2.1.all wq=true then(if e.2.2.2.2.size=0 then 0 else 1) else 3) else 8):=by
  rw[Qc4 v _ (by omega) A,jBj,Xp _ (by simp;omega) (by simp;omega),jBj,Qc3 v _ (by omega),jBj,Xp _ (by simp;omega) (by simp;omega),jBj,
   kH,uU,Zd,jBj,wX (by omega),jBj,Qa8]
  unfold QF Qt Qt Qt Qt;by_cases i:e.2.2.1.all Us=true<;>by_cases c:e.2.2.2.1.all wq=true<;>by_cases z:e.2.2.2.2.size=0<;>simp[i,c,z]
 unfold WX;cases hk:yJ e.2.1.data.toList with
 | none =>
  have m:¬(VY (.string e.2.1) Wr).isSome=true:=fun h=>by obtain⟨k,l⟩:=Qby h;exact kE hk k l
  rw[jFj m,V2,jBj];unfold Uo VN;simp only[jBj,Zd];unfold chk;rw[hk];have j:∀x:Int,Qo n ([I (inR e.1 1 1000),I 13,I x])=some (if inR e.1 1 1000=0 then 13 else 3):=by intro x;rw[wX (by omega)];unfold Qt Qt;obtain h|h:=qO e.1 1 1000<;>rw[h]<;>simp
  have y:¬(if inR e.1 1 1000=0 then(13:Int) else 3)=0:=by split<;>decide
  split
  ·rw[j,jBj,jFj y]
  ·rw[j,jBj,jFj y]
 | some k =>
  obtain⟨b,f,g,d⟩:=QcY (qM hk);rw[jTj b,d,jBj,V2,jBj];unfold Up VN;simp only[jBj,Zd];unfold chk;rw[hk];have j:∀x:Int,Qo n ([I (inR e.1 1 1000),I 0,I x])=some (if inR e.1 1 1000=0 then x else 3):=by intro x;rw[wX (by omega)];unfold Qt Qt Qt Qt;obtain h|h:=qO e.1 1 1000<;>rw[h]<;>simp;intro h;exact h.symm
  have o:((mkS (kr k)).size:Int)=(kn k:Int):=by unfold kn mkS ByteArray.size;simp
  simp only[j,jBj,jlj,o];by_cases g0:inR e.1 1 1000=0
  ·simp only[g0,if_true];by_cases i:e.2.2.1.length=kn k
   ·rw[jTj (by omega)];by_cases c:e.2.2.2.1.length=kv k
    ·have C:e.2.2.1.length=kn k/\e.2.2.2.1.length=kv k:=⟨i,c⟩
     have:(((e.2.2.2.1.length:Nat):Int) != (kv k:Int))=false:=by simp[c]
     rw[this];simp only[QF,Bool.false_eq_true,if_false,if_true];rw[jTj C];simp only[Zd,jBj,QF] at a;exact a
    ·have:(((e.2.2.2.1.length:Nat):Int) != (kv k:Int))=true:=by simp;omega
     rw[this];simp only[QF,if_true];rw[jFj (by decide),jFj (fun h=>c h.2)]
   ·rw[jFj (by omega),jFj (by decide),jFj (fun h=>i h.1)]
  ·simp only[g0,if_false];split
   ·rw[jFj (by decide)]
   ·rw[jFj (by decide)]
theorem V3 {n:Nat}(b:1700<=n)(e:Ev)(a:Shw n e):WX n e.1 e.2.1 (e.2.2.1.map Sd) (e.2.2.2.1.map I) e.2.2.2.2=some (chk e) :=
 QkC b e a.1 a.2.1 a.2.2
theorem gi0 {b:Type}{a:Int}{l:jVj}{f:Int->Option b}:(el Vt (I a::l) 0).bind f=f a:=rfl
theorem gi1 {b:Type}{x:D}{a:Int}{l:jVj}{f:Int->Option b}:(el Vt (x::I a::l) 1).bind f=f a:=rfl
theorem gi2 {b:Type}{x y:D}{a:Int}{l:jVj}{f:Int->Option b}:(el Vt (x::y::I a::l) 2).bind f=f a:=rfl
theorem gi3 {b:Type}{x y z:D}{a:Int}{l:jVj}{f:Int->Option b}:(el Vt (x::y::z::I a::l) 3).bind f=f a:=rfl
theorem gi4 {b:Type}{x y z w:D}{a:Int}{l:jVj}{f:Int->Option b}:(el Vt (x::y::z::w::I a::l) 4).bind f=f a:=rfl
theorem gs0 {b:Type}{a:jSj}{l:jVj}{f:jSj->Option b}:(el Ww (Sd a::l) 0).bind f=f a:=rfl
theorem gs1 {b:Type}{x:D}{a:jSj}{l:jVj}{f:jSj->Option b}:(el Ww (x::Sd a::l) 1).bind f=f a:=rfl
section
variable {num:Int}{kind text:jSj}{names:List jSj}{vals:List Int}{k:Ki}
theorem Good.d01 (a:Good (num,kind,names,vals,text) k)(d:kn k=0)(e:kv k=1):∃t,names=[]/\vals=[t]/\0<=t/\t<=999999999:=by
 have b:names.length=0:=a.names.trans d;have c:vals.length=1:=a.vals.trans e;match names,vals,b,c with
 | [],[t],_,_=>exact⟨t,rfl,rfl,a.val t (by simp)⟩
theorem Good.d02 (a:Good (num,kind,names,vals,text) k)(d:kn k=0)(e:kv k=2):∃t f,names=[]/\vals=[t,f]/\0<=t/\t<=999999999:=by
 have b:names.length=0:=a.names.trans d;have c:vals.length=2:=a.vals.trans e;match names,vals,b,c with
 | [],[t,v],_,_=>exact⟨t,v,rfl,rfl,a.val t (by simp)⟩
theorem Good.d11 (b:Good (num,kind,names,vals,text) k)(e:kn k=1)(f:kv k=1):∃a t,names=[a]/\vals=[t]/\0<=t/\t<=999999999:=by
 have c:names.length=1:=b.names.trans e;have d:vals.length=1:=b.vals.trans f;match names,vals,c,d with
 | [a],[t],_,_=>exact⟨a,t,rfl,rfl,b.val t (by simp)⟩
theorem Good.d12 (b:Good (num,kind,names,vals,text) k)(e:kn k=1)(f:kv k=2):∃a t g,names=[a]/\vals=[t,g]/\0<=t/\t<=999999999:=by
 have c:names.length=1:=b.names.trans e;have d:vals.length=2:=b.vals.trans f;match names,vals,c,d with
 | [a],[t,v],_,_=>exact⟨a,t,v,rfl,rfl,b.val t (by simp)⟩
theorem Good.d22 (c:Good (num,kind,names,vals,text) k)(f:kn k=2)(g:kv k=2):∃a b t h,names=[a,b]/\vals=[t,h]/\0<=t/\t<=999999999:=by
 have d:names.length=2:=c.names.trans f;have e:vals.length=2:=c.vals.trans g;match names,vals,d,e with
 | [a,b],[t,v],_,_=>exact⟨a,b,t,v,rfl,rfl,c.val t (by simp)⟩
theorem Good.d15 (b:Good (num,kind,names,vals,text) k)(e:kn k=1)(f:kv k=5):∃a t g h i j,names=[a]/\vals=[t,g,h,i,j]/\0<=t/\t<=999999999:=by
 have c:names.length=1:=b.names.trans e;have d:vals.length=5:=b.vals.trans f;match names,vals,c,d with
 | [a],[t,v,w,x,y],_,_=>exact⟨a,t,v,w,x,y,rfl,rfl,b.val t (by simp)⟩
end
theorem rmS {c b:Nat}{r:Reg}(d:Inv c r)(a:b<=200:=by decide):Wa b ((r.sectors.map Sd).length+1):=V7 a (by rw[jlj];have:=d.secs;omega)
theorem rmM {c b:Nat}{r:Reg}(d:Inv c r)(hc:c<=992)(a:b<=200:=by decide):Wa b ((r.mirrors.map QY).length+1):=V7 a (by rw[jlj];have:=d.lenM;omega)
theorem rmO {c b:Nat}{r:Reg}(d:Inv c r)(hc:c<=992)(a:b<=200:=by decide):Wa b ((r.offers.map Zj).length+1):=V7 a (by rw[jlj];have:=d.lenO;omega)
theorem g0 {t x:Int}{l:List Int}(h:t<x):(t::l).getD 0 0<x:=h
theorem g0n {t x:Int}{l:List Int}(h:¬t<x):¬(t::l).getD 0 0<x:=h
theorem okt {r:Reg}{t:Int}(h:¬t<r.tick)(a:0<=t/\t<=999999999):okT r t:=⟨by omega,a.2⟩
abbrev rtM (r:Reg)(t:Int)(s m o:jVj):jRj:=(t,r.level,r.filled,r.tripped,r.light+ZL r t,r.heat+ZL r t,r.money,s,m,o)
theorem Jl {r:Reg}{a:jSj}{n:Nat}(b:YJ (nmM r.mirrors) a=(n:Int))(c:n<r.mirrors.length):0<=YJ (nmM r.mirrors) a/\YJ (nmM r.mirrors) a<((r.mirrors.map QY).length:Int):=by rw[b,jlj];omega
theorem uS {r:Reg}{a:jSj}{n:Nat}(b:YJ (nmO r.offers) a=(n:Int))(c:n<r.offers.length):0<=YJ (nmO r.offers) a/\YJ (nmO r.offers) a<((r.offers.map Zj).length:Int):=by rw[b,jlj];omega
def iM (ms:List Mir)(a:jSj):Nat:=(pos (nmM ms) a).getD 0
def iO (b:List Off)(a:jSj):Nat:=(pos (nmO b) a).getD 0
def zM:Mir:=(⟨#[]⟩,⟨#[]⟩,0,0,false,false)
def zO:Off:=(⟨#[]⟩,0,0,0,0,0,false)
def mAt (ms:List Mir)(a:jSj):Mir:=ms.getD (iM ms a) zM
def oAt (b:List Off)(a:jSj):Off:=b.getD (iO b a) zO
theorem WP {ms:List Mir}{a:jSj}(h:Zu (nmM ms) a=true):YJ (nmM ms) a=(iM ms a:Int)/\iM ms a<ms.length/\ms[iM ms a]?=some (mAt ms a):=by
 obtain⟨i,b⟩:=Option.isSome_iff_exists.1 h;obtain⟨c,f⟩:=wB b;have e:iM ms a=i:=by unfold iM;rw[b];rfl
 have d:i<ms.length:=by unfold nmM at c;simpa using c
 refine⟨by unfold YJ;rw[b,e],by rw[e];exact d,?_⟩;unfold mAt;rw[e,List.getD_eq_getElem?_getD,jej d];rfl
theorem JV {b:List Off}{a:jSj}(h:Zu (nmO b) a=true):YJ (nmO b) a=(iO b a:Int)/\iO b a<b.length/\b[iO b a]?=some (oAt b a):=by
 obtain⟨i,c⟩:=Option.isSome_iff_exists.1 h;obtain⟨d,g⟩:=wB c;have e:iO b a=i:=by unfold iO;rw[c];rfl
 have f:i<b.length:=by unfold nmO at d;simpa using d
 refine⟨by unfold YJ;rw[c,e],by rw[e];exact f,?_⟩;unfold oAt;rw[e,List.getD_eq_getElem?_getD,jej f];rfl
def known (k:Ki)(r:Reg)(ns:List jSj):Int:=match k with
 | .sector=>QF (Zu r.sectors (ns.getD 0 ⟨#[]⟩)) 9
 | .mirror=>if Zu r.sectors (ns.getD 1 ⟨#[]⟩)=true then QF (Zu (nmM r.mirrors) (ns.getD 0 ⟨#[]⟩)) 9 else 10
 | .dim=>QF (!Zu r.sectors (ns.getD 0 ⟨#[]⟩)) 10
 | .offer=>QF (Zu (nmO r.offers) (ns.getD 0 ⟨#[]⟩)) 9
 | .deliver=>QF (!Zu (nmO r.offers) (ns.getD 0 ⟨#[]⟩)) 10
 | .bill=>QF (!Zu (nmO r.offers) (ns.getD 0 ⟨#[]⟩)) 10
 | .soil=>QF (!Zu (nmM r.mirrors) (ns.getD 0 ⟨#[]⟩)) 10
 | .clean=>QF (!Zu (nmM r.mirrors) (ns.getD 0 ⟨#[]⟩)) 10
 | .defect=>QF (!Zu (nmM r.mirrors) (ns.getD 0 ⟨#[]⟩)) 10
 | .repair=>QF (!Zu (nmM r.mirrors) (ns.getD 0 ⟨#[]⟩)) 10
 | .aim=>QF (!Zu (nmM r.mirrors) (ns.getD 0 ⟨#[]⟩)) 10
 | .park=>QF (!Zu (nmM r.mirrors) (ns.getD 0 ⟨#[]⟩)) 10
 | _=>0
def ws (vs:List Int):Int:=if vs.getD 1 0<vs.getD 0 0 then 14 else QF (decide (vs.getD 1 0>=vs.getD 2 0)) 14
def spec (k:Ki)(r:Reg)(ns:List jSj)(vs:List Int):Int:=match k with
 | .sector=>QF ((r.sectors.length:Int)==8) 5
 | .mirror=>Qt [inR (vs.getD 1 0) 1 100,QF ((r.mirrors.length:Int)==32) 5]
 | .soil=>inR (vs.getD 1 0) 0 1000
 | .defect=>Qt [QF (mAt r.mirrors (ns.getD 0 ⟨#[]⟩)).2.2.2.2.1 9,QF (mAt r.mirrors (ns.getD 0 ⟨#[]⟩)).2.2.2.2.2 31]
 | .repair=>QF (!(mAt r.mirrors (ns.getD 0 ⟨#[]⟩)).2.2.2.2.1) 22
 | .aim=>Qt [QF (!r.filled) 30,QF r.tripped 29,QF (mAt r.mirrors (ns.getD 0 ⟨#[]⟩)).2.2.2.2.1 21,QF (mAt r.mirrors (ns.getD 0 ⟨#[]⟩)).2.2.2.2.2 9]
 | .park=>QF (!(mAt r.mirrors (ns.getD 0 ⟨#[]⟩)).2.2.2.2.2) 22
 | .sun=>inR (vs.getD 1 0) 0 1000
 | .fill=>QF r.filled 9
 | .drain=>Qt [QF (!r.filled) 22,QF (r.mirrors.any isA) 31]
 | .trip=>QF r.tripped 9
 | .reset=>QF (!r.tripped) 22
 | .offer=>Qt [ws vs,inR (vs.getD 3 0) 1 1000,inR (vs.getD 4 0) 0 1000,QF ((r.offers.length:Int)==32) 5]
 | .deliver=>if Qt [QF (oAt r.offers (ns.getD 0 ⟨#[]⟩)).2.2.2.2.2.2 23,if vs.getD 0 0<(oAt r.offers (ns.getD 0 ⟨#[]⟩)).2.1 then 14 else QF (decide (vs.getD 0 0>=(oAt r.offers (ns.getD 0 ⟨#[]⟩)).2.2.1)) 14,QF (vs.getD 1 0==0) 3,QF (decide (vs.getD 1 0>Ws (oAt r.offers (ns.getD 0 ⟨#[]⟩)))) 20]=0
   then QF (decide (vs.getD 1 0*1000000>r.heat+ZL r (vs.getD 0 0))) 16
   else Qt [QF (oAt r.offers (ns.getD 0 ⟨#[]⟩)).2.2.2.2.2.2 23,if vs.getD 0 0<(oAt r.offers (ns.getD 0 ⟨#[]⟩)).2.1 then 14 else QF (decide (vs.getD 0 0>=(oAt r.offers (ns.getD 0 ⟨#[]⟩)).2.2.1)) 14,QF (vs.getD 1 0==0) 3,QF (decide (vs.getD 1 0>Ws (oAt r.offers (ns.getD 0 ⟨#[]⟩)))) 20]
 | .bill=>Qt [QF (oAt r.offers (ns.getD 0 ⟨#[]⟩)).2.2.2.2.2.2 23,QF (decide (vs.getD 0 0<(oAt r.offers (ns.getD 0 ⟨#[]⟩)).2.2.1)) 32]
 | _=>0
def acc (k:Ki)(r:Reg)(ns:List jSj)(vs:List Int):Int:=if vs.getD 0 0<r.tick then 22 else Qt [Zk r (vs.getD 0 0),known k r ns,spec k r ns vs]
theorem Wy {S E:Type}{step:S->Option (S⊕E)}{k:Nat}{s s' : S}(a:0<k)(h:step s=some (.inl s')):Q2 step k s=Q2 step (k - 1) s':=by
 obtain⟨j,rfl⟩:∃j,k=j+1:=⟨k - 1,by omega⟩
 exact E3 h
theorem Zf {S E:Type}{step:S->Option (S⊕E)}{k:Nat}{s:S}{e:E}(a:0<k)(h:step s=some (.inr e)):Q2 step k s=some e:=by
 obtain⟨j,rfl⟩:∃j,k=j+1:=⟨k - 1,by omega⟩
 exact JB h
theorem Gd {n:Nat}(o:1700<=n){a6:jVj}{a1:Int}{a2 a3:FnD}{a4:Int}{a5:jSj}{a7:jVj}{l:jSj}{m a:jVj}{b c:Int}{d e:Bool}{f g h:Int}{i:jVj}{j:jVj}{k:jVj}:Qk n (⟨#[]⟩) a1 a2 a3 a4 a5 a6 a7 l m a b c d e f g h i j k=some (0):=by
 unfold Qk;have q:Qg n (⟨#[]⟩) a1 a2 a3 a4 a5 a6 a7 l m a b c d e f g h i j k (false,0)=some (.inr (.inr false)):=by unfold Qg;dsimp only;rw[jFj (by decide)]
 rw[Zf (by omega) q,jBj];dsimp only;rw[Zd,jBj];rfl
theorem Qc7 {n:Nat}(r:1700<=n){a1:Int}{a2 a3:FnD}{a4:Int}{a5:jSj}{a7:jVj}{m:jSj}{o c:jVj}{d e:Int}{f g:Bool}{h i j:Int}{k:jVj}{l:jVj}(b:List jSj)(s:b.length<=992)(a:jSj):Qk n (⟨#[83]⟩) a1 a2 a3 a4 a5 [Sd a] a7 m o c d e f g h i j (b.map Sd) k l=some (QF (Zu b a) 9):=by
 unfold Qk;have q:Qg n (⟨#[83]⟩) a1 a2 a3 a4 a5 [Sd a] a7 m o c d e f g h i j (b.map Sd) k l (false,0)=some (.inl (Zu b a,1)):=by unfold Qg;dsimp only;rw[jTj (by decide),show WQ ⟨#[83]⟩ 0=some 83 from rfl,jBj,jTj (by decide),jTj (by decide),gs0,W4 b a (by omega) (by omega),jBj,jFj (by decide),jTj (by decide)];rfl
 have p:Qg n (⟨#[83]⟩) a1 a2 a3 a4 a5 [Sd a] a7 m o c d e f g h i j (b.map Sd) k l (Zu b a,1)=some (.inr (.inr (Zu b a))):=by unfold Qg;dsimp only;rw[jFj (show ¬(1:Int)<((⟨#[83]⟩:jSj).size:Int) by decide)]
 rw[Wy (by omega) q,Zf (by omega) p,jBj];dsimp only;rw[Zd,jBj]
theorem Qc8 {n:Nat}(r:1700<=n){a1:Int}{a2 a3:FnD}{a4:Int}{a5:jSj}{a7:jVj}{m:jSj}{o c:jVj}{d e:Int}{f g:Bool}{h i j:Int}{k:jVj}{l:jVj}(b:List Off)(s:b.length<=992)(a:jSj):Qk n (⟨#[79]⟩) a1 a2 a3 a4 a5 [Sd a] a7 m o c d e f g h i j k l (b.map Zj)=some (QF (Zu (nmO b) a) 9):=by
 unfold Qk;have q:Qg n (⟨#[79]⟩) a1 a2 a3 a4 a5 [Sd a] a7 m o c d e f g h i j k l (b.map Zj) (false,0)=some (.inl (Zu (nmO b) a,1)):=by unfold Qg;dsimp only;rw[jTj (by decide),show WQ ⟨#[79]⟩ 0=some 79 from rfl,jBj,jTj (by decide),jFj (by decide),show IntKind.wrap .u8 (79+32)=111 from by decide,EC b (by omega) (by omega),jBj,gs0,W4 (nmO b) a (by rw[Vq];omega) (by rw[Vq];omega),jBj,jFj (by decide),jTj (by decide)];rfl
 have p:Qg n (⟨#[79]⟩) a1 a2 a3 a4 a5 [Sd a] a7 m o c d e f g h i j k l (b.map Zj) (Zu (nmO b) a,1)=some (.inr (.inr (Zu (nmO b) a))):=by unfold Qg;dsimp only;rw[jFj (show ¬(1:Int)<((⟨#[79]⟩:jSj).size:Int) by decide)]
 rw[Wy (by omega) q,Zf (by omega) p,jBj];dsimp only;rw[Zd,jBj]
theorem Qc6 {n:Nat}(s:1700<=n){a1:Int}{a2 a3:FnD}{a4:Int}{a5:jSj}{a7:jVj}{o:jSj}{p b:jVj}{c d:Int}{e f:Bool}{g i j:Int}{k:jVj}{l:jVj}(m:List jSj)(t:m.length<=992)(a:jSj):Qk n (⟨#[115]⟩) a1 a2 a3 a4 a5 [Sd a] a7 o p b c d e f g i j (m.map Sd) k l=some (QF (!Zu m a) 10):=by
 unfold Qk;by_cases h:Zu m a=true
 ·have q:Qg n (⟨#[115]⟩) a1 a2 a3 a4 a5 [Sd a] a7 o p b c d e f g i j (m.map Sd) k l (false,0)=some (.inl (false,1)):=by unfold Qg;dsimp only;rw[jTj (by decide),show WQ ⟨#[115]⟩ 0=some 115 from rfl,jBj,jFj (by decide),jTj (by decide),gs0,W4 m a (by omega) (by omega),jBj,jTj h,jFj (by decide),jTj (by decide)];rfl
  have r:Qg n (⟨#[115]⟩) a1 a2 a3 a4 a5 [Sd a] a7 o p b c d e f g i j (m.map Sd) k l (false,1)=some (.inr (.inr false)):=by unfold Qg;dsimp only;rw[jFj (show ¬(1:Int)<((⟨#[115]⟩:jSj).size:Int) by decide)]
  rw[Wy (by omega) q,Zf (by omega) r,jBj,h];dsimp only;rw[Zd,jBj];rfl
 ·have q:Qg n (⟨#[115]⟩) a1 a2 a3 a4 a5 [Sd a] a7 o p b c d e f g i j (m.map Sd) k l (false,0)=some (.inr (.inl ())):=by unfold Qg;dsimp only;rw[jTj (by decide),show WQ ⟨#[115]⟩ 0=some 115 from rfl,jBj,jFj (by decide),jTj (by decide),gs0,W4 m a (by omega) (by omega),jBj,jFj h]
  rw[Zf (by omega) q,jBj];simp only[Bool.not_eq_true] at h;rw[h];rfl
theorem XO {n:Nat}(s:1700<=n){a1:Int}{a2 a3:FnD}{a4:Int}{a5:jSj}{a7:jVj}{m:jSj}{o b:jVj}{c d:Int}{e f:Bool}{g i j:Int}{k:jVj}{l:jVj}(ms:List Mir)(r:ms.length<=992)(a:jSj):Qk n (⟨#[109]⟩) a1 a2 a3 a4 a5 [Sd a] a7 m o b c d e f g i j k (ms.map QY) l=some (QF (!Zu (nmM ms) a) 10):=by
 unfold Qk;by_cases h:Zu (nmM ms) a=true
 ·have q:Qg n (⟨#[109]⟩) a1 a2 a3 a4 a5 [Sd a] a7 m o b c d e f g i j k (ms.map QY) l (false,0)=some (.inl (false,1)):=by unfold Qg;dsimp only;rw[jTj (by decide),show WQ ⟨#[109]⟩ 0=some 109 from rfl,jBj,jFj (by decide),jFj (by decide),UC ms (by omega) (by omega),jBj,gs0,W4 (nmM ms) a (by rw[Zo];omega) (by rw[Zo];omega),jBj,jTj h,jFj (by decide),jTj (by decide)];rfl
  have p:Qg n (⟨#[109]⟩) a1 a2 a3 a4 a5 [Sd a] a7 m o b c d e f g i j k (ms.map QY) l (false,1)=some (.inr (.inr false)):=by unfold Qg;dsimp only;rw[jFj (show ¬(1:Int)<((⟨#[109]⟩:jSj).size:Int) by decide)]
  rw[Wy (by omega) q,Zf (by omega) p,jBj,h];dsimp only;rw[Zd,jBj];rfl
 ·have q:Qg n (⟨#[109]⟩) a1 a2 a3 a4 a5 [Sd a] a7 m o b c d e f g i j k (ms.map QY) l (false,0)=some (.inr (.inl ())):=by unfold Qg;dsimp only;rw[jTj (by decide),show WQ ⟨#[109]⟩ 0=some 109 from rfl,jBj,jFj (by decide),jFj (by decide),UC ms (by omega) (by omega),jBj,gs0,W4 (nmM ms) a (by rw[Zo];omega) (by rw[Zo];omega),jBj,jFj h]
  rw[Zf (by omega) q,jBj];simp only[Bool.not_eq_true] at h;rw[h];rfl
theorem Qbo {n:Nat}(s:1700<=n){a1:Int}{a2 a3:FnD}{a4:Int}{a5:jSj}{a7:jVj}{o:jSj}{p c:jVj}{d e:Int}{f g:Bool}{i j k:Int}{l:jVj}{m:jVj}(b:List Off)(t:b.length<=992)(a:jSj):Qk n (⟨#[111]⟩) a1 a2 a3 a4 a5 [Sd a] a7 o p c d e f g i j k l m (b.map Zj)=some (QF (!Zu (nmO b) a) 10):=by
 unfold Qk;by_cases h:Zu (nmO b) a=true
 ·have q:Qg n (⟨#[111]⟩) a1 a2 a3 a4 a5 [Sd a] a7 o p c d e f g i j k l m (b.map Zj) (false,0)=some (.inl (false,1)):=by unfold Qg;dsimp only;rw[jTj (by decide),show WQ ⟨#[111]⟩ 0=some 111 from rfl,jBj,jFj (by decide),jFj (by decide),EC b (by omega) (by omega),jBj,gs0,W4 (nmO b) a (by rw[Vq];omega) (by rw[Vq];omega),jBj,jTj h,jFj (by decide),jTj (by decide)];rfl
  have r:Qg n (⟨#[111]⟩) a1 a2 a3 a4 a5 [Sd a] a7 o p c d e f g i j k l m (b.map Zj) (false,1)=some (.inr (.inr false)):=by unfold Qg;dsimp only;rw[jFj (show ¬(1:Int)<((⟨#[111]⟩:jSj).size:Int) by decide)]
  rw[Wy (by omega) q,Zf (by omega) r,jBj,h];dsimp only;rw[Zd,jBj];rfl
 ·have q:Qg n (⟨#[111]⟩) a1 a2 a3 a4 a5 [Sd a] a7 o p c d e f g i j k l m (b.map Zj) (false,0)=some (.inr (.inl ())):=by unfold Qg;dsimp only;rw[jTj (by decide),show WQ ⟨#[111]⟩ 0=some 111 from rfl,jBj,jFj (by decide),jFj (by decide),EC b (by omega) (by omega),jBj,gs0,W4 (nmO b) a (by rw[Vq];omega) (by rw[Vq];omega),jBj,jFj h]
  rw[Zf (by omega) q,jBj];simp only[Bool.not_eq_true] at h;rw[h];rfl
theorem Qcx {n:Nat}(v:1700<=n){a1:Int}{a2 a3:FnD}{a4:Int}{a5:jSj}{a7:jVj}{p:jSj}{r c:jVj}{d e:Int}{f i:Bool}{j k l:Int}{m:jVj}(o:List jSj)(x:o.length<=992)(ms:List Mir)(u:ms.length<=992)(a b:jSj):Qk n (⟨#[77,115]⟩) a1 a2 a3 a4 a5 [Sd a,Sd b] a7 p r c d e f i j k l (o.map Sd) (ms.map QY) m=some (if Zu o b=true then QF (Zu (nmM ms) a) 9 else 10):=by
 unfold Qk;have q:Qg n (⟨#[77,115]⟩) a1 a2 a3 a4 a5 [Sd a,Sd b] a7 p r c d e f i j k l (o.map Sd) (ms.map QY) m (false,0)=some (.inl (Zu (nmM ms) a,1)):=by unfold Qg;dsimp only;rw[jTj (by decide),show WQ ⟨#[77,115]⟩ 0=some 77 from rfl,jBj,jTj (by decide),jFj (by decide),show IntKind.wrap .u8 (77+32)=109 from by decide,UC ms (by omega) (by omega),jBj,gs0,W4 (nmM ms) a (by rw[Zo];omega) (by rw[Zo];omega),jBj,jFj (by decide),jTj (by decide)];rfl
 rw[Wy (by omega) q];by_cases h:Zu o b=true
 ·have s:Qg n (⟨#[77,115]⟩) a1 a2 a3 a4 a5 [Sd a,Sd b] a7 p r c d e f i j k l (o.map Sd) (ms.map QY) m (Zu (nmM ms) a,1)=some (.inl (Zu (nmM ms) a,2)):=by
   unfold Qg;dsimp only;rw[jTj (show(1:Int)<((⟨#[77,115]⟩:jSj).size:Int) by decide),show WQ ⟨#[77,115]⟩ 1=some 115 from rfl,jBj,jFj (by decide),jTj rfl,gs1,W4 o b (by omega) (by omega),jBj,jTj h];by_cases g:Zu (nmM ms) a=true
   ·rw[jTj g,jTj (by decide),g];rfl
   ·rw[jFj g,jTj (by decide)];simp only[Bool.not_eq_true] at g;rw[g];rfl
  have t:Qg n (⟨#[77,115]⟩) a1 a2 a3 a4 a5 [Sd a,Sd b] a7 p r c d e f i j k l (o.map Sd) (ms.map QY) m (Zu (nmM ms) a,2)=some (.inr (.inr (Zu (nmM ms) a))):=by unfold Qg;dsimp only;rw[jFj (show ¬(2:Int)<((⟨#[77,115]⟩:jSj).size:Int) by decide)]
  rw[Wy (by omega) s,Zf (by omega) t,jBj,jTj h];dsimp only;rw[Zd,jBj]
 ·have s:Qg n (⟨#[77,115]⟩) a1 a2 a3 a4 a5 [Sd a,Sd b] a7 p r c d e f i j k l (o.map Sd) (ms.map QY) m (Zu (nmM ms) a,1)=some (.inr (.inl ())):=by unfold Qg;dsimp only;rw[jTj (show(1:Int)<((⟨#[77,115]⟩:jSj).size:Int) by decide),show WQ ⟨#[77,115]⟩ 1=some 115 from rfl,jBj,jFj (by decide),jTj rfl,gs1,W4 o b (by omega) (by omega),jBj,jFj h]
  rw[Zf (by omega) s,jBj,jFj h]
theorem Xq {a b c:Int}{x:Option Int}(h:Qt [a,b]=0->x=some c):(if Qt [a,b]=0 then x else some (Qt [a,b]))=some (Qt [a,b,c]):=by
 by_cases d:Qt [a,b]=0
 ·rw[jTj d,h d];have g:=Zv d a (by simp);have i:=Zv d b (by simp);subst g i;simp only[Qt,if_true];by_cases hc:c=0
  ·rw[jTj hc,hc]
  ·rw[jFj hc]
 ·rw[jFj d];simp only[Qt] at d ⊢;by_cases e:a=0
  ·subst e;simp only[if_true] at d ⊢;by_cases f:b=0
   ·subst f;exact absurd rfl d
   ·rw[jFj f,jFj f]
  ·rw[jFj e,jFj e]
theorem qK {a b:Int}(h:Qt [a,b]=0):b=0:=Zv h b (by simp)
theorem YT {b:Bool}{e:Int}(a:e≠0)(h:QF b e=0):b=false:=by
 unfold QF at h;cases b
 ·rfl
 ·exact absurd h a
theorem ZW {b:Bool}(h:QF (!b) 10=0):b=true:=by have:=YT (by decide) h;simpa using this
theorem QaE {a b:Type}(f:a->b)(l:List a)(n:Int):(((l.map f).length:Int)==n)=((l.length:Int)==n):=by rw[jlj]
theorem Qa3 {n c:Nat}(l:1700<=n){r:Reg}(i:Inv c r)(hc:c<=992){j:Int}{kind y:jSj}{names:List jSj}{z:List Int}{evs F:jVj}(T:evs.length<=5000) :
  ∀{k:Ki},k≠.undo->Good (j,kind,names,z,y) k->Qs n j kind (names.map Sd) (z.map I) y evs F r.tick r.level r.filled r.tripped r.light r.heat r.money (r.sectors.map Sd) (r.mirrors.map QY) (r.offers.map Zj)=some (if j=(evs.length:Int)+1 then acc k r names z else 11)
 | .sector,_,hg=>by
  have f:=hg.kind;dsimp only[kw] at f;obtain⟨a,t,rfl,rfl,g⟩:=hg.d11 rfl rfl;simp only[jCj,jnj];unfold Qs;rw[jTj (by unfold Qh;omega)];by_cases d:j=(evs.length:Int)+1
  ·rw[jTj d,jTj d,jFj (kne f (by decide))];unfold acc;rw[gi0];by_cases e:t<r.tick
   ·rw[jTj e,jTj (g0 e)]
   rw[jFj e,jFj (g0n e)];have m:okT r t:=okt e g;rw[jTj f,Za i hc l m,jBj];rw[Qc7 l r.sectors (by have:=i.secs;omega) a,jBj,VE (by omega),jBj];refine Xq fun q=>?_;rw[Zd,QaE];rfl
  ·rw[jFj d,jFj d]
 | .mirror,_,hg=>by
  have f:=hg.kind;dsimp only[kw] at f;obtain⟨a,b,t,o,rfl,rfl,g⟩:=hg.d22 rfl rfl;simp only[jCj,jnj];unfold Qs;rw[jTj (by unfold Qh;omega)];by_cases d:j=(evs.length:Int)+1
  ·rw[jTj d,jTj d,jFj (kne f (by decide))];unfold acc;rw[gi0];by_cases e:t<r.tick
   ·rw[jTj e,jTj (g0 e)]
   rw[jFj e,jFj (g0n e)];have m:okT r t:=okt e g;(iterate 1 rw[jFj (dne f (by decide))])
   rw[jTj f,Za i hc l m,jBj];rw[Qcx l r.sectors (by have:=i.secs;omega) r.mirrors (by have:=i.lenM;omega) a b,jBj,VE (by omega),jBj];refine Xq fun q=>?_;rw[gi1,V2,jBj,Zd,jBj,VE (by omega),QaE];rfl
  ·rw[jFj d,jFj d]
 | .soil,_,hg=>by
  have f:=hg.kind;dsimp only[kw] at f;obtain⟨a,t,o,rfl,rfl,g⟩:=hg.d12 rfl rfl;simp only[jCj,jnj];unfold Qs;rw[jTj (by unfold Qh;omega)];by_cases d:j=(evs.length:Int)+1
  ·rw[jTj d,jTj d,jFj (kne f (by decide))];unfold acc;rw[gi0];by_cases e:t<r.tick
   ·rw[jTj e,jTj (g0 e)]
   rw[jFj e,jFj (g0n e)];have m:okT r t:=okt e g;(iterate 2 rw[jFj (dne f (by decide))])
   rw[jTj f,Za i hc l m,jBj];rw[XO l r.mirrors (by have:=i.lenM;omega) a,jBj,VE (by omega),jBj];refine Xq fun q=>?_;rw[gi1,V2];rfl
  ·rw[jFj d,jFj d]
 | .clean,_,hg=>by
  have f:=hg.kind;dsimp only[kw] at f;obtain⟨a,t,rfl,rfl,g⟩:=hg.d11 rfl rfl;simp only[jCj,jnj];unfold Qs;rw[jTj (by unfold Qh;omega)];by_cases d:j=(evs.length:Int)+1
  ·rw[jTj d,jTj d,jFj (kne f (by decide))];unfold acc;rw[gi0];by_cases e:t<r.tick
   ·rw[jTj e,jTj (g0 e)]
   rw[jFj e,jFj (g0n e)];have m:okT r t:=okt e g;(iterate 3 rw[jFj (dne f (by decide))])
   rw[jTj f,Za i hc l m,jBj];rw[XO l r.mirrors (by have:=i.lenM;omega) a,jBj,VE (by omega),jBj];refine Xq fun q=>?_;rfl
  ·rw[jFj d,jFj d]
 | .defect,_,hg=>by
  have f:=hg.kind;dsimp only[kw] at f;obtain⟨a,t,rfl,rfl,g⟩:=hg.d11 rfl rfl;simp only[jCj,jnj];unfold Qs;rw[jTj (by unfold Qh;omega)];by_cases d:j=(evs.length:Int)+1
  ·rw[jTj d,jTj d,jFj (kne f (by decide))];unfold acc;rw[gi0];by_cases e:t<r.tick
   ·rw[jTj e,jTj (g0 e)]
   rw[jFj e,jFj (g0n e)];have m:okT r t:=okt e g;(iterate 4 rw[jFj (dne f (by decide))])
   rw[jTj f,Za i hc l m,jBj];rw[XO l r.mirrors (by have:=i.lenM;omega) a,jBj,VE (by omega),jBj];refine Xq fun q=>?_;have v:=ZW (qK q);obtain⟨s,x,u⟩:=WP v;have p:=Jl s x;rw[gs0,UC _ (by have:=i.lenM;omega) (by have:=i.lenM;omega),jBj,Wb _ _ (by rw[Zo];have:=i.lenM;omega) (by rw[Zo];have:=i.lenM;omega),jBj,jTj p,s,Q4 unM u,jBj];rw[Zd,jBj,Zd,jBj,VE (by omega)];rfl
  ·rw[jFj d,jFj d]
 | .repair,_,hg=>by
  have f:=hg.kind;dsimp only[kw] at f;obtain⟨a,t,rfl,rfl,g⟩:=hg.d11 rfl rfl;simp only[jCj,jnj];unfold Qs;rw[jTj (by unfold Qh;omega)];by_cases d:j=(evs.length:Int)+1
  ·rw[jTj d,jTj d,jFj (kne f (by decide))];unfold acc;rw[gi0];by_cases e:t<r.tick
   ·rw[jTj e,jTj (g0 e)]
   rw[jFj e,jFj (g0n e)];have m:okT r t:=okt e g;(iterate 5 rw[jFj (dne f (by decide))])
   rw[jTj f,Za i hc l m,jBj];rw[XO l r.mirrors (by have:=i.lenM;omega) a,jBj,VE (by omega),jBj];refine Xq fun q=>?_;have v:=ZW (qK q);obtain⟨s,x,u⟩:=WP v;have p:=Jl s x;rw[gs0,UC _ (by have:=i.lenM;omega) (by have:=i.lenM;omega),jBj,Wb _ _ (by rw[Zo];have:=i.lenM;omega) (by rw[Zo];have:=i.lenM;omega),jBj,jTj p,s,Q4 unM u,jBj];rw[Zd];rfl
  ·rw[jFj d,jFj d]
 | .aim,_,hg=>by
  have f:=hg.kind;dsimp only[kw] at f;obtain⟨a,t,rfl,rfl,g⟩:=hg.d11 rfl rfl;simp only[jCj,jnj];unfold Qs;rw[jTj (by unfold Qh;omega)];by_cases d:j=(evs.length:Int)+1
  ·rw[jTj d,jTj d,jFj (kne f (by decide))];unfold acc;rw[gi0];by_cases e:t<r.tick
   ·rw[jTj e,jTj (g0 e)]
   rw[jFj e,jFj (g0n e)];have m:okT r t:=okt e g;(iterate 6 rw[jFj (dne f (by decide))])
   rw[jTj f,Za i hc l m,jBj];rw[XO l r.mirrors (by have:=i.lenM;omega) a,jBj,VE (by omega),jBj];refine Xq fun q=>?_;have v:=ZW (qK q);obtain⟨s,x,u⟩:=WP v;have p:=Jl s x;rw[gs0,UC _ (by have:=i.lenM;omega) (by have:=i.lenM;omega),jBj,Wb _ _ (by rw[Zo];have:=i.lenM;omega) (by rw[Zo];have:=i.lenM;omega),jBj,jTj p,s];rw[Zd,jBj,Zd,jBj,Q4 unM u,jBj,Zd,jBj,Zd,jBj,QaK (by omega)];rfl
  ·rw[jFj d,jFj d]
 | .park,_,hg=>by
  have f:=hg.kind;dsimp only[kw] at f;obtain⟨a,t,rfl,rfl,g⟩:=hg.d11 rfl rfl;simp only[jCj,jnj];unfold Qs;rw[jTj (by unfold Qh;omega)];by_cases d:j=(evs.length:Int)+1
  ·rw[jTj d,jTj d,jFj (kne f (by decide))];unfold acc;rw[gi0];by_cases e:t<r.tick
   ·rw[jTj e,jTj (g0 e)]
   rw[jFj e,jFj (g0n e)];have m:okT r t:=okt e g;(iterate 7 rw[jFj (dne f (by decide))])
   rw[jTj f,Za i hc l m,jBj];rw[XO l r.mirrors (by have:=i.lenM;omega) a,jBj,VE (by omega),jBj];refine Xq fun q=>?_;have v:=ZW (qK q);obtain⟨s,x,u⟩:=WP v;have p:=Jl s x;rw[gs0,UC _ (by have:=i.lenM;omega) (by have:=i.lenM;omega),jBj,Wb _ _ (by rw[Zo];have:=i.lenM;omega) (by rw[Zo];have:=i.lenM;omega),jBj,jTj p,s,Q4 unM u,jBj];rw[Zd];rfl
  ·rw[jFj d,jFj d]
 | .dim,_,hg=>by
  have f:=hg.kind;dsimp only[kw] at f;obtain⟨a,t,rfl,rfl,g⟩:=hg.d11 rfl rfl;simp only[jCj,jnj];unfold Qs;rw[jTj (by unfold Qh;omega)];by_cases d:j=(evs.length:Int)+1
  ·rw[jTj d,jTj d,jFj (kne f (by decide))];unfold acc;rw[gi0];by_cases e:t<r.tick
   ·rw[jTj e,jTj (g0 e)]
   rw[jFj e,jFj (g0n e)];have m:okT r t:=okt e g;(iterate 8 rw[jFj (dne f (by decide))])
   rw[jTj f,Za i hc l m,jBj];rw[Qc6 l r.sectors (by have:=i.secs;omega) a,jBj,VE (by omega),jBj];refine Xq fun q=>?_;rfl
  ·rw[jFj d,jFj d]
 | .sun,_,hg=>by
  have f:=hg.kind;dsimp only[kw] at f;obtain⟨t,o,rfl,rfl,g⟩:=hg.d02 rfl rfl;simp only[jCj,jnj];unfold Qs;rw[jTj (by unfold Qh;omega)];by_cases d:j=(evs.length:Int)+1
  ·rw[jTj d,jTj d,jFj (kne f (by decide))];unfold acc;rw[gi0];by_cases e:t<r.tick
   ·rw[jTj e,jTj (g0 e)]
   rw[jFj e,jFj (g0n e)];have m:okT r t:=okt e g;(iterate 9 rw[jFj (dne f (by decide))])
   rw[jTj f,Za i hc l m,jBj];rw[Gd l,jBj,VE (by omega),jBj];refine Xq fun q=>?_;rw[gi1,V2];rfl
  ·rw[jFj d,jFj d]
 | .fill,_,hg=>by
  have f:=hg.kind;dsimp only[kw] at f;obtain⟨t,rfl,rfl,g⟩:=hg.d01 rfl rfl;simp only[jCj,jnj];unfold Qs;rw[jTj (by unfold Qh;omega)];by_cases d:j=(evs.length:Int)+1
  ·rw[jTj d,jTj d,jFj (kne f (by decide))];unfold acc;rw[gi0];by_cases e:t<r.tick
   ·rw[jTj e,jTj (g0 e)]
   rw[jFj e,jFj (g0n e)];have m:okT r t:=okt e g;(iterate 10 rw[jFj (dne f (by decide))])
   rw[jTj f,Za i hc l m,jBj];rw[Gd l,jBj,VE (by omega),jBj];refine Xq fun q=>?_;rw[Zd];rfl
  ·rw[jFj d,jFj d]
 | .drain,_,hg=>by
  have f:=hg.kind;dsimp only[kw] at f;obtain⟨t,rfl,rfl,g⟩:=hg.d01 rfl rfl;simp only[jCj,jnj];unfold Qs;rw[jTj (by unfold Qh;omega)];by_cases d:j=(evs.length:Int)+1
  ·rw[jTj d,jTj d,jFj (kne f (by decide))];unfold acc;rw[gi0];by_cases e:t<r.tick
   ·rw[jTj e,jTj (g0 e)]
   rw[jFj e,jFj (g0n e)];have m:okT r t:=okt e g;(iterate 11 rw[jFj (dne f (by decide))])
   rw[jTj f,Za i hc l m,jBj];rw[Gd l,jBj,VE (by omega),jBj];refine Xq fun q=>?_;rw[Zd,jBj,QdF _ (by have:=i.lenM;omega) (by have:=i.lenM;omega),jBj,Zd,jBj,VE (by omega)];rfl
  ·rw[jFj d,jFj d]
 | .trip,_,hg=>by
  have f:=hg.kind;dsimp only[kw] at f;obtain⟨t,rfl,rfl,g⟩:=hg.d01 rfl rfl;simp only[jCj,jnj];unfold Qs;rw[jTj (by unfold Qh;omega)];by_cases d:j=(evs.length:Int)+1
  ·rw[jTj d,jTj d,jFj (kne f (by decide))];unfold acc;rw[gi0];by_cases e:t<r.tick
   ·rw[jTj e,jTj (g0 e)]
   rw[jFj e,jFj (g0n e)];have m:okT r t:=okt e g;(iterate 12 rw[jFj (dne f (by decide))])
   rw[jTj f,Za i hc l m,jBj];rw[Gd l,jBj,VE (by omega),jBj];refine Xq fun q=>?_;rw[Zd];rfl
  ·rw[jFj d,jFj d]
 | .reset,_,hg=>by
  have f:=hg.kind;dsimp only[kw] at f;obtain⟨t,rfl,rfl,g⟩:=hg.d01 rfl rfl;simp only[jCj,jnj];unfold Qs;rw[jTj (by unfold Qh;omega)];by_cases d:j=(evs.length:Int)+1
  ·rw[jTj d,jTj d,jFj (kne f (by decide))];unfold acc;rw[gi0];by_cases e:t<r.tick
   ·rw[jTj e,jTj (g0 e)]
   rw[jFj e,jFj (g0n e)];have m:okT r t:=okt e g;(iterate 13 rw[jFj (dne f (by decide))])
   rw[jTj f,Za i hc l m,jBj];rw[Gd l,jBj,VE (by omega),jBj];refine Xq fun q=>?_;rw[Zd];rfl
  ·rw[jFj d,jFj d]
 | .offer,_,hg=>by
  have f:=hg.kind;dsimp only[kw] at f;obtain⟨a,t,o,A,C,E,rfl,rfl,g⟩:=hg.d15 rfl rfl;simp only[jCj,jnj];unfold Qs;rw[jTj (by unfold Qh;omega)];by_cases d:j=(evs.length:Int)+1
  ·rw[jTj d,jTj d,jFj (kne f (by decide))];unfold acc;rw[gi0];by_cases e:t<r.tick
   ·rw[jTj e,jTj (g0 e)]
   rw[jFj e,jFj (g0n e)];have m:okT r t:=okt e g;(iterate 14 rw[jFj (dne f (by decide))])
   rw[jTj f,Za i hc l m,jBj];rw[Qc8 l r.offers (by have:=i.lenO;omega) a,jBj,VE (by omega),jBj];refine Xq fun q=>?_;have S:WL n j kind [Sd a] [I t,I o,I A,I C,I E] y=some (o,A,ws [t,o,A,C,E]):=by
    unfold WL;rw[gi1,gi2,gi0];unfold ws;by_cases h:o<t
    ·rw[jTj h,jTj (show[t,o,A,C,E].getD 1 0<[t,o,A,C,E].getD 0 0 from h)];rfl
    ·rw[jFj h,jFj (show ¬[t,o,A,C,E].getD 1 0<[t,o,A,C,E].getD 0 0 from h),Zd];rfl
   rw[S,jBj,gi3,V2,jBj,gi4,V2,jBj,Zd,jBj,QaK (by omega),QaE];rfl
  ·rw[jFj d,jFj d]
 | .deliver,_,hg=>by
  have f:=hg.kind;dsimp only[kw] at f;obtain⟨a,t,o,rfl,rfl,g⟩:=hg.d12 rfl rfl;simp only[jCj,jnj];unfold Qs;rw[jTj (by unfold Qh;omega)];by_cases d:j=(evs.length:Int)+1
  ·rw[jTj d,jTj d,jFj (kne f (by decide))];unfold acc;rw[gi0];by_cases e:t<r.tick
   ·rw[jTj e,jTj (g0 e)]
   rw[jFj e,jFj (g0n e)];have m:okT r t:=okt e g;(iterate 15 rw[jFj (dne f (by decide))])
   rw[jTj f,Za i hc l m,jBj];rw[Qbo l r.offers (by have:=i.lenO;omega) a,jBj,VE (by omega),jBj];refine Xq fun q=>?_;have v:=ZW (qK q);obtain⟨s,x,u⟩:=JV v;have G:=i.offs _ (jgj u);have p:=uS s x;rw[gs0,EC _ (by have:=i.lenO;omega) (by have:=i.lenO;omega),jBj,Wb _ _ (by rw[Vq];have:=i.lenO;omega) (by rw[Vq];have:=i.lenO;omega),jBj,jTj p,s];rw[gi1,Q4 unO u,jBj,Zd,jBj];have Q:∀w:Int,((Qm n (o==0) 3).bind fun L=>(Zg n (oAt r.offers a).1 (oAt r.offers a).2.1 (oAt r.offers a).2.2.1 (oAt r.offers a).2.2.2.1 (oAt r.offers a).2.2.2.2.1 (oAt r.offers a).2.2.2.2.2.1 (oAt r.offers a).2.2.2.2.2.2).bind fun M =>
     (Qm n (decide (o>M)) 20).bind fun N=>(Qo n ([I (QF (oAt r.offers a).2.2.2.2.2.2 23),I w,I L,I N])).bind fun H =>
     if H=0 then(if Qh (o*1000000) then(Q8 n t evs F r.tick r.level r.filled r.tripped r.light r.heat r.money (r.sectors.map Sd) (r.mirrors.map QY) (r.offers.map Zj)).bind fun O=>(Qm n (decide ((o*1000000)>O.2)) 16).bind fun P=>some P else none) else some H) =
     some (if Qt [QF (oAt r.offers a).2.2.2.2.2.2 23,w,QF (o==0) 3,QF (decide (o>Ws (oAt r.offers a))) 20]=0 then QF (decide (o*1000000>r.heat+ZL r t)) 16 else Qt [QF (oAt r.offers a).2.2.2.2.2.2 23,w,QF (o==0) 3,QF (decide (o>Ws (oAt r.offers a))) 20]):=by
    intro w;rw[Zd,jBj,Qag n G,jBj,Zd,jBj,QaK (by omega),jBj];by_cases K:Qt [QF (oAt r.offers a).2.2.2.2.2.2 23,w,QF (o==0) 3,QF (decide (o>Ws (oAt r.offers a))) 20]=0
    ·have U:=hg.val o (by simp);rw[jTj K,jTj K,jTj (by unfold Qh;omega),Z7 i hc l m,jBj,Zd,jBj]
    ·rw[jFj K,jFj K]
   unfold spec;simp only[List.getD_cons_zero,List.getD_cons_succ];by_cases J:t<(oAt r.offers a).2.1
   ·rw[jTj J];simp only[jTj J];exact Q 14
   ·rw[jFj J,Zd,jBj];simp only[jFj J];exact Q _
  ·rw[jFj d,jFj d]
 | .bill,_,hg=>by
  have f:=hg.kind;dsimp only[kw] at f;obtain⟨a,t,rfl,rfl,g⟩:=hg.d11 rfl rfl;simp only[jCj,jnj];unfold Qs;rw[jTj (by unfold Qh;omega)];by_cases d:j=(evs.length:Int)+1
  ·rw[jTj d,jTj d,jFj (kne f (by decide))];unfold acc;rw[gi0];by_cases e:t<r.tick
   ·rw[jTj e,jTj (g0 e)]
   rw[jFj e,jFj (g0n e)];have m:okT r t:=okt e g;(iterate 16 rw[jFj (dne f (by decide))])
   rw[jTj f,Za i hc l m,jBj];rw[Qbo l r.offers (by have:=i.lenO;omega) a,jBj,VE (by omega),jBj];refine Xq fun q=>?_;have v:=ZW (qK q);obtain⟨s,x,u⟩:=JV v;have G:=i.offs _ (jgj u);have p:=uS s x;rw[gs0,EC _ (by have:=i.lenO;omega) (by have:=i.lenO;omega),jBj,Wb _ _ (by rw[Vq];have:=i.lenO;omega) (by rw[Vq];have:=i.lenO;omega),jBj,jTj p,s,Q4 unO u,jBj];rw[Zd,jBj,Zd,jBj,VE (by omega)];rfl
  ·rw[jFj d,jFj d]
 | .undo,h,_=>absurd rfl h
def X7 (a:List Ev):Int:=match a.getLast? with
 | none=>12
 | some e=>if e.2.1.data.toList=kw .deliver\/e.2.1.data.toList=kw .bill then 21 else 0
theorem uc {n:Nat}(r:Reg){c:Int}{kind d:jSj}{names:List jSj}{f:List Int}{evs:jVj}(s:evs.length<=5000)(a:List Ev)(o:a.length<=5000)
  (p:Good (c,kind,names,f,d) .undo):Qs n c kind (names.map Sd) (f.map I) d evs (a.map Zr) r.tick r.level r.filled r.tripped r.light r.heat r.money (r.sectors.map Sd) (r.mirrors.map QY) (r.offers.map Zj)=some (if c=(evs.length:Int)+1 then X7 a else 11):=by
 have l:=p.kind;dsimp only at l;unfold Qs;rw[jTj (by unfold Qh;omega)];by_cases b:c=(evs.length:Int)+1
 ·rw[jTj b,jTj b,jTj (keq l rfl)];unfold X7;cases hl:a.getLast? with
  | none =>
   rw[List.getLast?_eq_none_iff.1 hl];rfl
  | some e =>
   have j:a≠[]:=fun h=>by rw[h] at hl;cases hl
   have m:=List.length_pos_iff.2 j;rw[List.getLast?_eq_getElem?] at hl;have q:(((a.map Zr).length:Int) - 1)=((a.length - 1:Nat):Int):=by rw[jlj];omega
   rw[jFj (by rw[jlj];omega),q,jTj (by unfold Qh;omega),jTj (by rw[jlj];omega),jtj,Ub,List.getElem?_map,hl];show(if(e.2.1.toList==(⟨#[100,101,108,105,118,101,114]⟩:jSj).toList)=true then(Un n).bind (fun k=>some k) else(Qm n (e.2.1.toList==(⟨#[98,105,108,108]⟩:jSj).toList) 21).bind fun k=>some k)=some (if e.2.1.data.toList=kw .deliver\/e.2.1.data.toList=kw .bill then 21 else 0);by_cases g:e.2.1.data.toList=kw .deliver
   ·rw[jTj (keq g rfl),jTj (.inl g)];rfl
   ·rw[jFj (fun h=>g (by rw[kq] at h;exact h)),Zd,jBj];by_cases i:e.2.1.data.toList=kw .bill
    ·rw[jTj (.inr i)];unfold QF;rw[jTj (keq i rfl)]
    ·rw[jFj (by rintro(h|h);exact g h;exact i h)];unfold QF;rw[jFj (fun h=>i (by rw[kq] at h;exact h))]
 ·rw[jFj b,jFj b]
def bkd (r:Reg)(t:Int):Reg:={ r with tick:=t,light:=r.light+ZL r t,heat:=r.heat+ZL r t }
def chgM (r:Reg)(a:jSj)(m:Mir):Reg:={ r with mirrors:=r.mirrors.set (iM r.mirrors a) m }
def chgO (r:Reg)(a:jSj)(o:Off):Reg:={ r with offers:=r.offers.set (iO r.offers a) o }
def X8 (m:Mir)(v:Int):Mir:=(m.1,m.2.1,m.2.2.1,v,m.2.2.2.2.1,m.2.2.2.2.2)
def zU (m:Mir)(b:Bool):Mir:=(m.1,m.2.1,m.2.2.1,m.2.2.2.1,b,m.2.2.2.2.2)
def aimM (m:Mir):Mir:=(m.1,m.2.1,m.2.2.1,m.2.2.2.1,m.2.2.2.2.1,true)
def yO (o:Off)(v:Int):Off:=(o.1,o.2.1,o.2.2.1,o.2.2.2.1,o.2.2.2.2.1,o.2.2.2.2.2.1+v,o.2.2.2.2.2.2)
def GV (o:Off):Off:=(o.1,o.2.1,o.2.2.1,o.2.2.2.1,o.2.2.2.2.1,o.2.2.2.2.2.1,true)
def act (k:Ki)(q:Reg)(ns:List jSj)(vs:List Int):Reg:=match k with
 | .sector=>{ q with sectors:=q.sectors++[ns.getD 0 ⟨#[]⟩] }
 | .mirror=>{ q with mirrors:=q.mirrors++[(ns.getD 0 ⟨#[]⟩,ns.getD 1 ⟨#[]⟩,vs.getD 1 0,0,false,false)] }
 | .soil=>chgM q (ns.getD 0 ⟨#[]⟩) (X8 (mAt q.mirrors (ns.getD 0 ⟨#[]⟩)) (vs.getD 1 0))
 | .clean=>chgM q (ns.getD 0 ⟨#[]⟩) (X8 (mAt q.mirrors (ns.getD 0 ⟨#[]⟩)) 0)
 | .defect=>chgM q (ns.getD 0 ⟨#[]⟩) (zU (mAt q.mirrors (ns.getD 0 ⟨#[]⟩)) true)
 | .repair=>chgM q (ns.getD 0 ⟨#[]⟩) (zU (mAt q.mirrors (ns.getD 0 ⟨#[]⟩)) false)
 | .aim=>chgM q (ns.getD 0 ⟨#[]⟩) (aimM (mAt q.mirrors (ns.getD 0 ⟨#[]⟩)))
 | .park=>chgM q (ns.getD 0 ⟨#[]⟩) (Ka (mAt q.mirrors (ns.getD 0 ⟨#[]⟩)))
 | .dim=>{ q with mirrors:=q.mirrors.map (EN (ns.getD 0 ⟨#[]⟩)) }
 | .sun=>{ q with level:=vs.getD 1 0 }
 | .fill=>{ q with filled:=true }
 | .drain=>{ q with filled:=false }
 | .trip=>{ q with tripped:=true,mirrors:=q.mirrors.map Ka }
 | .reset=>{ q with tripped:=false }
 | .offer=>{ q with offers:=q.offers++[(ns.getD 0 ⟨#[]⟩,vs.getD 1 0,vs.getD 2 0,vs.getD 3 0,vs.getD 4 0,0,false)] }
 | .deliver=>{ chgO q (ns.getD 0 ⟨#[]⟩) (yO (oAt q.offers (ns.getD 0 ⟨#[]⟩)) (vs.getD 1 0)) with heat:=q.heat - 1000000*vs.getD 1 0 }
 | .bill=>{ chgO q (ns.getD 0 ⟨#[]⟩) (GV (oAt q.offers (ns.getD 0 ⟨#[]⟩))) with money:=q.money+U5 (oAt q.offers (ns.getD 0 ⟨#[]⟩)) }
 | .undo=>q
def app (k:Ki)(r:Reg)(ns:List jSj)(vs:List Int):Reg:=act k (bkd r (vs.getD 0 0)) ns vs
abbrev X1:=Int×Int×Bool×Bool×Int×Int×Int×jVj×jVj×jVj
def Vb (r:Reg):X1:=(r.tick,r.level,r.filled,r.tripped,r.light,r.heat,r.money,r.sectors.map Sd,r.mirrors.map QY,r.offers.map Zj)
theorem Qtk {s:List Off}{i:Nat}{y:Off}:List.set (s.map Zj) i (Zj y)=(s.set i y).map Zj:=by rw[List.map_set]
theorem QS {k:Ki}{r:Reg}{ns:List jSj}{vs:List Int}(h:acc k r ns vs=0):¬vs.getD 0 0<r.tick/\Zk r (vs.getD 0 0)=0/\known k r ns=0/\spec k r ns vs=0:=by
 unfold acc at h;by_cases a:vs.getD 0 0<r.tick
 ·rw[jTj a] at h;cases h
 ·rw[jFj a] at h;exact⟨a,Zv h _ (by simp),Zv h _ (by simp),Zv h _ (by simp)⟩
theorem EO {r:Reg}{a:jSj}{t b:Int}(h:spec .deliver r [a] [t,b]=0):(oAt r.offers a).2.2.2.2.2.2=false/\b≠0/\b<=Ws (oAt r.offers a)/\b*1000000<=r.heat+ZL r t:=by
 have h:(if Qt [QF (oAt r.offers a).2.2.2.2.2.2 23,(if t<(oAt r.offers a).2.1 then 14 else QF (decide (t>=(oAt r.offers a).2.2.1)) 14),QF (b==0) 3,QF (decide (b>Ws (oAt r.offers a))) 20]=0 then QF (decide (b*1000000>r.heat+ZL r t)) 16 else Qt [QF (oAt r.offers a).2.2.2.2.2.2 23,(if t<(oAt r.offers a).2.1 then 14 else QF (decide (t>=(oAt r.offers a).2.2.1)) 14),QF (b==0) 3,QF (decide (b>Ws (oAt r.offers a))) 20])=0:=h;by_cases c:Qt [QF (oAt r.offers a).2.2.2.2.2.2 23,(if t<(oAt r.offers a).2.1 then 14 else QF (decide (t>=(oAt r.offers a).2.2.1)) 14),QF (b==0) 3,QF (decide (b>Ws (oAt r.offers a))) 20]=0
 ·rw[jTj c] at h;have a1:=YT (e:=23) (by decide) (Zv c (QF (oAt r.offers a).2.2.2.2.2.2 23) (by simp));have a2:=YT (e:=3) (by decide) (Zv c (QF (b==0) 3) (by simp));have a3:=YT (e:=20) (by decide) (Zv c (QF (decide (b>Ws (oAt r.offers a))) 20) (by simp));have a4:=YT (e:=16) (by decide) h;have d:=of_decide_eq_false a3;have f:=of_decide_eq_false a4;refine⟨a1,by simpa using a2,by omega,by omega⟩
 ·rw[jFj c] at h;exact absurd h c
theorem QcN {n c:Nat}(v:1700<=n){r:Reg}(g:Inv c r)(hc:c<=992){G:Int}{kind F:jSj}{names:List jSj}{C:List Int} :
  ∀{k:Ki},k≠.undo->Good (G,kind,names,C,F) k->acc k r names C=0->Qz n G kind (names.map Sd) (C.map I) F r.tick r.level r.filled r.tripped r.light r.heat r.money (r.sectors.map Sd) (r.mirrors.map QY) (r.offers.map Zj)=some (Vb (app k r names C))
 | .sector,_,hg,ha=>by have f:=hg.kind;dsimp only[kw] at f;obtain⟨a,t,rfl,rfl,e⟩:=hg.d11 rfl rfl;obtain⟨d,p,j,m⟩:=QS ha;have o:okT r t:=okt d e;simp only[jCj,jnj];refine Eq.trans ?_ (show some (rtM r t ((r.sectors++[a]).map Sd) (r.mirrors.map QY) (r.offers.map Zj))=some (Vb (app .sector r [a] [t])) from rfl);unfold Qz;rw[gi0,Wc g hc v o,jBj];rw[jTj f];rw[gs0,jTj (rmS g),List.map_append];rfl
 | .mirror,_,hg,ha=>by
  have f:=hg.kind;dsimp only[kw] at f;obtain⟨a,b,t,u,rfl,rfl,e⟩:=hg.d22 rfl rfl;obtain⟨d,p,j,m⟩:=QS ha;have o:okT r t:=okt d e;simp only[jCj,jnj];refine Eq.trans ?_ (show some (rtM r t (r.sectors.map Sd) ((r.mirrors++[((a,b,u,0,false,false):Mir)]).map QY) (r.offers.map Zj))=some (Vb (app .mirror r [a,b] [t,u])) from rfl);unfold Qz;rw[gi0,Wc g hc v o,jBj];(iterate 1 rw[jFj (dne f (by decide))])
  rw[jTj f];rw[gs0,gs1,gi1,jTj (rmM g (by omega)),List.map_append];rfl
 | .soil,_,hg,ha=>by
  have f:=hg.kind;dsimp only[kw] at f;obtain⟨a,t,u,rfl,rfl,e⟩:=hg.d12 rfl rfl;obtain⟨d,p,j,m⟩:=QS ha;have o:okT r t:=okt d e;simp only[jCj,jnj];refine Eq.trans ?_ (show some (rtM r t (r.sectors.map Sd) ((r.mirrors.set (iM r.mirrors a) (X8 (mAt r.mirrors a) u)).map QY) (r.offers.map Zj))=some (Vb (app .soil r [a] [t,u])) from rfl);unfold Qz;rw[gi0,Wc g hc v o,jBj];(iterate 2 rw[jFj (dne f (by decide))])
  rw[jTj f];have A:Zu (nmM r.mirrors) a=true:=ZW j;obtain⟨s,z,y⟩:=WP A;have q:=Jl s z;rw[gs0,XN _ (by have:=g.lenM;omega) (by have:=g.lenM;omega),jBj,Wb _ _ (by rw[Zo];have:=g.lenM;omega) (by rw[Zo];have:=g.lenM;omega),jBj,jTj q,s];rw[gi1];rw[Q4 unM y,jBj,<-WH,jtj];rfl
 | .clean,_,hg,ha=>by
  have f:=hg.kind;dsimp only[kw] at f;obtain⟨a,t,rfl,rfl,e⟩:=hg.d11 rfl rfl;obtain⟨d,p,j,m⟩:=QS ha;have o:okT r t:=okt d e;simp only[jCj,jnj];refine Eq.trans ?_ (show some (rtM r t (r.sectors.map Sd) ((r.mirrors.set (iM r.mirrors a) (X8 (mAt r.mirrors a) 0)).map QY) (r.offers.map Zj))=some (Vb (app .clean r [a] [t])) from rfl);unfold Qz;rw[gi0,Wc g hc v o,jBj];(iterate 3 rw[jFj (dne f (by decide))])
  rw[jTj f];have A:Zu (nmM r.mirrors) a=true:=ZW j;obtain⟨s,z,y⟩:=WP A;have q:=Jl s z;rw[gs0,XN _ (by have:=g.lenM;omega) (by have:=g.lenM;omega),jBj,Wb _ _ (by rw[Zo];have:=g.lenM;omega) (by rw[Zo];have:=g.lenM;omega),jBj,jTj q,s];rw[Q4 unM y,jBj,<-WH,jtj];rfl
 | .defect,_,hg,ha=>by
  have f:=hg.kind;dsimp only[kw] at f;obtain⟨a,t,rfl,rfl,e⟩:=hg.d11 rfl rfl;obtain⟨d,p,j,m⟩:=QS ha;have o:okT r t:=okt d e;simp only[jCj,jnj];refine Eq.trans ?_ (show some (rtM r t (r.sectors.map Sd) ((r.mirrors.set (iM r.mirrors a) (zU (mAt r.mirrors a) true)).map QY) (r.offers.map Zj))=some (Vb (app .defect r [a] [t])) from rfl);unfold Qz;rw[gi0,Wc g hc v o,jBj];(iterate 4 rw[jFj (dne f (by decide))])
  rw[jTj f];have A:Zu (nmM r.mirrors) a=true:=ZW j;obtain⟨s,z,y⟩:=WP A;have q:=Jl s z;rw[gs0,XN _ (by have:=g.lenM;omega) (by have:=g.lenM;omega),jBj,Wb _ _ (by rw[Zo];have:=g.lenM;omega) (by rw[Zo];have:=g.lenM;omega),jBj,jTj q,s];rw[Q4 unM y,jBj,<-WH,jtj];rfl
 | .repair,_,hg,ha=>by
  have f:=hg.kind;dsimp only[kw] at f;obtain⟨a,t,rfl,rfl,e⟩:=hg.d11 rfl rfl;obtain⟨d,p,j,m⟩:=QS ha;have o:okT r t:=okt d e;simp only[jCj,jnj];refine Eq.trans ?_ (show some (rtM r t (r.sectors.map Sd) ((r.mirrors.set (iM r.mirrors a) (zU (mAt r.mirrors a) false)).map QY) (r.offers.map Zj))=some (Vb (app .repair r [a] [t])) from rfl);unfold Qz;rw[gi0,Wc g hc v o,jBj];(iterate 5 rw[jFj (dne f (by decide))])
  rw[jTj f];have A:Zu (nmM r.mirrors) a=true:=ZW j;obtain⟨s,z,y⟩:=WP A;have q:=Jl s z;rw[gs0,XN _ (by have:=g.lenM;omega) (by have:=g.lenM;omega),jBj,Wb _ _ (by rw[Zo];have:=g.lenM;omega) (by rw[Zo];have:=g.lenM;omega),jBj,jTj q,s];rw[Q4 unM y,jBj,<-WH,jtj];rfl
 | .aim,_,hg,ha=>by
  have f:=hg.kind;dsimp only[kw] at f;obtain⟨a,t,rfl,rfl,e⟩:=hg.d11 rfl rfl;obtain⟨d,p,j,m⟩:=QS ha;have o:okT r t:=okt d e;simp only[jCj,jnj];refine Eq.trans ?_ (show some (rtM r t (r.sectors.map Sd) ((r.mirrors.set (iM r.mirrors a) (aimM (mAt r.mirrors a))).map QY) (r.offers.map Zj))=some (Vb (app .aim r [a] [t])) from rfl);unfold Qz;rw[gi0,Wc g hc v o,jBj];(iterate 6 rw[jFj (dne f (by decide))])
  rw[jTj f];have A:Zu (nmM r.mirrors) a=true:=ZW j;obtain⟨s,z,y⟩:=WP A;have q:=Jl s z;rw[gs0,XN _ (by have:=g.lenM;omega) (by have:=g.lenM;omega),jBj,Wb _ _ (by rw[Zo];have:=g.lenM;omega) (by rw[Zo];have:=g.lenM;omega),jBj,jTj q,s];rw[Q4 unM y,jBj,<-WH,jtj];rfl
 | .park,_,hg,ha=>by
  have f:=hg.kind;dsimp only[kw] at f;obtain⟨a,t,rfl,rfl,e⟩:=hg.d11 rfl rfl;obtain⟨d,p,j,m⟩:=QS ha;have o:okT r t:=okt d e;simp only[jCj,jnj];refine Eq.trans ?_ (show some (rtM r t (r.sectors.map Sd) ((r.mirrors.set (iM r.mirrors a) (Ka (mAt r.mirrors a))).map QY) (r.offers.map Zj))=some (Vb (app .park r [a] [t])) from rfl);unfold Qz;rw[gi0,Wc g hc v o,jBj];(iterate 7 rw[jFj (dne f (by decide))])
  rw[jTj f];have A:Zu (nmM r.mirrors) a=true:=ZW j;obtain⟨s,z,y⟩:=WP A;have q:=Jl s z;rw[gs0,XN _ (by have:=g.lenM;omega) (by have:=g.lenM;omega),jBj,Wb _ _ (by rw[Zo];have:=g.lenM;omega) (by rw[Zo];have:=g.lenM;omega),jBj,jTj q,s];rw[Q4 unM y,jBj,<-WH,jtj];rfl
 | .dim,_,hg,ha=>by
  have f:=hg.kind;dsimp only[kw] at f;obtain⟨a,t,rfl,rfl,e⟩:=hg.d11 rfl rfl;obtain⟨d,p,j,m⟩:=QS ha;have o:okT r t:=okt d e;simp only[jCj,jnj];refine Eq.trans ?_ (show some (rtM r t (r.sectors.map Sd) ((r.mirrors.map (EN a)).map QY) (r.offers.map Zj))=some (Vb (app .dim r [a] [t])) from rfl);unfold Qz;rw[gi0,Wc g hc v o,jBj];(iterate 8 rw[jFj (dne f (by decide))])
  rw[jTj f];rw[QdO _ (by have:=g.lenM;omega) (by have:=g.lenM;omega),jBj]
 | .sun,_,hg,ha=>by
  have f:=hg.kind;dsimp only[kw] at f;obtain⟨t,u,rfl,rfl,e⟩:=hg.d02 rfl rfl;obtain⟨d,p,j,m⟩:=QS ha;have o:okT r t:=okt d e;simp only[jCj,jnj];refine Eq.trans ?_ (show some ((t,u,r.filled,r.tripped,r.light+ZL r t,r.heat+ZL r t,r.money,r.sectors.map Sd,r.mirrors.map QY,r.offers.map Zj):X1)=some (Vb (app .sun r [] [t,u])) from rfl);unfold Qz;rw[gi0,Wc g hc v o,jBj];(iterate 9 rw[jFj (dne f (by decide))])
  rw[jTj f];rw[gi1]
 | .fill,_,hg,ha=>by
  have f:=hg.kind;dsimp only[kw] at f;obtain⟨t,rfl,rfl,e⟩:=hg.d01 rfl rfl;obtain⟨d,p,j,m⟩:=QS ha;have o:okT r t:=okt d e;simp only[jCj,jnj];refine Eq.trans ?_ (show some ((t,r.level,true,r.tripped,r.light+ZL r t,r.heat+ZL r t,r.money,r.sectors.map Sd,r.mirrors.map QY,r.offers.map Zj):X1)=some (Vb (app .fill r [] [t])) from rfl);unfold Qz;rw[gi0,Wc g hc v o,jBj];(iterate 10 rw[jFj (dne f (by decide))])
  rw[jTj f]
 | .drain,_,hg,ha=>by
  have f:=hg.kind;dsimp only[kw] at f;obtain⟨t,rfl,rfl,e⟩:=hg.d01 rfl rfl;obtain⟨d,p,j,m⟩:=QS ha;have o:okT r t:=okt d e;simp only[jCj,jnj];refine Eq.trans ?_ (show some ((t,r.level,false,r.tripped,r.light+ZL r t,r.heat+ZL r t,r.money,r.sectors.map Sd,r.mirrors.map QY,r.offers.map Zj):X1)=some (Vb (app .drain r [] [t])) from rfl);unfold Qz;rw[gi0,Wc g hc v o,jBj];(iterate 11 rw[jFj (dne f (by decide))])
  rw[jTj f]
 | .trip,_,hg,ha=>by
  have f:=hg.kind;dsimp only[kw] at f;obtain⟨t,rfl,rfl,e⟩:=hg.d01 rfl rfl;obtain⟨d,p,j,m⟩:=QS ha;have o:okT r t:=okt d e;simp only[jCj,jnj];refine Eq.trans ?_ (show some ((t,r.level,r.filled,true,r.light+ZL r t,r.heat+ZL r t,r.money,r.sectors.map Sd,(r.mirrors.map Ka).map QY,r.offers.map Zj):X1)=some (Vb (app .trip r [] [t])) from rfl);unfold Qz;rw[gi0,Wc g hc v o,jBj];(iterate 12 rw[jFj (dne f (by decide))])
  rw[jTj f];rw[QdN _ (by have:=g.lenM;omega) (by have:=g.lenM;omega),jBj]
 | .reset,_,hg,ha=>by
  have f:=hg.kind;dsimp only[kw] at f;obtain⟨t,rfl,rfl,e⟩:=hg.d01 rfl rfl;obtain⟨d,p,j,m⟩:=QS ha;have o:okT r t:=okt d e;simp only[jCj,jnj];refine Eq.trans ?_ (show some ((t,r.level,r.filled,false,r.light+ZL r t,r.heat+ZL r t,r.money,r.sectors.map Sd,r.mirrors.map QY,r.offers.map Zj):X1)=some (Vb (app .reset r [] [t])) from rfl);unfold Qz;rw[gi0,Wc g hc v o,jBj];(iterate 13 rw[jFj (dne f (by decide))])
  rw[jTj f]
 | .offer,_,hg,ha=>by
  have f:=hg.kind;dsimp only[kw] at f;obtain⟨a,t,u,J,O,P,rfl,rfl,e⟩:=hg.d15 rfl rfl;obtain⟨d,p,j,m⟩:=QS ha;have o:okT r t:=okt d e;simp only[jCj,jnj];refine Eq.trans ?_ (show some (rtM r t (r.sectors.map Sd) (r.mirrors.map QY) ((r.offers++[((a,u,J,O,P,0,false):Off)]).map Zj))=some (Vb (app .offer r [a] [t,u,J,O,P])) from rfl);unfold Qz;rw[gi0,Wc g hc v o,jBj];(iterate 14 rw[jFj (dne f (by decide))])
  rw[jTj f];have N:∃w,WL n G kind [Sd a] [I t,I u,I J,I O,I P] F=some (u,J,w):=by
   unfold WL;rw[gi1,gi2,gi0];by_cases h:u<t
   ·rw[jTj h];exact⟨14,rfl⟩
   ·rw[jFj h,Zd];exact⟨_,rfl⟩
  obtain⟨w,N⟩:=N;rw[N,jBj,gs0,gi3,gi4,jTj (rmO g (by omega)),List.map_append];rfl
 | .deliver,_,hg,ha=>by
  have f:=hg.kind;dsimp only[kw] at f;obtain⟨a,t,u,rfl,rfl,e⟩:=hg.d12 rfl rfl;obtain⟨d,p,j,m⟩:=QS ha;have o:okT r t:=okt d e;simp only[jCj,jnj];refine Eq.trans ?_ (show some ((t,r.level,r.filled,r.tripped,r.light+ZL r t,r.heat+ZL r t - 1000000*u,r.money,r.sectors.map Sd,r.mirrors.map QY,(r.offers.set (iO r.offers a) (yO (oAt r.offers a) u)).map Zj):X1)=some (Vb (app .deliver r [a] [t,u])) from rfl);unfold Qz;rw[gi0,Wc g hc v o,jBj];(iterate 15 rw[jFj (dne f (by decide))])
  rw[jTj f];have A:Zu (nmO r.offers) a=true:=ZW j;obtain⟨s,z,y⟩:=JV A;have E:=g.offs _ (jgj y);have q:=uS s z;rw[gs0,Qbh _ (by have:=g.lenO;omega) (by have:=g.lenO;omega),jBj,Wb _ _ (by rw[Vq];have:=g.lenO;omega) (by rw[Vq];have:=g.lenO;omega),jBj,jTj q,s];have S:=EO m;have Q:=YF E;have X:=hg.val u (by simp);have U:=K4 g hc o;have V:=g.heat;have L:=S.2.2.1;have T:=E.2.2;unfold Ws at L;rw[Q4 unO y,jBj,gi1,jTj (by unfold Qh;have:=E.1;omega),jTj (by unfold Qh;omega),jTj (by unfold Qh;omega),<-Qtk,jtj];rfl
 | .bill,_,hg,ha=>by
  have f:=hg.kind;dsimp only[kw] at f;obtain⟨a,t,rfl,rfl,e⟩:=hg.d11 rfl rfl;obtain⟨d,p,j,m⟩:=QS ha;have o:okT r t:=okt d e;simp only[jCj,jnj];refine Eq.trans ?_ (show some ((t,r.level,r.filled,r.tripped,r.light+ZL r t,r.heat+ZL r t,r.money+U5 (oAt r.offers a),r.sectors.map Sd,r.mirrors.map QY,(r.offers.set (iO r.offers a) (GV (oAt r.offers a))).map Zj):X1)=some (Vb (app .bill r [a] [t])) from rfl);unfold Qz;rw[gi0,Wc g hc v o,jBj];(iterate 16 rw[jFj (dne f (by decide))])
  rw[jTj f];have A:Zu (nmO r.offers) a=true:=ZW j;obtain⟨s,z,y⟩:=JV A;have E:=g.offs _ (jgj y);have q:=uS s z;rw[gs0,Qbh _ (by have:=g.lenO;omega) (by have:=g.lenO;omega),jBj,Wb _ _ (by rw[Vq];have:=g.lenO;omega) (by rw[Vq];have:=g.lenO;omega),jBj,jTj q,s];have Q:=(YF E).2.2.2;have W:=g.money;have M:(nth (List.set (r.offers.map Zj) (Int.toNat (iO r.offers a:Int)) (Zj (GV (oAt r.offers a))):jVj) (Int.toNat (iO r.offers a:Int))).bind Z6=some (GV (oAt r.offers a)):=by rw[jtj,Qtk];have:=Q4 (i:=iO r.offers a) (l:=r.offers.set (iO r.offers a) (GV (oAt r.offers a))) (x:=GV (oAt r.offers a)) unO (by rw[List.getElem?_set_self z]);rwa [jtj] at this
  have H:okO (GV (oAt r.offers a)):=E;have K:U5 (GV (oAt r.offers a))=U5 (oAt r.offers a):=rfl;rw[Q4 unO y,jBj];refine Eq.trans (congrArg (fun x:Option Off=>x.bind _) M) ?_;rw[jBj,Qbp n H,jBj,K,jTj (by unfold Qh;omega),<-Qtk,jtj];rfl
 | .undo,h,_,_=>absurd rfl h
theorem Qb1 {n c:Nat}(v:1700<=n){r:Reg}(g:Inv c r)(hc:c<=992){G:Int}{kind F:jSj}{names:List jSj}{C:List Int}{evs K:jVj} :
  ∀{k:Ki},k≠.undo->Good (G,kind,names,C,F) k->acc k r names C=0->Qy n G kind (names.map Sd) (C.map I) F evs K r.tick r.level r.filled r.tripped r.light r.heat r.money (r.sectors.map Sd) (r.mirrors.map QY) (r.offers.map Zj)=some (Vb (app k r names C))
 | .sector,_,hg,ha=>by have f:=hg.kind;dsimp only[kw] at f;obtain⟨a,t,rfl,rfl,e⟩:=hg.d11 rfl rfl;obtain⟨d,p,j,m⟩:=QS ha;have o:okT r t:=okt d e;simp only[jCj,jnj];refine Eq.trans ?_ (show some (rtM r t ((r.sectors++[a]).map Sd) (r.mirrors.map QY) (r.offers.map Zj))=some (Vb (app .sector r [a] [t])) from rfl);unfold Qy;rw[gi0,Z7 g hc v o,jBj];rw[jTj f];rw[gs0,jTj (rmS g),List.map_append];rfl
 | .mirror,_,hg,ha=>by
  have f:=hg.kind;dsimp only[kw] at f;obtain⟨a,b,t,u,rfl,rfl,e⟩:=hg.d22 rfl rfl;obtain⟨d,p,j,m⟩:=QS ha;have o:okT r t:=okt d e;simp only[jCj,jnj];refine Eq.trans ?_ (show some (rtM r t (r.sectors.map Sd) ((r.mirrors++[((a,b,u,0,false,false):Mir)]).map QY) (r.offers.map Zj))=some (Vb (app .mirror r [a,b] [t,u])) from rfl);unfold Qy;rw[gi0,Z7 g hc v o,jBj];(iterate 1 rw[jFj (dne f (by decide))])
  rw[jTj f];rw[gs0,gs1,gi1,jTj (rmM g (by omega)),List.map_append];rfl
 | .soil,_,hg,ha=>by
  have f:=hg.kind;dsimp only[kw] at f;obtain⟨a,t,u,rfl,rfl,e⟩:=hg.d12 rfl rfl;obtain⟨d,p,j,m⟩:=QS ha;have o:okT r t:=okt d e;simp only[jCj,jnj];refine Eq.trans ?_ (show some (rtM r t (r.sectors.map Sd) ((r.mirrors.set (iM r.mirrors a) (X8 (mAt r.mirrors a) u)).map QY) (r.offers.map Zj))=some (Vb (app .soil r [a] [t,u])) from rfl);unfold Qy;rw[gi0,Z7 g hc v o,jBj];(iterate 2 rw[jFj (dne f (by decide))])
  rw[jTj f];have A:Zu (nmM r.mirrors) a=true:=ZW j;obtain⟨s,z,y⟩:=WP A;have q:=Jl s z;rw[gs0,UC _ (by have:=g.lenM;omega) (by have:=g.lenM;omega),jBj,Wb _ _ (by rw[Zo];have:=g.lenM;omega) (by rw[Zo];have:=g.lenM;omega),jBj,jTj q,s];rw[gi1];rw[Q4 unM y,jBj,<-WH,jtj];rfl
 | .clean,_,hg,ha=>by
  have f:=hg.kind;dsimp only[kw] at f;obtain⟨a,t,rfl,rfl,e⟩:=hg.d11 rfl rfl;obtain⟨d,p,j,m⟩:=QS ha;have o:okT r t:=okt d e;simp only[jCj,jnj];refine Eq.trans ?_ (show some (rtM r t (r.sectors.map Sd) ((r.mirrors.set (iM r.mirrors a) (X8 (mAt r.mirrors a) 0)).map QY) (r.offers.map Zj))=some (Vb (app .clean r [a] [t])) from rfl);unfold Qy;rw[gi0,Z7 g hc v o,jBj];(iterate 3 rw[jFj (dne f (by decide))])
  rw[jTj f];have A:Zu (nmM r.mirrors) a=true:=ZW j;obtain⟨s,z,y⟩:=WP A;have q:=Jl s z;rw[gs0,UC _ (by have:=g.lenM;omega) (by have:=g.lenM;omega),jBj,Wb _ _ (by rw[Zo];have:=g.lenM;omega) (by rw[Zo];have:=g.lenM;omega),jBj,jTj q,s];rw[Q4 unM y,jBj,<-WH,jtj];rfl
 | .defect,_,hg,ha=>by
  have f:=hg.kind;dsimp only[kw] at f;obtain⟨a,t,rfl,rfl,e⟩:=hg.d11 rfl rfl;obtain⟨d,p,j,m⟩:=QS ha;have o:okT r t:=okt d e;simp only[jCj,jnj];refine Eq.trans ?_ (show some (rtM r t (r.sectors.map Sd) ((r.mirrors.set (iM r.mirrors a) (zU (mAt r.mirrors a) true)).map QY) (r.offers.map Zj))=some (Vb (app .defect r [a] [t])) from rfl);unfold Qy;rw[gi0,Z7 g hc v o,jBj];(iterate 4 rw[jFj (dne f (by decide))])
  rw[jTj f];have A:Zu (nmM r.mirrors) a=true:=ZW j;obtain⟨s,z,y⟩:=WP A;have q:=Jl s z;rw[gs0,UC _ (by have:=g.lenM;omega) (by have:=g.lenM;omega),jBj,Wb _ _ (by rw[Zo];have:=g.lenM;omega) (by rw[Zo];have:=g.lenM;omega),jBj,jTj q,s];rw[Q4 unM y,jBj,<-WH,jtj];rfl
 | .repair,_,hg,ha=>by
  have f:=hg.kind;dsimp only[kw] at f;obtain⟨a,t,rfl,rfl,e⟩:=hg.d11 rfl rfl;obtain⟨d,p,j,m⟩:=QS ha;have o:okT r t:=okt d e;simp only[jCj,jnj];refine Eq.trans ?_ (show some (rtM r t (r.sectors.map Sd) ((r.mirrors.set (iM r.mirrors a) (zU (mAt r.mirrors a) false)).map QY) (r.offers.map Zj))=some (Vb (app .repair r [a] [t])) from rfl);unfold Qy;rw[gi0,Z7 g hc v o,jBj];(iterate 5 rw[jFj (dne f (by decide))])
  rw[jTj f];have A:Zu (nmM r.mirrors) a=true:=ZW j;obtain⟨s,z,y⟩:=WP A;have q:=Jl s z;rw[gs0,UC _ (by have:=g.lenM;omega) (by have:=g.lenM;omega),jBj,Wb _ _ (by rw[Zo];have:=g.lenM;omega) (by rw[Zo];have:=g.lenM;omega),jBj,jTj q,s];rw[Q4 unM y,jBj,<-WH,jtj];rfl
 | .aim,_,hg,ha=>by
  have f:=hg.kind;dsimp only[kw] at f;obtain⟨a,t,rfl,rfl,e⟩:=hg.d11 rfl rfl;obtain⟨d,p,j,m⟩:=QS ha;have o:okT r t:=okt d e;simp only[jCj,jnj];refine Eq.trans ?_ (show some (rtM r t (r.sectors.map Sd) ((r.mirrors.set (iM r.mirrors a) (aimM (mAt r.mirrors a))).map QY) (r.offers.map Zj))=some (Vb (app .aim r [a] [t])) from rfl);unfold Qy;rw[gi0,Z7 g hc v o,jBj];(iterate 6 rw[jFj (dne f (by decide))])
  rw[jTj f];have A:Zu (nmM r.mirrors) a=true:=ZW j;obtain⟨s,z,y⟩:=WP A;have q:=Jl s z;rw[gs0,UC _ (by have:=g.lenM;omega) (by have:=g.lenM;omega),jBj,Wb _ _ (by rw[Zo];have:=g.lenM;omega) (by rw[Zo];have:=g.lenM;omega),jBj,jTj q,s];rw[Q4 unM y,jBj,<-WH,jtj];rfl
 | .park,_,hg,ha=>by
  have f:=hg.kind;dsimp only[kw] at f;obtain⟨a,t,rfl,rfl,e⟩:=hg.d11 rfl rfl;obtain⟨d,p,j,m⟩:=QS ha;have o:okT r t:=okt d e;simp only[jCj,jnj];refine Eq.trans ?_ (show some (rtM r t (r.sectors.map Sd) ((r.mirrors.set (iM r.mirrors a) (Ka (mAt r.mirrors a))).map QY) (r.offers.map Zj))=some (Vb (app .park r [a] [t])) from rfl);unfold Qy;rw[gi0,Z7 g hc v o,jBj];(iterate 7 rw[jFj (dne f (by decide))])
  rw[jTj f];have A:Zu (nmM r.mirrors) a=true:=ZW j;obtain⟨s,z,y⟩:=WP A;have q:=Jl s z;rw[gs0,UC _ (by have:=g.lenM;omega) (by have:=g.lenM;omega),jBj,Wb _ _ (by rw[Zo];have:=g.lenM;omega) (by rw[Zo];have:=g.lenM;omega),jBj,jTj q,s];rw[Q4 unM y,jBj,<-WH,jtj];rfl
 | .dim,_,hg,ha=>by
  have f:=hg.kind;dsimp only[kw] at f;obtain⟨a,t,rfl,rfl,e⟩:=hg.d11 rfl rfl;obtain⟨d,p,j,m⟩:=QS ha;have o:okT r t:=okt d e;simp only[jCj,jnj];refine Eq.trans ?_ (show some (rtM r t (r.sectors.map Sd) ((r.mirrors.map (EN a)).map QY) (r.offers.map Zj))=some (Vb (app .dim r [a] [t])) from rfl);unfold Qy;rw[gi0,Z7 g hc v o,jBj];(iterate 8 rw[jFj (dne f (by decide))])
  rw[jTj f];rw[Qdr _ (by have:=g.lenM;omega) (by have:=g.lenM;omega),jBj]
 | .sun,_,hg,ha=>by
  have f:=hg.kind;dsimp only[kw] at f;obtain⟨t,u,rfl,rfl,e⟩:=hg.d02 rfl rfl;obtain⟨d,p,j,m⟩:=QS ha;have o:okT r t:=okt d e;simp only[jCj,jnj];refine Eq.trans ?_ (show some ((t,u,r.filled,r.tripped,r.light+ZL r t,r.heat+ZL r t,r.money,r.sectors.map Sd,r.mirrors.map QY,r.offers.map Zj):X1)=some (Vb (app .sun r [] [t,u])) from rfl);unfold Qy;rw[gi0,Z7 g hc v o,jBj];(iterate 9 rw[jFj (dne f (by decide))])
  rw[jTj f];rw[gi1]
 | .fill,_,hg,ha=>by
  have f:=hg.kind;dsimp only[kw] at f;obtain⟨t,rfl,rfl,e⟩:=hg.d01 rfl rfl;obtain⟨d,p,j,m⟩:=QS ha;have o:okT r t:=okt d e;simp only[jCj,jnj];refine Eq.trans ?_ (show some ((t,r.level,true,r.tripped,r.light+ZL r t,r.heat+ZL r t,r.money,r.sectors.map Sd,r.mirrors.map QY,r.offers.map Zj):X1)=some (Vb (app .fill r [] [t])) from rfl);unfold Qy;rw[gi0,Z7 g hc v o,jBj];(iterate 10 rw[jFj (dne f (by decide))])
  rw[jTj f]
 | .drain,_,hg,ha=>by
  have f:=hg.kind;dsimp only[kw] at f;obtain⟨t,rfl,rfl,e⟩:=hg.d01 rfl rfl;obtain⟨d,p,j,m⟩:=QS ha;have o:okT r t:=okt d e;simp only[jCj,jnj];refine Eq.trans ?_ (show some ((t,r.level,false,r.tripped,r.light+ZL r t,r.heat+ZL r t,r.money,r.sectors.map Sd,r.mirrors.map QY,r.offers.map Zj):X1)=some (Vb (app .drain r [] [t])) from rfl);unfold Qy;rw[gi0,Z7 g hc v o,jBj];(iterate 11 rw[jFj (dne f (by decide))])
  rw[jTj f]
 | .trip,_,hg,ha=>by
  have f:=hg.kind;dsimp only[kw] at f;obtain⟨t,rfl,rfl,e⟩:=hg.d01 rfl rfl;obtain⟨d,p,j,m⟩:=QS ha;have o:okT r t:=okt d e;simp only[jCj,jnj];refine Eq.trans ?_ (show some ((t,r.level,r.filled,true,r.light+ZL r t,r.heat+ZL r t,r.money,r.sectors.map Sd,(r.mirrors.map Ka).map QY,r.offers.map Zj):X1)=some (Vb (app .trip r [] [t])) from rfl);unfold Qy;rw[gi0,Z7 g hc v o,jBj];(iterate 12 rw[jFj (dne f (by decide))])
  rw[jTj f];rw[Qdq _ (by have:=g.lenM;omega) (by have:=g.lenM;omega),jBj]
 | .reset,_,hg,ha=>by
  have f:=hg.kind;dsimp only[kw] at f;obtain⟨t,rfl,rfl,e⟩:=hg.d01 rfl rfl;obtain⟨d,p,j,m⟩:=QS ha;have o:okT r t:=okt d e;simp only[jCj,jnj];refine Eq.trans ?_ (show some ((t,r.level,r.filled,false,r.light+ZL r t,r.heat+ZL r t,r.money,r.sectors.map Sd,r.mirrors.map QY,r.offers.map Zj):X1)=some (Vb (app .reset r [] [t])) from rfl);unfold Qy;rw[gi0,Z7 g hc v o,jBj];(iterate 13 rw[jFj (dne f (by decide))])
  rw[jTj f]
 | .offer,_,hg,ha=>by
  have f:=hg.kind;dsimp only[kw] at f;obtain⟨a,t,u,J,P,Q,rfl,rfl,e⟩:=hg.d15 rfl rfl;obtain⟨d,p,j,m⟩:=QS ha;have o:okT r t:=okt d e;simp only[jCj,jnj];refine Eq.trans ?_ (show some (rtM r t (r.sectors.map Sd) (r.mirrors.map QY) ((r.offers++[((a,u,J,P,Q,0,false):Off)]).map Zj))=some (Vb (app .offer r [a] [t,u,J,P,Q])) from rfl);unfold Qy;rw[gi0,Z7 g hc v o,jBj];(iterate 14 rw[jFj (dne f (by decide))])
  rw[jTj f];have O:∃w,WL n G kind [Sd a] [I t,I u,I J,I P,I Q] F=some (u,J,w):=by
   unfold WL;rw[gi1,gi2,gi0];by_cases h:u<t
   ·rw[jTj h];exact⟨14,rfl⟩
   ·rw[jFj h,Zd];exact⟨_,rfl⟩
  obtain⟨w,O⟩:=O;rw[O,jBj,gs0,gi3,gi4,jTj (rmO g (by omega)),List.map_append];rfl
 | .deliver,_,hg,ha=>by
  have f:=hg.kind;dsimp only[kw] at f;obtain⟨a,t,u,rfl,rfl,e⟩:=hg.d12 rfl rfl;obtain⟨d,p,j,m⟩:=QS ha;have o:okT r t:=okt d e;simp only[jCj,jnj];refine Eq.trans ?_ (show some ((t,r.level,r.filled,r.tripped,r.light+ZL r t,r.heat+ZL r t - 1000000*u,r.money,r.sectors.map Sd,r.mirrors.map QY,(r.offers.set (iO r.offers a) (yO (oAt r.offers a) u)).map Zj):X1)=some (Vb (app .deliver r [a] [t,u])) from rfl);unfold Qy;rw[gi0,Z7 g hc v o,jBj];(iterate 15 rw[jFj (dne f (by decide))])
  rw[jTj f];have A:Zu (nmO r.offers) a=true:=ZW j;obtain⟨s,z,y⟩:=JV A;have E:=g.offs _ (jgj y);have q:=uS s z;rw[gs0,EC _ (by have:=g.lenO;omega) (by have:=g.lenO;omega),jBj,Wb _ _ (by rw[Vq];have:=g.lenO;omega) (by rw[Vq];have:=g.lenO;omega),jBj,jTj q,s];have T:=EO m;have S:=YF E;have Y:=hg.val u (by simp);have V:=K4 g hc o;have W:=g.heat;have M:=T.2.2.1;have U:=E.2.2;unfold Ws at M;rw[Q4 unO y,jBj,gi1,jTj (by unfold Qh;have:=E.1;omega),jTj (by unfold Qh;omega),jTj (by unfold Qh;omega),<-Qtk,jtj];rfl
 | .bill,_,hg,ha=>by
  have f:=hg.kind;dsimp only[kw] at f;obtain⟨a,t,rfl,rfl,e⟩:=hg.d11 rfl rfl;obtain⟨d,p,j,m⟩:=QS ha;have o:okT r t:=okt d e;simp only[jCj,jnj];refine Eq.trans ?_ (show some ((t,r.level,r.filled,r.tripped,r.light+ZL r t,r.heat+ZL r t,r.money+U5 (oAt r.offers a),r.sectors.map Sd,r.mirrors.map QY,(r.offers.set (iO r.offers a) (GV (oAt r.offers a))).map Zj):X1)=some (Vb (app .bill r [a] [t])) from rfl);unfold Qy;rw[gi0,Z7 g hc v o,jBj];(iterate 16 rw[jFj (dne f (by decide))])
  rw[jTj f];have A:Zu (nmO r.offers) a=true:=ZW j;obtain⟨s,z,y⟩:=JV A;have E:=g.offs _ (jgj y);have q:=uS s z;rw[gs0,EC _ (by have:=g.lenO;omega) (by have:=g.lenO;omega),jBj,Wb _ _ (by rw[Vq];have:=g.lenO;omega) (by rw[Vq];have:=g.lenO;omega),jBj,jTj q,s];have S:=(YF E).2.2.2;have X:=g.money;have N:(nth (List.set (r.offers.map Zj) (Int.toNat (iO r.offers a:Int)) (Zj (GV (oAt r.offers a))):jVj) (Int.toNat (iO r.offers a:Int))).bind Z6=some (GV (oAt r.offers a)):=by rw[jtj,Qtk];have:=Q4 (i:=iO r.offers a) (l:=r.offers.set (iO r.offers a) (GV (oAt r.offers a))) (x:=GV (oAt r.offers a)) unO (by rw[List.getElem?_set_self z]);rwa [jtj] at this
  have H:okO (GV (oAt r.offers a)):=E;have L:U5 (GV (oAt r.offers a))=U5 (oAt r.offers a):=rfl;rw[Q4 unO y,jBj];refine Eq.trans (congrArg (fun x:Option Off=>x.bind _) N) ?_;rw[jBj,Qbp n H,jBj,L,jTj (by unfold Qh;omega),<-Qtk,jtj];rfl
 | .undo,h,_,_=>absurd rfl h
def Vc (r:Reg)(e:Int):Int×Int×Bool×Bool×Int×Int×Int×jVj×jVj×jVj×Int:=(r.tick,r.level,r.filled,r.tripped,r.light,r.heat,r.money,r.sectors.map Sd,r.mirrors.map QY,r.offers.map Zj,e)
theorem QaH {x b a:Int}(c:b<=x)(d:x<=a):inR x b a=0:=YC.2 ⟨c,d⟩
theorem QN {a:Int}(l:List Int)(h:a=0):Qt (a::l)=Qt l:=by unfold Qt;rw[jTj h];cases l<;>rfl
theorem QT {a:Int}(l:List Int)(h:a≠0):Qt (a::l)=a:=by unfold Qt;rw[jFj h]
theorem Wz {x:Int}:Qt [x]=x:=by
 simp only[Qt];split
 ·rename_i h;exact h.symm
 ·rfl
theorem W2 {c d:Nat}(h:c<=d){r:Reg}(a:Inv c r):Inv d r :=
 ⟨a.tick,a.level,a.light,a.heat,by have:=a.money;omega,a.secs,by have:=a.lenM;omega,by have:=a.lenO;omega,a.mirs,a.offs⟩
theorem VC {c:Nat}{r:Reg}(a:Inv c r)(hc:c<=992){t:Int}(f:okT r t)(d:Zk r t=0):Inv c (bkd r t):=by
 have l:=(K4 a hc f).2;have i:=a.light;have j:=a.heat;have k:=a.tick;have b : r.light+ZL r t<=1000000000000000/\r.heat+ZL r t<=1000000000000000:=by
  unfold Zk at d;split at d
  ·rename_i h;exact h
  ·cases d
 obtain⟨g,e⟩:=f;exact⟨⟨show 0<=t by omega,e⟩,a.level,⟨show 0<=r.light+ZL r t by omega,b.1⟩,⟨show 0<=r.heat+ZL r t by omega,b.2⟩,a.money,a.secs,a.lenM,a.lenO,a.mirs,a.offs⟩
theorem Ge {c:Nat}{q:Reg}(b:Inv c q)(a:jSj){m:Mir}(d:okM m):Inv c (chgM q a m) :=
 ⟨b.tick,b.level,b.light,b.heat,b.money,b.secs,by show(q.mirrors.set _ _).length<=min c 32;rw[List.length_set];exact b.lenM,b.lenO,fun x e=>by
  obtain h|h:=List.mem_or_eq_of_mem_set e
  ·exact b.mirs x h
  ·rw[h];exact d,b.offs⟩
theorem uP {c:Nat}{q:Reg}(b:Inv c q)(a:jSj){o:Off}(d:okO o):Inv c (chgO q a o) :=
 ⟨b.tick,b.level,b.light,b.heat,b.money,b.secs,b.lenM,by show(q.offers.set _ _).length<=min c 32;rw[List.length_set];exact b.lenO,b.mirs,fun x e=>by
  obtain h|h:=List.mem_or_eq_of_mem_set e
  ·exact b.offs x h
  ·rw[h];exact d⟩
theorem uQ {c:Nat}{q:Reg}(a:Inv c q)(f:Mir->Mir)(b:∀m,okM m->okM (f m)):Inv c { q with mirrors:=q.mirrors.map f } :=
 ⟨a.tick,a.level,a.light,a.heat,a.money,a.secs,by show(q.mirrors.map f).length<=min c 32;rw[jlj];exact a.lenM,a.lenO,fun x d=>by obtain⟨y,e,rfl⟩:=List.mem_map.1 d;exact b y (a.mirs y e),a.offs⟩
theorem QdC (s:jSj)(m:Mir)(h:okM m):okM (EN s m):=by
 unfold EN;split
 ·exact h
 ·exact h
theorem Qc9 {c:Nat}{r:Reg}(p:Inv c r)(hc:c<=990){F:Int}{kind C:jSj}{names:List jSj}{x:List Int} :
  ∀{k:Ki},k≠.undo->Good (F,kind,names,x,C) k->acc k r names x=0->Inv (c+1) (app k r names x)
 | .sector,_,hg,ha=>by
  obtain⟨a,t,rfl,rfl,i⟩:=hg.d11 rfl rfl;obtain⟨g,f,l,j⟩:=QS ha;have n:okT r t:=okt g i;have d:=W2 (Nat.le_succ c) (VC p (by omega) n f);have L:=YT (e:=5) (b:=((r.sectors.length:Int)==8)) (by decide) j;have M : ¬(r.sectors.length:Int)=8:=by simpa using L
  have q:=p.secs;exact⟨d.tick,d.level,d.light,d.heat,d.money,by show(r.sectors++[a]).length<=8;simp;omega,d.lenM,d.lenO,d.mirs,d.offs⟩
 | .mirror,_,hg,ha=>by
  obtain⟨a,b,t,v,rfl,rfl,i⟩:=hg.d22 rfl rfl;obtain⟨g,f,l,j⟩:=QS ha;have n:okT r t:=okt g i;have d:=W2 (Nat.le_succ c) (VC p (by omega) n f);have H:=YC.1 (Zv j (inR v 1 100) (by simp));have y:=YT (e:=5) (b:=((r.mirrors.length:Int)==32)) (by decide) (Zv j (QF ((r.mirrors.length:Int)==32) 5) (by simp));have A : ¬(r.mirrors.length:Int)=32:=by simpa using y
  have P:=p.lenM;refine⟨d.tick,d.level,d.light,d.heat,d.money,d.secs,by show(r.mirrors++[_]).length<=min (c+1) 32;rw[jaj,List.length_singleton];omega,d.lenO,fun m u=>?_,d.offs⟩;obtain h|h:=List.mem_append.1 u
  ·exact p.mirs m h
  ·rw[List.mem_singleton.1 h];exact⟨H,⟨Int.le_refl 0,show(0:Int)<=1000 by decide⟩⟩
 | .soil,_,hg,ha=>by obtain⟨a,t,v,rfl,rfl,i⟩:=hg.d12 rfl rfl;obtain⟨g,f,l,j⟩:=QS ha;have n:okT r t:=okt g i;have d:=W2 (Nat.le_succ c) (VC p (by omega) n f);have s:Zu (nmM r.mirrors) a=true:=ZW l;have u:=p.mirs _ (jgj (WP s).2.2);exact Ge d a (m:=X8 (mAt r.mirrors a) v) ⟨u.1,YC.1 j⟩
 | .clean,_,hg,ha=>by obtain⟨a,t,rfl,rfl,i⟩:=hg.d11 rfl rfl;obtain⟨g,f,l,j⟩:=QS ha;have n:okT r t:=okt g i;have d:=W2 (Nat.le_succ c) (VC p (by omega) n f);have s:Zu (nmM r.mirrors) a=true:=ZW l;have u:=p.mirs _ (jgj (WP s).2.2);exact Ge d a (m:=X8 (mAt r.mirrors a) 0) ⟨u.1,⟨Int.le_refl 0,show(0:Int)<=1000 by decide⟩⟩
 | .defect,_,hg,ha=>by obtain⟨a,t,rfl,rfl,i⟩:=hg.d11 rfl rfl;obtain⟨g,f,l,j⟩:=QS ha;have n:okT r t:=okt g i;have d:=W2 (Nat.le_succ c) (VC p (by omega) n f);have s:Zu (nmM r.mirrors) a=true:=ZW l;have u:=p.mirs _ (jgj (WP s).2.2);exact Ge d a (m:=zU (mAt r.mirrors a) true) u
 | .repair,_,hg,ha=>by obtain⟨a,t,rfl,rfl,i⟩:=hg.d11 rfl rfl;obtain⟨g,f,l,j⟩:=QS ha;have n:okT r t:=okt g i;have d:=W2 (Nat.le_succ c) (VC p (by omega) n f);have s:Zu (nmM r.mirrors) a=true:=ZW l;have u:=p.mirs _ (jgj (WP s).2.2);exact Ge d a (m:=zU (mAt r.mirrors a) false) u
 | .aim,_,hg,ha=>by obtain⟨a,t,rfl,rfl,i⟩:=hg.d11 rfl rfl;obtain⟨g,f,l,j⟩:=QS ha;have n:okT r t:=okt g i;have d:=W2 (Nat.le_succ c) (VC p (by omega) n f);have s:Zu (nmM r.mirrors) a=true:=ZW l;have u:=p.mirs _ (jgj (WP s).2.2);exact Ge d a (m:=aimM (mAt r.mirrors a)) u
 | .park,_,hg,ha=>by obtain⟨a,t,rfl,rfl,i⟩:=hg.d11 rfl rfl;obtain⟨g,f,l,j⟩:=QS ha;have n:okT r t:=okt g i;have d:=W2 (Nat.le_succ c) (VC p (by omega) n f);have s:Zu (nmM r.mirrors) a=true:=ZW l;have u:=p.mirs _ (jgj (WP s).2.2);exact Ge d a (m:=Ka (mAt r.mirrors a)) u
 | .dim,_,hg,ha=>by obtain⟨a,t,rfl,rfl,i⟩:=hg.d11 rfl rfl;obtain⟨g,f,l,j⟩:=QS ha;have n:okT r t:=okt g i;have d:=W2 (Nat.le_succ c) (VC p (by omega) n f);exact uQ d (EN a) (QdC a)
 | .sun,_,hg,ha=>by obtain⟨t,v,rfl,rfl,i⟩:=hg.d02 rfl rfl;obtain⟨g,f,l,j⟩:=QS ha;have n:okT r t:=okt g i;have d:=W2 (Nat.le_succ c) (VC p (by omega) n f);exact⟨d.tick,YC.1 j,d.light,d.heat,d.money,d.secs,d.lenM,d.lenO,d.mirs,d.offs⟩
 | .fill,_,hg,ha=>by obtain⟨t,rfl,rfl,i⟩:=hg.d01 rfl rfl;obtain⟨g,f,l,j⟩:=QS ha;have n:okT r t:=okt g i;have d:=W2 (Nat.le_succ c) (VC p (by omega) n f);exact⟨d.tick,d.level,d.light,d.heat,d.money,d.secs,d.lenM,d.lenO,d.mirs,d.offs⟩
 | .drain,_,hg,ha=>by obtain⟨t,rfl,rfl,i⟩:=hg.d01 rfl rfl;obtain⟨g,f,l,j⟩:=QS ha;have n:okT r t:=okt g i;have d:=W2 (Nat.le_succ c) (VC p (by omega) n f);exact⟨d.tick,d.level,d.light,d.heat,d.money,d.secs,d.lenM,d.lenO,d.mirs,d.offs⟩
 | .trip,_,hg,ha=>by obtain⟨t,rfl,rfl,i⟩:=hg.d01 rfl rfl;obtain⟨g,f,l,j⟩:=QS ha;have n:okT r t:=okt g i;have d:=W2 (Nat.le_succ c) (VC p (by omega) n f);have:=uQ d Ka (fun m h=>h);exact⟨this.tick,this.level,this.light,this.heat,this.money,this.secs,this.lenM,this.lenO,this.mirs,this.offs⟩
 | .reset,_,hg,ha=>by obtain⟨t,rfl,rfl,i⟩:=hg.d01 rfl rfl;obtain⟨g,f,l,j⟩:=QS ha;have n:okT r t:=okt g i;have d:=W2 (Nat.le_succ c) (VC p (by omega) n f);exact⟨d.tick,d.level,d.light,d.heat,d.money,d.secs,d.lenM,d.lenO,d.mirs,d.offs⟩
 | .offer,_,hg,ha=>by
  obtain⟨a,t,v,X,G,T,rfl,rfl,i⟩:=hg.d15 rfl rfl;obtain⟨g,f,l,j⟩:=QS ha;have n:okT r t:=okt g i;have d:=W2 (Nat.le_succ c) (VC p (by omega) n f);have J:=YC.1 (Zv j (inR G 1 1000) (by simp));have K:=YC.1 (Zv j (inR T 0 1000) (by simp));have y:=YT (e:=5) (b:=((r.offers.length:Int)==32)) (by decide) (Zv j (QF ((r.offers.length:Int)==32) 5) (by simp));have A : ¬(r.offers.length:Int)=32:=by simpa using y
  have P:=p.lenO;refine⟨d.tick,d.level,d.light,d.heat,d.money,d.secs,d.lenM,by show(r.offers++[_]).length<=min (c+1) 32;rw[jaj,List.length_singleton];omega,d.mirs,fun o z=>?_⟩;obtain h|h:=List.mem_append.1 z
  ·exact p.offs o h
  ·rw[List.mem_singleton.1 h];exact⟨J,K,⟨Int.le_refl 0,show(0:Int)<=G by omega⟩⟩
 | .deliver,_,hg,ha=>by obtain⟨a,t,v,rfl,rfl,i⟩:=hg.d12 rfl rfl;obtain⟨g,f,l,j⟩:=QS ha;have n:okT r t:=okt g i;have d:=W2 (Nat.le_succ c) (VC p (by omega) n f);have s:Zu (nmO r.offers) a=true:=ZW l;have z:=p.offs _ (jgj (JV s).2.2);have N:=EO j;have V:=hg.val v (by simp);have E:=N.2.2.1;unfold Ws at E;obtain⟨Q,S,W⟩:=z;have q:=uP d a (o:=yO (oAt r.offers a) v) ⟨Q,S,⟨show 0<=(oAt r.offers a).2.2.2.2.2.1+v by omega,show(oAt r.offers a).2.2.2.2.2.1+v<=(oAt r.offers a).2.2.2.1 by omega⟩⟩;have s:=d.heat;have O:0<=r.heat+ZL r t/\r.heat+ZL r t<=1000000000000000:=s;exact⟨q.tick,q.level,q.light,⟨show 0<=r.heat+ZL r t - 1000000*v by omega,show r.heat+ZL r t - 1000000*v<=1000000000000000 by omega⟩,q.money,q.secs,q.lenM,q.lenO,q.mirs,q.offs⟩
 | .bill,_,hg,ha=>by obtain⟨a,t,rfl,rfl,i⟩:=hg.d11 rfl rfl;obtain⟨g,f,l,j⟩:=QS ha;have n:okT r t:=okt g i;have d:=W2 (Nat.le_succ c) (VC p (by omega) n f);have s:Zu (nmO r.offers) a=true:=ZW l;have z:=p.offs _ (jgj (JV s).2.2);have q:=uP d a (o:=GV (oAt r.offers a)) z;have U:=(YF z).2.2.2;have u:=p.money;exact⟨q.tick,q.level,q.light,q.heat,⟨show -(2000000*((c+1:Nat):Int))<=r.money+U5 (oAt r.offers a) by omega,show r.money+U5 (oAt r.offers a)<=2000000*((c+1:Nat):Int) by omega⟩,q.secs,q.lenM,q.lenO,q.mirs,q.offs⟩
 | .undo,h,_,_=>absurd rfl h
theorem Qcz:Inv 0 Reg.zero:=⟨by decide,by decide,by decide,by decide,by decide,by decide,jLj _,jLj _,fun m a=>(List.not_mem_nil a).elim,fun o b=>(List.not_mem_nil b).elim⟩
def kdE (e:Ev):Option Ki:=yJ e.2.1.data.toList
def appE (r:Reg)(e:Ev):Reg:=match kdE e with
 | some k=>app k r e.2.2.1 e.2.2.2.1
 | none=>r
def X0 (r:Reg)(e:Ev):Int:=match kdE e with
 | some k=>acc k r e.2.2.1 e.2.2.2.1
 | none=>0
def QD (l:List Ev):Reg:=l.foldl appE Reg.zero
theorem GA (l:List Ev)(e:Ev):QD (l++[e])=appE (QD l) e:=by unfold QD;rw[List.foldl_append];rfl
theorem yI {e:Ev}{k:Ki}(h:Good e k):kdE e=some k:=by unfold kdE;rw[h.kind,E7]
theorem XR {e:Ev}{k:Ki}(h:Good e k)(r:Reg):appE r e=app k r e.2.2.1 e.2.2.2.1:=by unfold appE;rw[yI h]
theorem Gq {e:Ev}{k:Ki}(h:Good e k)(r:Reg):X0 r e=acc k r e.2.2.1 e.2.2.2.1:=by unfold X0;rw[yI h]
def OkL (l:List Ev):Prop:=∀(i:Nat) (e:Ev),l[i]?=some e->∃k,k≠.undo/\Good e k/\acc k (QD (l.take i)) e.2.2.1 e.2.2.2.1=0
theorem Jx:OkL []:=fun i e h=>by simp at h
theorem uH {l:List Ev}(h:OkL l)(j:Nat):OkL (l.take j):=fun i e a=>by
 rw[List.getElem?_take] at a;split at a
 ·rename_i f;obtain⟨k,b,c,d⟩:=h i e a;refine⟨k,b,c,?_⟩;rw[List.take_take,Nat.min_eq_left (by omega)];exact d
 ·cases a
theorem Qcm {l:List Ev}(h:OkL l){e:Ev}{k:Ki}(j:k≠.undo)(f:Good e k)(d:acc k (QD l) e.2.2.1 e.2.2.2.1=0):OkL (l++[e]):=fun i x a=>by
 by_cases g:i<l.length
 ·rw[List.getElem?_append_left g] at a;rw[List.take_append_of_le_length (by omega)];exact h i x a
 ·rw[List.getElem?_append_right (by omega)] at a;have b:i - l.length=0:=by
   obtain c|c:=Nat.eq_zero_or_pos (i - l.length)
   ·exact c
   ·rw[List.getElem?_eq_none (by simp;omega)] at a;cases a
  rw[b] at a;cases a;have:i=l.length:=by omega
  subst this;rw[List.take_left];exact⟨k,j,f,d⟩
theorem yw {l:List Ev}(h:OkL l)(d:l.length<=990):∀j,j<=l.length->Inv j (QD (l.take j))
 | 0,_=>by rw[List.take_zero];exact Qcz
 | j+1,hj=>by have f:=yw h d j (by omega);have e:=jej (l:=l) (i:=j) (by omega);obtain⟨k,b,a,c⟩:=h j _ e;rw[List.take_succ_eq_append_getElem (by omega),GA,XR a];exact Qc9 f (by omega) b a c
theorem GG {l:List Ev}(h:OkL l)(a:l.length<=990):Inv l.length (QD l):=by have:=yw h a l.length (jLj _);rwa [List.take_length] at this
def isU (e:Ev):Bool:=decide (kdE e=some .undo)
def YM (i:Nat)(a:List Ev)(e:Ev):Int:=if chk e=0 then(if e.1=(i:Int)+1 then(if isU e=true then X7 a else X0 (QD a) e) else 11) else chk e
def VO (a:List Ev)(e:Ev):List Ev:=if isU e=true then a.dropLast else a++[e]
def rep:Nat->List Ev->List Ev->(Int×Int)⊕List Ev
 | _,cnt,[]=>.inr cnt
 | i,cnt,e::l=>if YM i cnt e=0 then rep (i+1) (VO cnt e) l else .inl ((i:Int)+1,YM i cnt e)
theorem KY {e:Ev}{k:Ki}(h:Good e k):isU e=decide (k=.undo):=by
 unfold isU;rw[yI h];by_cases a:k=.undo
 ·simp[a]
 ·simp[a]
theorem kJ {i:Nat}{a:List Ev}{e:Ev}(h:YM i a e=0):∃k,Good e k/\e.1=(i:Int)+1/\(if isU e=true then X7 a else X0 (QD a) e)=0:=by
 unfold YM at h;by_cases hc:chk e=0
 ·rw[jTj hc] at h;obtain⟨k,c⟩:=qn hc;by_cases b:e.1=(i:Int)+1
  ·rw[jTj b] at h;exact⟨k,c,b,h⟩
  ·rw[jFj b] at h;cases h
 ·rw[jFj hc] at h;exact absurd h hc
theorem Qan {a:List Ev}(h:X7 a=0):a≠[]:=by intro e;subst e;cases h
theorem Xk {i:Nat}{a:List Ev}(f:OkL a)(hc:a.length<=i){e:Ev}(h:YM i a e=0):OkL (VO a e)/\(VO a e).length<=i+1:=by
 obtain⟨k,d,_,c⟩:=kJ h;unfold VO;by_cases b:isU e=true
 ·rw[jTj b];rw[List.dropLast_eq_take];exact⟨uH f _,by simp;omega⟩
 ·rw[jFj b] at c ⊢;rw[KY d] at b;rw[Gq d] at c;exact⟨Qcm f (by simpa using b) d c,by simp;omega⟩
theorem uF {x:D}(l:jVj):l.take ((List.replicate (Int.toNat ((l.length:Nat):Int)) (x:D)):jVj).length++(List.replicate (Int.toNat ((l.length:Nat):Int)) (x:D)).drop l.length=l:=by rw[List.length_replicate,jtj,List.take_length,List.drop_eq_nil_of_le (by rw[List.length_replicate];exact jLj _),List.append_nil]
theorem Qal {n:Nat}(j:1700<=n){a:List Ev}(i:OkL a)(hc:a.length<=990){evs:jVj}(f:evs.length<=5000){e:Ev}(g:chk e=0) :
  Qs n e.1 e.2.1 (e.2.2.1.map Sd) (e.2.2.2.1.map I) e.2.2.2.2 evs (a.map Zr) (QD a).tick (QD a).level (QD a).filled (QD a).tripped (QD a).light (QD a).heat (QD a).money ((QD a).sectors.map Sd) ((QD a).mirrors.map QY) ((QD a).offers.map Zj)=some (YM evs.length a e):=by
 obtain⟨k,c⟩:=qn g;unfold YM;rw[jTj g];by_cases d:isU e=true
 ·have b:k=.undo:=by rw[KY c] at d;exact of_decide_eq_true d
  subst b;rw[uc (QD a) f a (by omega) c,jTj d]
 ·have b:k≠.undo:=fun h=>d (by rw[KY c];exact jDj h);rw[Qa3 j (GG i hc) (by omega) f b c,jFj d,Gq c]
abbrev AddT:=jVj×jVj×Int×Int×Bool×Bool×Int×Int×Int×jVj×jVj×jVj
def outA (evs a:jVj)(r:Reg):AddT:=(evs,a,Vb r)
theorem unEs (e:Ev):(Option.map Zr (some e)).bind Ze=some (e.1,e.2.1,e.2.2.1.map Sd,e.2.2.2.1.map I,e.2.2.2.2):=rfl
theorem Qc5 {n:Nat}(L:1700<=n){E:Int}{a1:jSj}{a2 a3:jVj}{a4:jSj}{a5:jVj}{a:List Ev}{a7 F:Int}{G d:Bool}{f g h:Int}{j o p:jVj}(A:OkL a)(hc:a.length<=990)(C:a≠[]) :
  Q2 (Zm n E a1 a2 a3 a4 a5 (a.map Zr) a7 F G d f g h j o p) n (.inl ())=some (if a.dropLast=[] then .inl () else .inr (Vb (QD a.dropLast))):=by
 have b:((a.map Zr).take (Int.toNat (((a.map Zr).length:Int) - 1)))=a.dropLast.map Zr:=by
  rw[jlj,List.dropLast_eq_take,List.map_take];congr 1
  have:=List.length_pos_iff.2 C;omega
 have z:OkL a.dropLast:=by rw[List.dropLast_eq_take];exact uH A _
 have q:a.dropLast.length<=990:=by simp;omega
 generalize a.dropLast=l at b z q ⊢;have step:∀(i:Nat) (e:Ev),l[i]?=some e->Qz n e.1 e.2.1 (e.2.2.1.map Sd) (e.2.2.2.1.map I) e.2.2.2.2 (QD (l.take i)).tick (QD (l.take i)).level (QD (l.take i)).filled (QD (l.take i)).tripped (QD (l.take i)).light (QD (l.take i)).heat (QD (l.take i)).money ((QD (l.take i)).sectors.map Sd) ((QD (l.take i)).mirrors.map QY) ((QD (l.take i)).offers.map Zj)=some (Vb (QD (l.take (i+1)))):=by
  intro i e c;have v:=(jGj c).1;obtain⟨k,J,H,K⟩:=z i e c;have r:=yw z q i (by omega);rw[QcN L r (by omega) J H K];have:l.take (i+1)=l.take i++[e]:=by rw[List.take_succ_eq_append_getElem v];rw[jej v] at c;rw[Option.some.inj c]
  rw[this,GA,XR H]
 have t:∀(m i k:Nat),0<i->i+m=l.length->m<k->Q2 (Zm n E a1 a2 a3 a4 a5 (a.map Zr) a7 F G d f g h j o p) k (.inr ((i:Int),Vb (QD (l.take i))))=some (.inr (Vb (QD l))):=by
  intro m;induction m with
  | zero =>
   intro i k u v A;have:i=l.length:=by omega
   subst this;rw[List.take_length];rw[Zf (by omega)];unfold Zm;dsimp only;rw[b,jFj (by simp)]
  | succ m ih =>
   intro i k u v A;have c:=jej (l:=l) (i:=i) (by omega);rw[Wy (s':=.inr (((i+1:Nat):Int),Vb (QD (l.take (i+1))))) (by omega) ?_]
   ·exact ih (i+1) (k - 1) (by omega) (by omega) (by omega)
   ·unfold Zm;dsimp only;rw[b,jTj (ZD c),jTj ⟨Int.natCast_nonneg i,ZD c⟩,jtj,Ub,List.getElem?_map,c,unEs,jBj];refine Eq.trans (congrArg (fun x=>Option.bind x _) (step i _ c)) ?_;rw[jBj,jTj (by unfold Qh;omega)];rfl
 by_cases y:l=[]
 ·rw[jTj y];refine Zf (by omega) ?_;unfold Zm;dsimp only;rw[b,y,jFj (by decide)]
 ·rw[jFj y];have s:=List.length_pos_iff.2 y;have c:=jej (l:=l) (i:=0) s;rw[Wy (s':=.inr (((1:Nat):Int),Vb (QD (l.take 1)))) (by omega) ?_]
  ·exact t (l.length - 1) 1 (n - 1) (by omega) (by omega) (by omega)
  ·unfold Zm;dsimp only;rw[b,jTj (by simp;omega),jTj (by simp;omega),Ub,List.getElem?_map,c,unEs,jBj];have u:=step 0 _ c;rw[List.take_zero] at u;refine Eq.trans (congrArg (fun x=>Option.bind x _) u) ?_;rfl
theorem addE {n:Nat}(m:1700<=n){a:List Ev}(l:OkL a)(hc:a.length<=990){evs:jVj}(r:evs.length<=4000){e:Ev}(q:Shw n e)(h:YM evs.length a e=0) :
  WO n e.1 e.2.1 (e.2.2.1.map Sd) (e.2.2.2.1.map I) e.2.2.2.2 evs (a.map Zr) (QD a).tick (QD a).level (QD a).filled (QD a).tripped (QD a).light (QD a).heat (QD a).money ((QD a).sectors.map Sd) ((QD a).mirrors.map QY) ((QD a).offers.map Zj)=some (outA (evs++[Zr e]) ((VO a e).map Zr) (QD (VO a e))):=by
 obtain⟨k,d,o,i⟩:=kJ h;obtain⟨s,t,u⟩:=q;unfold WO;rw[jTj (by rw[jlj];omega),jTj (by rw[jlj];omega),jTj (V7 (by decide) (by omega)),uF,uF];unfold VO;by_cases f:isU e=true
 ·have b:k=.undo:=by rw[KY d] at f;exact of_decide_eq_true f
  subst b;rw[jTj f] at i;have g:=Qan i;have p:=List.length_pos_iff.2 g;have c:((a.map Zr).take (Int.toNat (((a.map Zr).length:Int) - 1)))=a.dropLast.map Zr:=by
   rw[jlj,List.dropLast_eq_take,List.map_take];congr 1
   omega
  rw[jTj (keq d.kind rfl),jTj (by rw[jlj];unfold Qh;omega),jTj (by rw[jlj];omega),Qc5 m l hc g,jBj,jTj f];by_cases j:a.dropLast=[]
  ·rw[jTj j,c,j];rfl
  ·rw[jFj j,c];rfl
 ·have b:k≠.undo:=fun h=>f (by rw[KY d];exact jDj h);rw[jFj f,Gq d] at i;rw[jFj (by rw[kq,d.kind];intro h;exact b (by have:=E7 k;rw[h] at this;exact(Option.some.inj this).symm)),jTj (V7 (by decide) (by rw[jlj];omega)),Qb1 m (GG l hc) (by omega) b d i,jBj,jFj f,GA,XR d,List.map_append];rfl
abbrev StT:=Int×Int×Bool×Bool×Int×Int×Int×jVj×jVj×jVj×jVj×jVj
def stS (evs a:jVj)(r:Reg):StT:=(r.tick,r.level,r.filled,r.tripped,r.light,r.heat,r.money,evs,a,r.sectors.map Sd,r.mirrors.map QY,r.offers.map Zj)
theorem qf {l:List Ev}{i:Nat}{e:Ev}(h:l[i]?=some e):el Ze (l.map Zr) (i:Int)=some (e.1,e.2.1,e.2.2.1.map Sd,e.2.2.2.1.map I,e.2.2.2.2):=by unfold el;rw[jTj (Int.natCast_nonneg i),jtj,Ub,List.getElem?_map,h];rfl
theorem Gg {i:Nat}{a:List Ev}{e:Ev}(h:¬chk e=0):YM i a e=chk e:=by unfold YM;rw[jFj h]
theorem ux {n:Nat}(q:1700<=n)(l:List Ev)(z:l.length<=990)(v:∀e,e∈l->Shw n e):∀(m a b:List Ev) (k:Nat),l=a++m->a≠[]->OkL b->b.length<=a.length->m.length<k ->
  (match rep a.length b m with
   | .inr c=>Q2 (QR n (l.map Zr)) k (.inr ((a.length:Int),stS (a.map Zr) (b.map Zr) (QD b)))=some (.inr (.inr (.inr (stS (l.map Zr) (c.map Zr) (QD c)))))/\OkL c/\c.length<=l.length
   | .inl (i,err)=>err≠0/\∃w,Q2 (QR n (l.map Zr)) k (.inr ((a.length:Int),stS (a.map Zr) (b.map Zr) (QD b)))=some (.inl (i,err,w)))
 | [],a,b,k,hl0,hne,hok,hc,hk=>by rw[List.append_nil] at hl0;subst hl0;unfold rep;refine⟨?_,hok,hc⟩;refine Zf (by omega) ?_;unfold QR;dsimp only;rw[jFj (by rw[jlj];omega)]
 | e::m,a,b,k,hl0,hne,hok,hc,hk=>by
  have u:l.length=a.length+(m.length+1):=by rw[hl0];simp
  have p:l[a.length]?=some e:=by rw[hl0,List.getElem?_append_right (jLj _),Nat.sub_self];rfl
  have h:=v e (jgj p);have d:(a.map Zr).length=a.length:=jlj _;unfold rep;by_cases j:chk e=0
  ·have f:=Qal q hok (by omega) (evs:=a.map Zr) (by rw[d];omega) j;rw[d] at f;by_cases g:YM a.length b e=0
   ·rw[jTj g];obtain⟨s,t⟩:=Xk hok hc g;have r:=addE q hok (by omega) (evs:=a.map Zr) (by rw[d];omega) h (by rw[d];exact g);have o:QR n (l.map Zr) (.inr ((a.length:Int),stS (a.map Zr) (b.map Zr) (QD b)))=some (.inl (.inr (((a++[e]).length:Int),stS ((a++[e]).map Zr) ((VO b e).map Zr) (QD (VO b e))))):=by unfold QR;dsimp only;rw[jTj (ZD p),qf p,jBj,V3 q e h,jBj,jTj j];refine Eq.trans (congrArg (fun x=>Option.bind x _) f) ?_;rw[jBj,jTj g];refine Eq.trans (congrArg (fun x=>Option.bind x _) r) ?_;rw[jBj,jTj (by unfold Qh;omega),List.map_append,jaj];rfl
    rw[Wy (by omega) o];have:=ux q l z v m (a++[e]) (VO b e) (k - 1) (by rw[hl0];simp) (by simp) s (by rw[jaj];exact t) (by simp at hk;omega);have y:(a++[e]).length=a.length+1:=by simp
    rw[y] at this ⊢;exact this
   ·rw[jFj g];refine⟨g,stS (a.map Zr) (b.map Zr) (QD b),?_⟩;refine Zf (by omega) ?_;unfold QR;dsimp only;rw[jTj (ZD p),qf p,jBj,V3 q e h,jBj,jTj j];refine Eq.trans (congrArg (fun x=>Option.bind x _) f) ?_;rw[jBj,jFj g,jTj (by unfold Qh;omega)];try rfl
  ·have g:¬YM a.length b e=0:=by rw[Gg j];exact j
   rw[jFj g,Gg j];refine⟨j,stS (a.map Zr) (b.map Zr) (QD b),?_⟩;refine Zf (by omega) ?_;unfold QR;dsimp only;rw[jTj (ZD p),qf p,jBj,V3 q e h,jBj,jFj j,jTj (by unfold Qh;omega)];try rfl
theorem Xg {n:Nat}(s:1700<=n)(l:List Ev)(C:l.length<=990)(E:∀e,e∈l->Shw n e) :
  (match rep 0 [] l with
   | .inr c=>Q6 n (l.map Zr)=some (0,0,l.map Zr,c.map Zr,Vb (QD c))/\OkL c/\c.length<=l.length
   | .inl (i,err)=>err≠0/\∃w,Q6 n (l.map Zr)=some (i,err,w)):=by
 have g:¬(((l.map Zr).length:Int)>1000):=by rw[jlj];omega
 cases l with
 | nil =>
  unfold rep Q6;refine⟨?_,Jx,jLj _⟩;rw[jFj g];have:Q2 (QR n (([]:List Ev).map Zr)) n (.inl ())=some (.inr (.inr (.inl ()))):=by refine Zf (by omega) ?_;unfold QR;dsimp only;rw[jFj (by decide)]
  rw[this];rfl
 | cons e m =>
  have A:(e::m)[0]?=some e:=rfl;have h:=E e jMj;have d:(0:Int)<(((e::m).map Zr).length:Int):=by simp only[jCj,List.length_cons];omega
  unfold rep;by_cases o:chk e=0
  ·have j:=Qal s Jx (by simp) (evs:=[]) (by simp) o;by_cases f:YM 0 [] e=0
   ·rw[jTj f];obtain⟨y,z⟩:=Xk Jx (jLj _) f;have t:=addE s Jx (by simp) (evs:=[]) (by simp) h f;have r:QR n ((e::m).map Zr) (.inl ())=some (.inl (.inr ((([e]:List Ev).length:Int),stS ([e].map Zr) ((VO [] e).map Zr) (QD (VO [] e))))):=by unfold QR;dsimp only;rw[jTj d,show el Ze ((e::m).map Zr) 0=_ from qf A,jBj,V3 s e h,jBj,jTj o];refine Eq.trans (congrArg (fun x=>Option.bind x _) j) ?_;rw[jBj,jTj (show YM ([]:jVj).length [] e=0 from f)];refine Eq.trans (congrArg (fun x=>Option.bind x _) t) ?_;rfl
    have a:=ux s (e::m) C E m [e] (VO [] e) (n - 1) rfl (by simp) y (by simpa using z) (by simp at C;omega);have b:=Wy (k:=n) (by omega) r;have q:([e]:List Ev).length=0+1:=rfl;rw[q] at a b;unfold Q6;rw[jFj g,b];cases hr:rep (0+1) (VO [] e) m with
    | inr c =>
     rw[hr] at a;obtain⟨u,v,F⟩:=a;refine⟨?_,v,F⟩;rw[u];rfl
    | inl p =>
     obtain⟨i,err⟩:=p;rw[hr] at a;obtain⟨u,w,v⟩:=a;refine⟨u,?_⟩;rw[v];exact⟨_,rfl⟩
   ·rw[jFj f];refine⟨f,?_⟩;unfold Q6;have:Q2 (QR n ((e::m).map Zr)) n (.inl ())=some (.inl (1,YM 0 [] e,0,0,false,false,0,0,0,[],[],[],[],[])):=by refine Zf (by omega) ?_;unfold QR;dsimp only;rw[jTj d,show el Ze ((e::m).map Zr) 0=_ from qf A,jBj,V3 s e h,jBj,jTj o];refine Eq.trans (congrArg (fun x=>Option.bind x _) j) ?_;rw[jBj,jFj (show ¬YM ([]:jVj).length [] e=0 from f)];rfl
    rw[jFj g,this];exact⟨_,rfl⟩
  ·have f:¬YM 0 [] e=0:=by rw[Gg o];exact o
   rw[jFj f,Gg o];refine⟨o,?_⟩;unfold Q6;have:Q2 (QR n ((e::m).map Zr)) n (.inl ())=some (.inr (.inl (chk e))):=by refine Zf (by omega) ?_;unfold QR;dsimp only;rw[jTj d,show el Ze ((e::m).map Zr) 0=_ from qf A,jBj,V3 s e h,jBj,jFj o]
   rw[jFj g,this];exact⟨_,rfl⟩
def z0:D:=jZj
theorem QcG {i:Nat}{a:List Ev}{e:Ev}(d:chk e=0)(b:e.1=(i:Int)+1)(c:¬isU e=true):YM i a e=X0 (QD a) e:=by unfold YM;rw[jTj d,jTj b,jFj c]
abbrev RepT:=Int×Int×Bool×Bool×Int×Int×Int×jVj×jVj×jVj×Int×Int
def outF (r:Reg)(a b:Int):RepT:=(r.tick,r.level,r.filled,r.tripped,r.light,r.heat,r.money,r.sectors.map Sd,r.mirrors.map QY,r.offers.map Zj,a,b)
def repD:(Int×Int)⊕List Ev->RepT
 | .inr c=>outF (QD c) 0 0
 | .inl p=>outF Reg.zero p.1 p.2
instance (e:Ev):Decidable (Short e):=by unfold Short;infer_instance
theorem yH {n:Nat}(j:1700<=n)(l:List Ev)(o:l.length<=990)(q:∀e,e∈l->Shw n e)(t:Int):Yh n (l.map Zr) t=some (match rep 0 [] l with
  | .inr c=>if Qt [0,inR t 0 999999999,QF (decide (t<(QD c).tick)) 22]=0 then(if Zk (QD c) t=0 then((QD c).light+ZL (QD c) t,(QD c).heat+ZL (QD c) t,0) else(0,0,4)) else(0,0,Qt [0,inR t 0 999999999,QF (decide (t<(QD c).tick)) 22])
  | .inl p=>(0,0,p.2)):=by
 have h:=Xg j l o q;unfold Yh;cases hr:rep 0 [] l with
 | inl p =>
  obtain⟨i,err⟩:=p;rw[hr] at h;obtain⟨f,w,g⟩:=h;rw[g,jBj,V2,jBj];dsimp only;rw[Zd,jBj,wX (by omega),jBj,QT _ f,jFj f]
 | inr c =>
  rw[hr] at h;obtain⟨f,g,r⟩:=h;have a:=GG g (by omega);rw[f,jBj,V2,jBj];refine Eq.trans (congrArg (fun x=>Option.bind x _) (Zd n (decide (t<(QD c).tick)) 22)) ?_;rw[jBj];dsimp only[Vb];rw[wX (by omega),jBj];by_cases d:Qt [0,inR t 0 999999999,QF (decide (t<(QD c).tick)) 22]=0
  ·rw[jTj d,jTj d];have k:okT (QD c) t:=by have a1:=YC.1 (Zv d (inR t 0 999999999) (by simp));have a2:=of_decide_eq_false (YT (e:=22) (by decide) (Zv d (QF (decide (t<(QD c).tick)) 22) (by simp)));exact⟨by omega,a1.2⟩
   rw[Za a (by omega) j k,jBj,Z7 a (by omega) j k];by_cases b:Zk (QD c) t=0
   ·rw[jTj b,jTj b];rfl
   ·rw[jFj b,jFj b];have m:Zk (QD c) t=4:=by
     unfold Zk at b ⊢;split
     ·rename_i h;rw[jTj h] at b;exact absurd rfl b
     ·rfl
    rw[m]
  ·rw[jFj d,jFj d]
theorem QeR (p:Ev->Bool):∀(l:List Ev),(l.flatMap fun x=>if p x=true then[Zr x] else[])=(l.filter p).map Zr
 | []=>rfl
 | x::l=>by
  rw[List.flatMap_cons,QeR p l];by_cases h:p x=true
  ·rw[jTj h,List.filter_cons_of_pos h];rfl
  ·rw[jFj h,List.filter_cons_of_neg h];rfl
theorem QeQ {l:List Ev}{i:Nat}{e:Ev}(h:l[i]?=some e):(nth (l.map Zr) (Int.toNat (i:Int))).bind Ze=some (e.1,e.2.1,e.2.2.1.map Sd,e.2.2.2.1.map I,e.2.2.2.2):=by rw[jtj,Ub,List.getElem?_map,h];rfl
theorem Qfu {n:Nat}(f:1700<=n)(l:List Ev)(d:l.length<=990)(g:∀e,e∈l->Shw n e):XE n (l.map Zr)=some (repD (rep 0 [] l)):=by
 have h:=Xg f l d g;unfold XE;cases hr:rep 0 [] l with
 | inl p =>
  obtain⟨i,err⟩:=p;rw[hr] at h;obtain⟨a,w,b⟩:=h;rw[b,jBj];dsimp only;rw[jFj a];rfl
 | inr c =>
  rw[hr] at h;obtain⟨a,b,j⟩:=h;rw[a,jBj,jTj rfl];rfl
def accD (i:Nat)(e:Ev):(Int×Int)⊕List Ev->Int
 | .inr c=>YM i c e
 | .inl p=>p.2
theorem Qf8 {n:Nat}(d:1700<=n)(l:List Ev)(j:l.length<=990)(k:∀e,e∈l->Shw n e)(e:Ev)(g:Shw n e):Qfe n (l.map Zr) e.1 e.2.1 (e.2.2.1.map Sd) (e.2.2.2.1.map I) e.2.2.2.2=some (accD l.length e (rep 0 [] l)):=by
 have h:=Xg d l j k;unfold Qfe;cases hr:rep 0 [] l with
 | inl p =>
  obtain⟨i,err⟩:=p;rw[hr] at h;obtain⟨b,w,f⟩:=h;rw[f,jBj,V3 d e g,jBj,Zd,jBj];dsimp only;rw[wX (by omega),jBj,QT _ b,jFj b];rfl
 | inr c =>
  rw[hr] at h;obtain⟨b,f,o⟩:=h;rw[b,jBj,V3 d e g,jBj,Zd,jBj];dsimp only[accD];rw[wX (by omega),jBj,QN _ rfl,show QF (decide (((l.map Zr).length:Int)>=1000)) 5=0 from by rw[jlj,jEj (by omega)];rfl];by_cases a:chk e=0
  ·rw[QN _ a,Wz,jTj rfl];have q:=Qal d f (by omega) (evs:=l.map Zr) (by rw[jlj];omega) a;rw[jlj] at q;exact congrArg (fun x:Option Int=>x.bind fun m=>some m) q
  ·rw[QT _ a,jFj a];unfold YM;rw[jFj a]
theorem Qgk (e:Ev):∀(l a:List Ev) (i:Nat),rep i a (l++[e])=(match rep i a l with
  | .inr c=>if YM (i+l.length) c e=0 then .inr (VO c e) else .inl (((i+l.length:Nat):Int)+1,YM (i+l.length) c e)
  | .inl p=>.inl p)
 | [],a,i=>by
  show rep i a [e]=_;show(if YM i a e=0 then rep (i+1) (VO a e) [] else .inl ((i:Int)+1,YM i a e))=(if YM i a e=0 then .inr (VO a e) else .inl (((i:Nat):Int)+1,YM i a e))
  by_cases h:YM i a e=0
  ·rw[jTj h,jTj h];rfl
  ·rw[jFj h,jFj h]
 | x::l,a,i=>by
  rw[List.cons_append];unfold rep;by_cases h:YM i a x=0
  ·rw[jTj h,jTj h,Qgk e l,show i+1+l.length=i+(x::l).length by rw[List.length_cons];omega]
  ·rw[jFj h,jFj h]
def tkE (e:Ev):Int:=e.2.2.2.1.getD 0 0
def Srt:Int->List Ev->Prop
 | _,[]=>True
 | a,e::l=>a<=tkE e/\Srt (tkE e) l
def upTo (t:Int)(l:List Ev):List Ev:=l.takeWhile fun e=>decide (tkE e<=t)
theorem Qgo {t:Int}:∀{l:List Ev} {a:Int},Srt a l->t<a->l.filter (fun e=>decide (tkE e<=t))=[]
 | [],a,_,_=>rfl
 | e::l,a,h,ht=>by obtain⟨c,b⟩:=h;rw[List.filter_cons_of_neg (by simp;omega)];exact Qgo b (by omega)
theorem QgG {t:Int}:∀{l:List Ev} {a:Int},Srt a l->l.filter (fun e=>decide (tkE e<=t))=upTo t l
 | [],a,_=>rfl
 | e::l,a,h=>by
  obtain⟨d,c⟩:=h;unfold upTo;by_cases b:tkE e<=t
  ·rw[List.filter_cons_of_pos (by simpa using b),List.takeWhile_cons_of_pos (by simpa using b),QgG c];rfl
  ·rw[List.filter_cons_of_neg (by simpa using b),List.takeWhile_cons_of_neg (by simpa using b)];exact Qgo c (by omega)
theorem QgT:∀(l:List Ev) (T:Nat->Int),(∀i e,l[i]?=some e->T i<=tkE e/\T (i+1)=tkE e)->Srt (T 0) l
 | [],_,_=>trivial
 | e::l,T,h=>by obtain⟨a,b⟩:=h 0 e rfl;refine⟨a,?_⟩;rw[<-b];exact QgT l (fun i=>T (i+1)) fun i x c=>h (i+1) x (by simpa using c)
theorem Qgt (k:Ki)(r:Reg)(ns:List jSj)(vs:List Int):(act k r ns vs).tick=r.tick:=by cases k<;>(unfold act;try rfl)
theorem QgH {c:List Ev}(h:OkL c):Srt 0 c :=
 QgT c (fun i=>(QD (c.take i)).tick) fun i e b=>by obtain⟨g,a⟩:=jGj b;obtain⟨k,j,d,f⟩:=h i e b;have l:=(QS f).1;refine⟨by show(QD (c.take i)).tick<=e.2.2.2.1.getD 0 0;omega,?_⟩;show(QD (c.take (i+1))).tick=e.2.2.2.1.getD 0 0;rw[List.take_succ_eq_append_getElem g,a,GA,XR d];unfold app;rw[Qgt];rfl
theorem Qf3 (t:Int)(c:List Ev):upTo t c=c.take (upTo t c).length:=List.prefix_iff_eq_take.1 (List.takeWhile_prefix _)
theorem Qgm (t:Int)(c:List Ev):(upTo t c).length<=c.length:=(List.takeWhile_prefix _).length_le
theorem eli0 {l:List Int}(h:0<l.length):el Vt (l.map I) 0=some (l.getD 0 0):=by
 cases l with
 | nil=>simp at h
 | cons a l=>rfl
theorem Qgy {k:Ki}(h:k≠.undo):0<kv k:=by cases k<;>first|decide|exact absurd rfl h
theorem kD {n:Nat}{c:List Ev}(a:OkL c)(hc:c.length<=990)(l:1700<=n)(t:Int)(d:Int×Int×jVj×jVj×X1)(e:d.2.2.2.1=c.map Zr) :
  Q2 (Qe9 n t d) n (0,[])=some ((upTo t c).map Zr):=by
 have q:=UV (step:=Qe9 n t d) (E:=jVj) (fun out=>out) c (fun x=>if decide (tkE x<=t)=true then[Zr x] else[]) (fun x=>by split<;>simp)
  (fun i out x b m=>by
   have j:=(jGj b).1;obtain⟨k,g,f,_⟩:=a i x b;unfold Qe9;dsimp only;rw[e,jTj (ZD b),jTj ⟨Int.natCast_nonneg i,ZD b⟩,QeQ b,jBj];dsimp only;rw[eli0 (by rw[f.vals];exact Qgy g),jBj];by_cases h:tkE x<=t
   ·rw[jTj (show x.2.2.2.1.getD 0 0<=t from h),jTj (jDj h),jTj (V7 (by decide) (by omega)),jTj (by unfold Qh;omega)];rfl
   ·rw[jFj (show ¬x.2.2.2.1.getD 0 0<=t from h),jFj (show ¬decide (tkE x<=t)=true by simpa using h),jTj (by unfold Qh;omega),List.append_nil];rfl)
  (fun out _=>by unfold Qe9;dsimp only;rw[e,jFj (by simp)]) (k:=n) (by omega)
 rw[q,QeR,QgG (QgH a)]
theorem Qha {n:Nat}{d:List Ev}(g:OkL d)(y:d.length<=990)(F:1700<=n)(t:Int)(u:Int×Int×jVj×jVj×X1) :
  Q2 (Qe8 n t u (d.map Zr)) n (.inl ())=some (if d=[] then .inl () else .inr (Vb (QD d))):=by
 have q:=ZK (step:=Qe8 n t u (d.map Zr)) (E:=Unit⊕X1) (fun(_:Unit) (_:Ev)=>.inl ()) (fun _=>if d=[] then .inl () else .inr (Vb (QD d))) (fun i _=>if i=0 then .inl () else .inr ((i:Int),Vb (QD (d.take i)))) d (fun _ _=>True)
  (fun i _ e a _=>by
   obtain⟨z,o⟩:=jGj a;obtain⟨k,A,r,v⟩:=g i e a;have f:=yw g y i (by omega);have c:=QcN F f (by omega) A r v;have m:QD (d.take (i+1))=app k (QD (d.take i)) e.2.2.1 e.2.2.2.1:=by rw[List.take_succ_eq_append_getElem z,o,GA,XR r]
   refine⟨?_,trivial⟩;rw[jFj (Nat.succ_ne_zero i),m];by_cases p:i=0
   ·subst p;rw[jTj rfl];unfold Qe8;dsimp only;rw[jTj (show(0:Int)<((d.map Zr).length:Int) from ZD a),jTj ⟨Int.le_refl 0,show(0:Int)<((d.map Zr).length:Int) from ZD a⟩,show(nth (d.map Zr) 0).bind Ze=_ from QeQ (i:=0) a,jBj];exact congrArg (fun x:Option X1=>x.bind fun b=>some (Sum.inl (Sum.inr ((1:Int),b)))) c
   ·rw[jFj p];unfold Qe8;dsimp only;rw[jTj (ZD a),jTj ⟨Int.natCast_nonneg i,ZD a⟩,QeQ a,jBj];refine Eq.trans (congrArg (fun x:Option X1=>x.bind fun b=>if Qh ((i:Int)+1) then some (Sum.inl (Sum.inr ((i:Int)+1,b))) else none) c) ?_;rw[jBj,jTj (by unfold Qh;omega)];rfl)
  (fun _ _=>by
   by_cases j:d=[]
   ·subst j;rfl
   ·have C:¬d.length=0:=fun h=>j (List.eq_nil_of_length_eq_zero h);rw[jFj j,jFj C,List.take_length];unfold Qe8;dsimp only;rw[jFj (by simp)]) (s:=()) (k:=n) trivial (by omega)
 have e:∀l:List Ev,Y6 (E:=Unit⊕X1) (fun(_:Unit) (_:Ev)=>.inl ()) (fun _=>if d=[] then .inl () else .inr (Vb (QD d))) l ()=if d=[] then .inl () else .inr (Vb (QD d)):=by
  intro l;induction l with
  | nil=>rfl
  | cons x l ih=>exact ih
 rw[e] at q;exact q
def QgK (t:Int):(Int×Int)⊕List Ev->Int×Int×Bool×Bool×Int×Int×Int×jVj×jVj×jVj×Int
 | .inr c=>if inR t 0 999999999=0 then Vc (QD (upTo t c)) 0 else Vc Reg.zero (inR t 0 999999999)
 | .inl p=>Vc Reg.zero p.2
theorem Qg2 {n:Nat}(g:1700<=n)(l:List Ev)(m:l.length<=990)(o:∀e,e∈l->Shw n e)(t:Int):Qfm n (l.map Zr) t=some (QgK t (rep 0 [] l)):=by
 have h:=Xg g l m o;unfold Qfm;cases hr:rep 0 [] l with
 | inl p =>
  obtain⟨i,err⟩:=p;rw[hr] at h;obtain⟨a,w,b⟩:=h;rw[b,jBj,V2,jBj];dsimp only;rw[VE (by omega),jBj,QT _ a,jFj a];rfl
 | inr c =>
  rw[hr] at h;obtain⟨a,b,q⟩:=h;rw[a,jBj,V2,jBj];dsimp only[QgK];rw[VE (by omega),jBj,QN _ rfl,Wz];by_cases d:inR t 0 999999999=0
  ·have k:=Qgm t c;rw[jTj d,jTj d];refine Eq.trans (congrArg (fun x=>Option.bind x _) (kD b (by omega) g t _ rfl)) ?_;rw[jBj];have j:OkL (upTo t c):=by rw[Qf3];exact uH b _
   refine Eq.trans (congrArg (fun x=>Option.bind x _) (Qha j (by omega) g t _)) ?_;rw[jBj];by_cases f:upTo t c=[]
   ·rw[jTj f,f];rfl
   ·rw[jFj f];rfl
  ·rw[jFj d,jFj d];rfl
def pe (i:Int):D:=.tup [.v (.int .i64 i),B true]
theorem QuV (a:Int)(l:List Int):mok (.int .i64 a) (l.map pe)=true:=QuH (f:=pe) (g:=id) (fun _=>rfl) l
theorem QuF (a:Int):∀l:List Int,VY (.int .i64 a) (l.map pe)=if a∈l then some (B true) else none
 | []=>rfl
 | x::l=>by
  rw[jCj];show(match X9 (.int .i64 a) (.int .i64 x) with
   | some true=>some (B true)
   | _=>VY (.int .i64 a) (l.map pe))=_
  have b:X9 (.int .i64 a) (.int .i64 x)=some (a==x):=rfl;rw[b];by_cases h:a=x
  ·subst h;simp
  ·rw[show(a==x)=false by simpa using h];simp only;rw[QuF a l];simp[h]
theorem QuU (a:Int):∀l:List Int,a∉l->jD (.int .i64 a) (B true) (l.map pe)=(l++[a]).map pe
 | [],_=>rfl
 | x::l,h=>by
  rw[jCj];show(match X9 (.int .i64 a) (.int .i64 x) with
   | some true=>D.tup [.v (.int .i64 a),B true]::l.map pe
   | _=>pe x::jD (.int .i64 a) (B true) (l.map pe))=_
  have d:X9 (.int .i64 a) (.int .i64 x)=some (a==x):=rfl;have b:a≠x:=fun e=>h (by rw[e];exact jMj);have c:a∉l:=fun e=>h (jmj _ e);rw[d,show(a==x)=false by simpa using b];simp only;rw[QuU a l c];rfl
theorem Qvo (n:Nat)(b:Bool)(e:Int):Qm n b e=some (QF b e):=by cases b<;>rfl
theorem Qu9 (n:Nat)(x c b:Int):ZE n x c b=some (inR x c b):=by
 unfold ZE inR;by_cases h:x<c
 ·rw[jTj h,jTj h];rfl
 ·rw[jFj h,jFj h,Qvo,jBj];by_cases a:x>b
  ·rw[jTj a,jDj a];rfl
  ·rw[jFj a,jEj a];rfl
theorem Qu2 {n:Nat}{x:Int}(h:0<=x/\x<=10000):QsN n x=some 0:=by unfold QsN;rw[Qu9,QaH h.1 h.2];rfl
theorem Qvb {n:Nat}(f:1700<=n)(a:List Int)(e:a.length<=5)(c:∀x,x∈a->0<=x/\x<=10000):Qs4 n (a.map I)=some (a.map fun _=>I 0):=by
 unfold Qs4;have q:=UV (step:=QsH n (a.map I)) (E:=jVj) (fun out=>out) a (fun _=>[I 0]) (fun _=>by simp)
  (fun i out x b g=>by have d:=(jGj b).1;unfold QsH;dsimp only;rw[jTj (ZD b),EM b,jBj,Qu2 (c x (jgj b)),jBj,jTj (V7 (by decide) (by omega)),jTj (by unfold Qh;omega)];rfl)
  (fun out _=>by unfold QsH;dsimp only;rw[jFj (by simp)]) (k:=n) (by omega)
 rw[q,jBj];have:∀l:List Int,(l.flatMap fun _=>[I 0])=l.map fun _=>I 0:=by
  intro l;induction l with
  | nil=>rfl
  | cons x l ih=>rw[List.flatMap_cons,ih];rfl
 rw[this]
theorem QuJ {n:Nat}(f:1700<=n)(ms:List Int)(d:ms.length<=5)(b:∀x,x∈ms->x=0):Qo n (ms.map I)=some 0:=by
 unfold Qo;have q:=ZK (step:=Vi n (ms.map I)) (E:=Int⊕Unit) (fun(_:Unit) (_:Int)=>.inl ()) (fun _=>.inr ()) (fun i _=>(i:Int)) ms (fun _ _=>True)
  (fun i _ x a _=>by have c:=(jGj a).1;refine⟨?_,trivial⟩;unfold Vi;rw[jTj (ZD a),EM a,jBj,jTj (b x (jgj a)),jTj (by unfold Qh;omega)];rfl)
  (fun _ _=>by unfold Vi;rw[jFj (by simp)]) (s:=()) (k:=n) trivial (by omega)
 have e:∀l:List Int,Y6 (E:=Int⊕Unit) (fun(_:Unit) (_:Int)=>.inl ()) (fun _=>.inr ()) l ()=.inr ():=by
  intro l;induction l with
  | nil=>rfl
  | cons x l ih=>exact ih
 rw[show(0:Int)=((0:Nat):Int) from rfl,q,jBj,e]
theorem QuD (a:jVj):QpJ (.lst false 1 a)=some a:=rfl
theorem Qva {n:Nat}(j:1700<=n)(a:List Int)(k:Nat)(h:a.length<=5)(hp:∀x,x∈a->0<=x/\x<(k:Int)):QsO n [.lst false 1 (a.map I)] (k:Int)=some 0:=by
 have q:=ZK (step:=QsD n [.lst false 1 (a.map I)] (k:Int) 0 (a.map I)) (E:=Unit⊕Unit) (fun(_:Unit) (_:Int)=>.inl ()) (fun _=>.inr ()) (fun i _=>(i:Int)) a (fun _ _=>True)
  (fun i _ x b _=>by have g:=(jGj b).1;have f:=hp x (jgj b);refine⟨?_,trivial⟩;unfold QsD;rw[jTj (ZD b),EM b,jBj,jFj (by omega),jFj (by omega),jTj (by unfold Qh;omega)];rfl)
  (fun _ _=>by unfold QsD;rw[jFj (by simp)]) (s:=()) (k:=n) trivial (by omega)
 have e:∀l:List Int,Y6 (E:=Unit⊕Unit) (fun(_:Unit) (_:Int)=>.inl ()) (fun _=>.inr ()) l ()=.inr ():=by
  intro l;induction l with
  | nil=>rfl
  | cons x l ih=>exact ih
 rw[e] at q;obtain⟨m,rfl⟩:∃m,n=m+2:=⟨n - 2,by omega⟩
 unfold QsO;rw[jFj (by simp)];have c:QsA (m+2) [.lst false 1 (a.map I)] (k:Int) 0=some (.inl 1):=by unfold QsA;rw[jTj (by simp)];show((QpJ (.lst false 1 (a.map I))).bind _)=_;rw[QuD,jBj,jFj (by simp;omega)];refine Eq.trans (congrArg (fun x=>Option.bind x _) q) ?_;rfl
 have d:QsA (m+2) [.lst false 1 (a.map I)] (k:Int) 1=some (.inr 0):=by unfold QsA;rw[jFj (by simp)]
 rw[E3 c,JB d];rfl
def nxt (wz:Int)(p:Nat->Bool)(i:Nat)(x:Int):Int:=(if p i=true then 0 else x)+wz
def nxtL (wz:Int)(p:Nat->Bool):Nat->List Int->List Int
 | _,[]=>[]
 | i,x::l=>nxt wz p i x::nxtL wz p (i+1) l
def Qs7 (p:Nat->Bool):Nat->List Int->Int
 | _,[]=>0
 | i,x::l=>(if p i=true then 0 else x)+Qs7 p (i+1) l
def Qs2 (p:Nat->Bool)(k:Nat):List Int:=((List.range k).filter p).map fun i:Nat=>(i:Int)
theorem QuS (p:Nat->Bool)(k i:Nat)(c:i<k):((i:Int)∈Qs2 p k)↔p i=true:=by
 unfold Qs2;simp only[List.mem_map,List.mem_filter,List.mem_range];constructor
 ·rintro⟨a,⟨d,b⟩,e⟩;have:a=i:=by omega
  subst this;exact b
 ·intro h;exact⟨i,⟨c,h⟩,rfl⟩
theorem Qug (p:Nat->Bool)(k:Nat):Qs2 p (k+1)=if p k=true then Qs2 p k++[(k:Int)] else Qs2 p k:=by
 unfold Qs2;rw[List.range_succ,List.filter_append,List.map_append];by_cases h:p k=true
 ·rw[jTj h,List.filter_cons_of_pos h];rfl
 ·rw[jFj h,List.filter_cons_of_neg h];simp
theorem Qum (p:Nat->Bool)(k:Nat):(Qs2 p k).length<=k:=by unfold Qs2;rw[jlj];exact Nat.le_trans (List.length_filter_le _ _) (by simp)
theorem QuT (p:Nat->Bool)(k:Nat):∀x,x∈Qs2 p k->0<=x/\x<(k:Int):=by intro x b;unfold Qs2 at b;simp only[List.mem_map,List.mem_filter,List.mem_range] at b;obtain⟨a,⟨c,_⟩,rfl⟩:=b;omega
theorem Quw (p:Nat->Bool)(k:Nat):(Qs2 p k).Nodup:=by unfold Qs2;refine List.Pairwise.map _ ?_ ((List.nodup_range).filter _);intro a b h e;exact h (by omega)
theorem QuZ {n:Nat}(p:1700<=n){a1:Int}{a2:jVj}{sa:Int×Int×jVj}(a:List Int)(o:a.length<=5)(j:a.Nodup):Q2 (QsK n a1 a2 sa (a.map I)) n (0,[])=some (a.map pe):=by
 have q:=ZK (step:=QsK n a1 a2 sa (a.map I)) (E:=jVj) (fun(s:List Int) (x:Int)=>.inl (s++[x])) (fun s=>s.map pe) (fun i s=>((i:Int),s.map pe)) a (fun i s=>s=a.take i)
  (fun i s x d g=>by
   obtain⟨f,c⟩:=jGj d;have b:x∉s:=by
    rw[g];intro m;have h:(a.take i++[x]).Nodup:=by rw[<-c,<-List.take_succ_eq_append_getElem f];exact List.Sublist.nodup (List.take_sublist _ _) j
    exact(List.nodup_append.1 h).2.2 x m x (by simp) rfl
   refine⟨?_,by rw[g,List.take_succ_eq_append_getElem f,c]⟩;unfold QsK;dsimp only;rw[jTj (ZD d),EM d,jBj,jTj (QuV _ _),jTj (by unfold Qh;omega),QuU _ _ b];rfl)
  (fun s _=>by unfold QsK;dsimp only;rw[jFj (by simp)]) (s:=[]) (k:=n) rfl (by omega)
 have e:∀(l s:List Int),Y6 (E:=jVj) (fun(s:List Int) (x:Int)=>.inl (s++[x])) (fun s=>s.map pe) l s=(s++l).map pe:=by
  intro l;induction l with
  | nil=>intro s;simp[Y6]
  | cons x l ih=>intro s;exact(ih _).trans (by rw[List.append_assoc];rfl)
 rw[e] at q;exact q
theorem QuI {a b:Int}(h:b<=a):minI a b=b:=by unfold minI;split<;>omega
theorem Qus {n:Nat}(v:1700<=n){wz:Int}(y:0<=wz/\wz<=100){a2:jVj}{sa:Int×Int×jVj}(p:Nat->Bool)(c:List Int)(u:c.length<=5)(q:∀x,x∈c->0<=x/\x<=1000)(g:sa.2.2.length=c.length) :
  ∀(m:Nat) (done b:List Int) (a:Int) (k:Nat),b.length=m->done.length+m=c.length->b=c.drop done.length->m<k->0<=a->a<=1000*(done.length:Int) ->
   Q2 (QsJ n wz a2 sa ((Qs2 p c.length).map pe)) k (a,(done.length:Int),(done++b).map I)=some (a+Qs7 p done.length b,(done++nxtL wz p done.length b).map I)
 | 0,done,b,a,k,h0,h1,h2,hk,hb,hb2=>by
  have:b=[]:=List.eq_nil_of_length_eq_zero h0;subst this;obtain⟨j,rfl⟩:∃j,k=j+1:=⟨k - 1,by omega⟩
  refine(JB (e:=(a,(done++[]).map I)) ?_).trans ?_
  ·unfold QsJ;dsimp only;rw[jFj (by rw[g];omega)]
  ·simp[Qs7,nxtL]
 | m+1,done,b,a,k,h0,h1,h2,hk,hb,hb2=>by
  obtain⟨j,rfl⟩:∃j,k=j+1:=⟨k - 1,by omega⟩
  match b,h0,h2 with
  | x::r,h0,h2 =>
   have l:r.length=m:=by simpa using h0
   have z:x∈c:=List.mem_of_mem_drop (by rw[<-h2];exact jMj);have A:=q x z;have i:(done++x::r)[done.length]?=some x:=by simp
   have d:=QuS p c.length done.length (by omega);have f:List.set ((done++x::r).map I) done.length (I (nxt wz p done.length x))=((done++[nxt wz p done.length x])++r).map I:=by
    rw[<-List.map_set];congr 1
    rw[List.set_append_right _ _ (jLj _),Nat.sub_self,List.set_cons_zero,List.append_assoc];rfl
   have o:QsJ n wz a2 sa ((Qs2 p c.length).map pe) (a,(done.length:Int),(done++x::r).map I)=some (.inl (a+(if p done.length=true then 0 else x),((done.length+1:Nat):Int),((done++[nxt wz p done.length x])++r).map I)):=by
    unfold QsJ;dsimp only;rw[jTj (by rw[g];omega),jTj ⟨Int.natCast_nonneg _,by simp;omega⟩,Q4 (un:=Vt) (enc:=I) (fun _=>rfl) i,jBj,jTj (QuV _ _),QuF];by_cases hp:p done.length=true
    ·rw[jTj (d.2 hp),jTj (show(some (B true)).isSome=true from rfl),jBj];show(Option.bind (some true) _)=_;rw[jBj,jTj rfl,jTj (by unfold Qh;omega),jTj (by unfold Qh;omega),jTj (by simp),jTj (by unfold Qh;omega),QuI (by omega),jTj hp];have:nxt wz p done.length x=0+wz:=by unfold nxt;rw[jTj hp]
     rw[<-f,this];rfl
    ·rw[jFj (fun h=>hp (d.1 h)),jFj (by simp),jTj (by unfold Qh;omega),jTj (by unfold Qh;omega),jTj (by simp),jTj (by unfold Qh;omega),QuI (by omega),jFj hp];have:nxt wz p done.length x=x+wz:=by unfold nxt;rw[jFj hp]
     rw[<-f,this];rfl
   rw[E3 o];have t:0<=(if p done.length=true then 0 else x)/\(if p done.length=true then 0 else x)<=1000:=by split<;>omega
   have s:=Qus v y (a2:=a2) (sa:=sa) p c u q g m (done++[nxt wz p done.length x]) r (a+(if p done.length=true then 0 else x)) j l (by simp;omega)
    (by rw[jaj,List.length_singleton,<-List.drop_drop,<-h2];rfl) (by omega) (by omega) (by rw[jaj,List.length_singleton];push_cast;omega)
   rw[jaj,List.length_singleton] at s;rw[s,Qs7,nxtL,List.append_assoc,Int.add_assoc];rfl
theorem QuA {a:List Int}(h:a≠[]):UF (a.map I)=false:=by
 cases a with
 | nil=>exact absurd rfl h
 | cons x l=>rfl
theorem Qtj {n:Nat}(b:1700<=n){wz:Int}(f:0<=wz/\wz<=100)(p:Nat->Bool)(a:List Int)(h:a≠[])(d:a.length<=5)(e:∀x,x∈a->0<=x/\x<=1000) :
  QsF n (a.map I) wz [.lst false 1 ((Qs2 p a.length).map I)]=some ((nxtL wz p 0 a).map I,Qs7 p 0 a,0):=by
 have j:=Qum p a.length;unfold QsF;rw[jFj (by simp;omega),Qvb b a d (fun x g=>⟨(e x g).1,by have:=(e x g).2;omega⟩),jBj];have i:Qo n (a.map fun _=>I 0)=some 0:=by have:=QuJ b (a.map fun _=>(0:Int)) (by simpa using d) (by simp);rwa [List.map_map] at this
 rw[i,jBj,Qu2 ⟨f.1,by omega⟩,jBj,jlj,Qva b _ _ (by omega) (QuT p _),jBj];have c:Qo n [I 0,I 0,I 0]=some 0:=QuJ b [0,0,0] (by simp) (by simp);rw[c,jBj,jTj rfl,QuA h,jFj (by simp),jTj (V7 (by decide) (by omega))];obtain⟨m,rfl⟩:∃m,n=m+2:=⟨n - 2,by omega⟩
 have k:QsI (m+2) wz [.lst false 1 ((Qs2 p a.length).map I)] (0,0,a.map I)=some (.inl (Qs7 p 0 a,1,(nxtL wz p 0 a).map I)):=by unfold QsI;dsimp only;rw[jTj (by simp)];show((QpJ (.lst false 1 ((Qs2 p a.length).map I))).bind _)=_;rw[QuD,jBj,QuZ b _ (by omega) (Quw p _),jBj];have:=Qus b f (a2:=[.lst false 1 ((Qs2 p a.length).map I)]) (sa:=(0,0,a.map I)) p a d e (by simp) a.length [] a 0 (m+2) rfl (by simp) rfl (by omega) (by omega) (by simp);simp only[List.length_nil,List.nil_append,Int.zero_add] at this;refine Eq.trans (congrArg (fun x=>Option.bind x _) this) ?_;rw[jBj,jTj (by decide)];rfl
 have l:QsI (m+2) wz [.lst false 1 ((Qs2 p a.length).map I)] (Qs7 p 0 a,1,(nxtL wz p 0 a).map I)=some (.inr (Qs7 p 0 a,(nxtL wz p 0 a).map I)):=by unfold QsI;dsimp only;rw[jFj (by simp)]
 rw[E3 k,JB l];rfl
theorem Qin {e:Ev}{k:Ki}(a:Good e k):chk e=0:=by unfold chk;rw[jTj (YC.2 a.num),a.kind,E7];dsimp only;rw[jTj ⟨a.names,a.vals⟩,jTj (List.all_eq_true.2 a.name),jTj (show e.2.2.2.1.all wq=true from List.all_eq_true.2 fun v b=>jDj (YC.2 (a.val v b))),jTj a.text]
theorem Quy {s:jSj}(h:Us s=true):s.size<=24:=by unfold Us at h;simp only[jAj,decide_eq_true_eq] at h;exact h.1.2
theorem Qvk (k:Ki):kn k<=6:=by cases k<;>decide
theorem Qvj (k:Ki):kv k<=8:=by cases k<;>decide
theorem Qu1 {n:Nat}(c:1700<=n){e:Ev}{k:Ki}(a:Good e k):Shw n e :=
 ⟨by rw[a.names];exact Qvk k,by rw[a.vals];exact Qvj k,fun s b=>by have:=Quy (a.name s b);omega⟩
structure Journ (n:Nat) (l:List Ev) (r:Reg):Prop where
 ok:OkL l
 rep:rep 0 [] l=.inr l
 shw:∀e,e∈l->Shw n e
 reg:QD l=r
theorem Qvl (n:Nat):Journ n [] Reg.zero:=⟨Jx,rfl,fun e h=>by simp at h,rfl⟩
theorem QtT {n:Nat}(i:1700<=n){l:List Ev}{r:Reg}(h:Journ n l r)(p:l.length<=900){e:Ev}{k:Ki}(g:k≠.undo)(a:Good e k)(b:e.1=(l.length:Int)+1)(d:acc k r e.2.2.1 e.2.2.2.1=0) :
  Qfe n (l.map Zr) e.1 e.2.1 (e.2.2.1.map Sd) (e.2.2.2.1.map I) e.2.2.2.2=some 0/\Journ n (l++[e]) (app k r e.2.2.1 e.2.2.2.1):=by
 have m:¬isU e=true:=by rw[KY a];simpa using g
 have f:YM l.length l e=0:=by rw[QcG (Qin a) b m,Gq a,h.reg];exact d
 have j:=Qu1 i a;refine⟨?_,Qcm h.ok g a (by rw[h.reg];exact d),?_,?_,by rw[GA,h.reg,XR a]⟩
 ·rw[Qf8 i l (by omega) h.shw e j,h.rep];show some (YM l.length l e)=_;rw[f]
 ·rw[Qgk,h.rep];dsimp only;rw[Nat.zero_add,jTj f];unfold VO;rw[jFj m]
 ·intro x o;obtain c|c:=List.mem_append.1 o
  ·exact h.shw x c
  ·rw[List.mem_singleton.1 c];exact j
theorem QuN {n:Nat}(d:1700<=n){l:List Ev}{r:Reg}(h:Journ n l r)(e:l.length<=900){t:Int}(a:r.tick<=t/\0<=t/\t<=999999999)(c:Zk r t=0) :
  Yh n (l.map Zr) t=some (r.light+ZL r t,r.heat+ZL r t,0):=by
 rw[yH d l (by omega) h.shw t,h.rep];dsimp only;rw[h.reg];have b:Qt [0,inR t 0 999999999,QF (decide (t<r.tick)) 22]=0:=by rw[QN _ rfl,QN _ (QaH a.2.1 a.2.2),Wz,jEj (by omega)];rfl
 rw[jTj b,jTj c]
theorem QuM {n:Nat}(a:1700<=n){l:List Ev}{r:Reg}(h:Journ n l r)(b:l.length<=900):XE n (l.map Zr)=some (outF r 0 0):=by rw[Qfu a l (by omega) h.shw,h.rep];show some (outF (QD l) 0 0)=_;rw[h.reg]
theorem Qu8 {n:Nat}(s:1700<=n){l:List Ev}{r:Reg}(h:Journ n l r)(v:l.length<=900){t:Int}(g:0<=t/\t<=999999999){a b:List Ev}{q:Reg}(c:l=a++b)(m:Journ n a q)(d:∀e,e∈a->tkE e<=t)(f:∀e,b[0]?=some e->t<tkE e) :
  Qfm n (l.map Zr) t=some (Vc q 0):=by
 rw[Qg2 s l (by omega) h.shw t,h.rep];dsimp only[QgK];rw[jTj (QaH g.1 g.2)];have u:upTo t l=a:=by
  rw[c];unfold upTo;have j:∀a:List Ev,(∀e,e∈a->tkE e<=t)->(a++b).takeWhile (fun e=>decide (tkE e<=t))=a++b.takeWhile (fun e=>decide (tkE e<=t)):=by
   intro a;induction a with
   | nil=>intro _;rfl
   | cons x a ih =>
    intro i;rw[List.cons_append,List.takeWhile_cons_of_pos (p:=fun e=>decide (tkE e<=t)) (jDj (i x jMj)),ih fun e o=>i e (jmj _ o)];rfl
  rw[j a d];have k:b.takeWhile (fun e=>decide (tkE e<=t))=[]:=by
   cases b with
   | nil=>rfl
   | cons x b =>
    have:=f x rfl;rw[List.takeWhile_cons_of_neg (p:=fun e=>decide (tkE e<=t)) (by simp;omega)]
  rw[k,List.append_nil]
 rw[u,m.reg]
def evw (a:Int)(k:Ki)(ns:List jSj)(vs:List Int):Ev:=(a,mkS (kw k),ns,vs,⟨#[]⟩)
theorem Qtc {a:Int}{k:Ki}{ns:List jSj}{vs:List Int}(b:1<=a/\a<=1000)(c:ns.length=kn k)(d:vs.length=kv k)(e:∀s,s∈ns->Us s=true)(f:∀v,v∈vs->0<=v/\v<=999999999):Good (evw a k ns vs) k :=
 ⟨b,Qjx _,c,d,e,f,rfl⟩
def nmB (i:Nat):jSj:=mkS [109,UInt8.ofNat (48+i)]
def sN:jSj:=⟨#[110]⟩
theorem Qu7:∀i:Fin 5,Us (nmB i.val)=true:=by decide
theorem QtX {i:Nat}(h:i<5):Us (nmB i)=true:=Qu7 ⟨i,h⟩
theorem Qve:Us sN=true:=by decide
theorem QuX:∀i j:Fin 5,nmB i.val=nmB j.val->i=j:=by decide
theorem QuG {i j:Nat}(h:i<5)(b:j<5)(a:i≠j):nmB i≠nmB j:=fun e=>a (by have:=QuX ⟨i,h⟩ ⟨j,b⟩ e;exact congrArg Fin.val this)
theorem digS:∀k:Fin 5,Utf8.encode (IntKind.wrap .i32 (48+((k.val:Nat):Int)))=mkS [UInt8.ofNat (48+k.val)]:=by decide
theorem Qvt {k:Nat}(h:k<5):Utf8.encode (IntKind.wrap .i32 (48+(k:Int)))=mkS [UInt8.ofNat (48+k)]:=digS ⟨k,h⟩
theorem appS (a b:List UInt8):mkS a++mkS b=mkS (a++b):=by
 have:(mkS a++mkS b).data.toList=a++b:=by rw[ByteArray.data_append];simp[mkS]
 rw[<-yD (mkS a++mkS b),this]
theorem Qvd (l:List UInt8):(mkS l).size=l.length:=by simp[mkS,ByteArray.size]
theorem txt2 {n:Nat}(g:1700<=n){i:Nat}(h:i<5):KF n (i:Int)=some (mkS [UInt8.ofNat (48+i)]):=by
 unfold KF;by_cases b:i=0
 ·subst b;rfl
 ·rw[jFj (by omega)];obtain⟨m,rfl⟩:∃m,n=m+2:=⟨n - 2,by omega⟩
  have c:Int.tmod (i:Int) 10=(i:Int):=by rw[Int.tmod_eq_emod_of_nonneg (by omega)];omega
  have d:Int.tdiv (i:Int) 10=0:=by rw[Int.tdiv_eq_ediv_of_nonneg (by omega)];omega
  have a:(mkS [UInt8.ofNat (48+i)]).size+(⟨#[]⟩:jSj).size<=9223372036854775807:=by rw[Qvd];show(1:Nat)+0<=9223372036854775807;decide
  have e:QsG (m+2) (i:Int) (⟨#[]⟩,(i:Int))=some (.inl (mkS [UInt8.ofNat (48+i)],0)):=by unfold QsG;dsimp only;rw[jFj (by omega),c,d,jFj (by omega),Qvt h,jTj (by unfold Qh;omega),jTj a,jTj (by decide)];exact congrArg (fun x=>some (Sum.inl (x,(0:Int)))) (appS [UInt8.ofNat (48+i)] [])
  have f:QsG (m+2) (i:Int) (mkS [UInt8.ofNat (48+i)],0)=some (.inr (mkS [UInt8.ofNat (48+i)])):=by unfold QsG;dsimp only;rw[jTj rfl]
  rw[E3 e,JB f,jBj,jFj (by omega)]
theorem Qux (i:Nat):(⟨#[109]⟩:jSj)++mkS [UInt8.ofNat (48+i)]=nmB i:=appS [109] [UInt8.ofNat (48+i)]
theorem Qui (i:Nat):(⟨#[109]⟩:jSj).size+(mkS [UInt8.ofNat (48+i)]).size<=9223372036854775807:=by rw[Qvd];show(1:Nat)+1<=9223372036854775807;decide
def mirA (i:Nat)(x:Int):Mir:=(nmB i,sN,1,x,false,true)
def mirs:Nat->List Int->List Mir
 | _,[]=>[]
 | i,x::l=>mirA i x::mirs (i+1) l
def rg (lv t a:Int)(ms:List Mir):Reg:=⟨t,lv,true,false,a,a,0,[sN],ms,[]⟩
theorem Qta:∀(l:List Int) (i:Nat),(mirs i l).length=l.length
 | [],_=>rfl
 | x::l,i=>by rw[mirs,List.length_cons,List.length_cons,Qta l]
theorem Quq:∀(a b:List Int) (i:Nat),mirs i (a++b)=mirs i a++mirs (i+a.length) b
 | [],b,i=>rfl
 | x::a,b,i=>by rw[List.cons_append,mirs,mirs,Quq a b,List.cons_append,List.length_cons,show i+1+a.length=i+(a.length+1) by omega]
theorem QuR:∀(a:List Int) (i:Nat) (m:Mir) (ms:List Mir),m.1=nmB (i+a.length)->i+a.length<5->pos (nmM (mirs i a++m::ms)) (nmB (i+a.length))=some a.length
 | [],i,m,ms,hm,h=>by show pos (m.1::nmM ms) _=_;unfold pos;rw[jTj hm];rfl
 | y::a,i,m,ms,hm,h=>by rw[List.length_cons] at hm h ⊢;show pos (nmB i::nmM (mirs (i+1) a++m::ms)) _=_;unfold pos;rw[jFj (QuG (by omega) (by omega) (by omega))];have:=QuR a (i+1) m ms (by rw[hm];congr 1;omega) (by omega);rw[show i+1+a.length=i+(a.length+1) by omega] at this;rw[this];rfl
theorem QuQ:∀(a:List Int) (i j:Nat),i+a.length<=j->j<5->pos (nmM (mirs i a)) (nmB j)=none
 | [],i,j,_,_=>rfl
 | y::a,i,j,h,h5=>by rw[List.length_cons] at h;show pos (nmB i::nmM (mirs (i+1) a)) _=_;unfold pos;rw[jFj (QuG (by omega) h5 (by omega)),QuQ a (i+1) j (by omega) h5];rfl
theorem QuE {a:List Int}{m:Mir}{ms:List Mir}(b:m.1=nmB a.length)(h:a.length<5):pos (nmM (mirs 0 a++m::ms)) (nmB a.length)=some a.length:=by have:=QuR a 0 m ms (by rw[Nat.zero_add];exact b) (by omega);rwa [Nat.zero_add] at this
theorem Qvf {a:List Int}{m:Mir}{ms:List Mir}(b:m.1=nmB a.length)(h:a.length<5):iM (mirs 0 a++m::ms) (nmB a.length)=a.length:=by unfold iM;rw[QuE b h];rfl
theorem Quj {a:List Int}{m:Mir}{ms:List Mir}(b:m.1=nmB a.length)(h:a.length<5):mAt (mirs 0 a++m::ms) (nmB a.length)=m:=by unfold mAt;rw[Qvf b h,List.getD_eq_getElem?_getD,List.getElem?_append_right (by rw[Qta];exact jLj _),Qta,Nat.sub_self];rfl
theorem QuB {a:List Int}{m:Mir}{ms:List Mir}(b:m.1=nmB a.length)(h:a.length<5):Zu (nmM (mirs 0 a++m::ms)) (nmB a.length)=true:=by unfold Zu;rw[QuE b h];rfl
theorem Qvn {a:List Int}(h:a.length<5):Zu (nmM (mirs 0 a)) (nmB a.length)=false:=by unfold Zu;rw[QuQ a 0 _ (by omega) h];rfl
theorem Qvi {a:List Int}{m q:Mir}{ms:List Mir}:(mirs 0 a++m::ms).set a.length q=mirs 0 a++q::ms:=by rw[List.set_append_right _ _ (by rw[Qta];exact jLj _),Qta,Nat.sub_self,List.set_cons_zero]
theorem QuC {lv t lt:Int}{a:List Int}{m q:Mir}{ms:List Mir}(b:m.1=nmB a.length)(h:a.length<5):chgM (rg lv t lt (mirs 0 a++m::ms)) (nmB a.length) q=rg lv t lt (mirs 0 a++q::ms):=by unfold chgM rg;dsimp only;rw[Qvf b h,Qvi]
theorem Qvm:Zu [sN] sN=true:=by decide
theorem Quk (lv t lt:Int)(ms:List Mir)(u:Int):bkd (rg lv t lt ms) u=rg lv u (lt+UR lv ms*(u - t)) ms:=rfl
theorem Qua {k:Ki}{r:Reg}{ns:List jSj}{vs:List Int}(d:r.tick<=vs.getD 0 0)(a:Zk r (vs.getD 0 0)=0)(b:known k r ns=0)(c:spec k r ns vs=0):acc k r ns vs=0:=by unfold acc;rw[jFj (by omega),QN _ a,QN _ b,Wz,c]
theorem Quu {lv t lt:Int}{ms:List Mir}{u:Int}(h:lt+UR lv ms*(u - t)<=1000000000000000):Zk (rg lv t lt ms) u=0:=by unfold Zk;exact jTj ⟨h,h⟩
theorem QuO {n:Nat}(k:1700<=n){l:List Ev}{lv:Int}{a:List Int}(h:Journ n l (rg lv 0 0 (mirs 0 a)))(j:l.length<=900)(g:a.length<5)(e:Ev)(c:e=evw (((l.map Zr).length:Int)+1) .mirror [nmB a.length,sN] [0,1]) :
  Qfe n (l.map Zr) e.1 e.2.1 (e.2.2.1.map Sd) (e.2.2.2.1.map I) e.2.2.2.2=some 0/\Journ n (l++[e]) (rg lv 0 0 (mirs 0 a++[(nmB a.length,sN,1,0,false,false)])):=by
 have i:Good e .mirror:=by
  rw[c];exact Qtc (by rw[jlj];omega) rfl rfl (fun s d=>by
   obtain rfl|d:=List.mem_cons.1 d
   ·exact QtX g
   ·rw[List.mem_singleton.1 d];exact Qve) (fun v f=>by
   obtain rfl|f:=List.mem_cons.1 f
   ·decide
   ·rw[List.mem_singleton.1 f];decide)
 have b:acc .mirror (rg lv 0 0 (mirs 0 a)) e.2.2.1 e.2.2.2.1=0:=by
  rw[c];refine Qua (Int.le_refl 0) (Quu (by show(0:Int)+UR lv (mirs 0 a)*(0 - 0)<=_;rw[Int.sub_self,Int.mul_zero];decide)) ?_ ?_
  ·show(if Zu [sN] sN=true then QF (Zu (nmM (mirs 0 a)) (nmB a.length)) 9 else 10)=0;rw[jTj Qvm,Qvn g];rfl
  ·show Qt [inR 1 1 100,QF (((mirs 0 a).length:Int)==32) 5]=0;rw[QN _ (by decide),Wz,Qta,show((a.length:Int)==32)=false by simp;omega];rfl
 have q:=QtT k h j (by decide) i (by rw[c];show((l.map Zr).length:Int)+1=_;rw[jlj]) b;refine⟨q.1,?_⟩;have m:app .mirror (rg lv 0 0 (mirs 0 a)) e.2.2.1 e.2.2.2.1=rg lv 0 0 (mirs 0 a++[(nmB a.length,sN,1,0,false,false)]):=by rw[c];unfold app;show act .mirror (bkd (rg lv 0 0 (mirs 0 a)) 0) _ _=_;rw[Quk,Int.sub_self,Int.mul_zero];rfl
 rw[<-m];exact q.2
theorem QuK {n:Nat}(r:1700<=n){l:List Ev}{lv t lt u x:Int}{a:List Int}{m:Mir}{ms:List Mir}(h:Journ n l (rg lv t lt (mirs 0 a++m::ms)))(p:l.length<=900)(c:a.length<5)(f:m.1=nmB a.length)
  (i:t<=u/\0<=u/\u<=999999999) (j:0<=x/\x<=1000) (k:lt+UR lv (mirs 0 a++m::ms)*(u - t)<=1000000000000000) (e:Ev) (d:e=evw (((l.map Zr).length:Int)+1) .soil [nmB a.length] [u,x]) :
  Qfe n (l.map Zr) e.1 e.2.1 (e.2.2.1.map Sd) (e.2.2.2.1.map I) e.2.2.2.2=some 0/\Journ n (l++[e]) (rg lv u (lt+UR lv (mirs 0 a++m::ms)*(u - t)) (mirs 0 a++X8 m x::ms)):=by
 have o:Good e .soil:=by
  rw[d];exact Qtc (by rw[jlj];omega) rfl rfl (fun s z=>by
   rw[List.mem_singleton.1 z];exact QtX c) (fun v g=>by
   obtain rfl|g:=List.mem_cons.1 g
   ·exact i.2
   ·rw[List.mem_singleton.1 g];omega)
 have b:acc .soil (rg lv t lt (mirs 0 a++m::ms)) e.2.2.1 e.2.2.2.1=0:=by
  rw[d];refine Qua i.1 (Quu k) ?_ ?_
  ·show QF (!Zu (nmM (mirs 0 a++m::ms)) (nmB a.length)) 10=0;rw[QuB f c];rfl
  ·exact QaH j.1 j.2
 have q:=QtT r h p (by decide) o (by rw[d];show((l.map Zr).length:Int)+1=_;rw[jlj]) b;refine⟨q.1,?_⟩;have y:app .soil (rg lv t lt (mirs 0 a++m::ms)) e.2.2.1 e.2.2.2.1=rg lv u (lt+UR lv (mirs 0 a++m::ms)*(u - t)) (mirs 0 a++X8 m x::ms):=by rw[d];unfold app;show act .soil (bkd (rg lv t lt (mirs 0 a++m::ms)) u) [nmB a.length] [u,x]=_;rw[Quk];show chgM (rg lv u _ (mirs 0 a++m::ms)) (nmB a.length) (X8 (mAt (mirs 0 a++m::ms) (nmB a.length)) x)=_;rw[Quj f c,QuC f c]
 rw[<-y];exact q.2
theorem Qu4 {n:Nat}(k:1700<=n){l:List Ev}{lv t lt:Int}{a:List Int}{m:Mir}{ms:List Mir}(h:Journ n l (rg lv t lt (mirs 0 a++m::ms)))(j:l.length<=900)(c:a.length<5)(f:m.1=nmB a.length)
  (r:0<=t/\t<=999999999) (x:lt<=1000000000000000) (e:Ev) (d:e=evw (((l.map Zr).length:Int)+1) .clean [nmB a.length] [t]) :
  Qfe n (l.map Zr) e.1 e.2.1 (e.2.2.1.map Sd) (e.2.2.2.1.map I) e.2.2.2.2=some 0/\Journ n (l++[e]) (rg lv t lt (mirs 0 a++X8 m 0::ms)):=by
 have i:Good e .clean:=by
  rw[d];exact Qtc (by rw[jlj];omega) rfl rfl (fun s p=>by
   rw[List.mem_singleton.1 p];exact QtX c) (fun v u=>by
   rw[List.mem_singleton.1 u];exact r)
 have g:UR lv (mirs 0 a++m::ms)*(t - t)=0:=by rw[Int.sub_self,Int.mul_zero]
 have b:acc .clean (rg lv t lt (mirs 0 a++m::ms)) e.2.2.1 e.2.2.2.1=0:=by rw[d];refine Qua (Int.le_refl t) (Quu (by show lt+UR lv (mirs 0 a++m::ms)*(t - t)<=_;rw[g];omega)) ?_ rfl;show QF (!Zu (nmM (mirs 0 a++m::ms)) (nmB a.length)) 10=0;rw[QuB f c];rfl
 have q:=QtT k h j (by decide) i (by rw[d];show((l.map Zr).length:Int)+1=_;rw[jlj]) b;refine⟨q.1,?_⟩;have o:app .clean (rg lv t lt (mirs 0 a++m::ms)) e.2.2.1 e.2.2.2.1=rg lv t lt (mirs 0 a++X8 m 0::ms):=by rw[d];unfold app;show act .clean (bkd (rg lv t lt (mirs 0 a++m::ms)) t) [nmB a.length] [t]=_;rw[Quk,g,Int.add_zero];show chgM (rg lv t lt (mirs 0 a++m::ms)) (nmB a.length) (X8 (mAt (mirs 0 a++m::ms) (nmB a.length)) 0)=_;rw[Quj f c,QuC f c]
 rw[<-o];exact q.2
theorem Qvq {n:Nat}(p:1700<=n){l:List Ev}{lv t lt:Int}{a:List Int}{m:Mir}{ms:List Mir}(h:Journ n l (rg lv t lt (mirs 0 a++m::ms)))(o:l.length<=900)(b:a.length<5)(f:m.1=nmB a.length)
  (x:0<=t/\t<=999999999) (z:lt<=1000000000000000) (i:m.2.2.2.2.1=false) (k:m.2.2.2.2.2=false) (e:Ev) (d:e=evw (((l.map Zr).length:Int)+1) .aim [nmB a.length] [t]) :
  Qfe n (l.map Zr) e.1 e.2.1 (e.2.2.1.map Sd) (e.2.2.2.1.map I) e.2.2.2.2=some 0/\Journ n (l++[e]) (rg lv t lt (mirs 0 a++aimM m::ms)):=by
 have j:Good e .aim:=by
  rw[d];exact Qtc (by rw[jlj];omega) rfl rfl (fun s u=>by
   rw[List.mem_singleton.1 u];exact QtX b) (fun v y=>by
   rw[List.mem_singleton.1 y];exact x)
 have g:UR lv (mirs 0 a++m::ms)*(t - t)=0:=by rw[Int.sub_self,Int.mul_zero]
 have c:acc .aim (rg lv t lt (mirs 0 a++m::ms)) e.2.2.1 e.2.2.2.1=0:=by
  rw[d];refine Qua (Int.le_refl t) (Quu (by show lt+UR lv (mirs 0 a++m::ms)*(t - t)<=_;rw[g];omega)) ?_ ?_
  ·show QF (!Zu (nmM (mirs 0 a++m::ms)) (nmB a.length)) 10=0;rw[QuB f b];rfl
  ·show Qt [QF (!true) 30,QF false 29,QF (mAt (mirs 0 a++m::ms) (nmB a.length)).2.2.2.2.1 21,QF (mAt (mirs 0 a++m::ms) (nmB a.length)).2.2.2.2.2 9]=0;rw[Quj f b,i,k];rfl
 have q:=QtT p h o (by decide) j (by rw[d];show((l.map Zr).length:Int)+1=_;rw[jlj]) c;refine⟨q.1,?_⟩;have r:app .aim (rg lv t lt (mirs 0 a++m::ms)) e.2.2.1 e.2.2.2.1=rg lv t lt (mirs 0 a++aimM m::ms):=by rw[d];unfold app;show act .aim (bkd (rg lv t lt (mirs 0 a++m::ms)) t) [nmB a.length] [t]=_;rw[Quk,g,Int.add_zero];show chgM (rg lv t lt (mirs 0 a++m::ms)) (nmB a.length) (aimM (mAt (mirs 0 a++m::ms) (nmB a.length)))=_;rw[Quj f b,QuC f b]
 rw[<-r];exact q.2
theorem Qt9 (a:List Int)(x:Int)(r:List Int):mirs 0 (a++x::r)=mirs 0 a++mirA a.length x::mirs (a.length+1) r:=by rw[Quq,Nat.zero_add];rfl
theorem Quo (a:List Int)(y:Int)(r:List Int):mirs 0 a++mirA a.length y::mirs (a.length+1) r=mirs 0 ((a++[y])++r):=by rw[List.append_assoc];exact(Qt9 a y r).symm
def pbit (bits:Int)(i:Nat):Bool:=decide ((IntKind.wrap .u8 (((BitVec.ofInt 8 (Int.fdiv bits (2 ^ (min (Int.toNat (i:Int)) 8))) &&& BitVec.ofInt 8 1).toNat:Nat):Int))=1)
def clnL (p:Nat->Bool):Nat->List Int->List Int
 | _,[]=>[]
 | i,x::l=>(if p i=true then 0 else x)::clnL p (i+1) l
theorem QtP (p:Nat->Bool):∀(l:List Int) (i:Nat),(clnL p i l).length=l.length
 | [],_=>rfl
 | x::l,i=>by rw[clnL,List.length_cons,List.length_cons,QtP p l]
theorem QtN (wz:Int)(p:Nat->Bool):∀(l:List Int) (i:Nat),(nxtL wz p i l).length=l.length
 | [],_=>rfl
 | x::l,i=>by rw[nxtL,List.length_cons,List.length_cons,QtN wz p l]
def Qt1 (n:Nat)(K:Int)(bits day:Int)(sa:(Int×jVj×jVj)):Option (Int×jVj×jVj⊕jVj×jVj) := if sa.1<K then if 0<=sa.1 then if(IntKind.wrap .u8 (((BitVec.ofInt 8 (Int.fdiv bits (2 ^ (min (Int.toNat sa.1) 8))) &&& BitVec.ofInt 8 1).toNat:Nat):Int))=1 then if Wa 8 ((sa.2.2).length+1) then(KF n sa.1).bind fun a=>if(⟨#[109]⟩:jSj).size+a.size<=9223372036854775807 then if Qh (((sa.2.1).length:Int)+1) then if Wa 88 (0+(sa.2.1).length) then(Qfe n sa.2.1 (((sa.2.1).length:Int)+1) (⟨#[99,108,101,97,110]⟩) ([.v (.string ((⟨#[109]⟩:jSj)++a))]) ([I day]) (⟨#[]⟩)).bind fun b=>if b=0 then if Wa 88 ((sa.2.1).length+1) then if Qh (sa.1+1) then some (.inl ((sa.1+1),(sa.2.1++([.agg [I (((sa.2.1).length:Int)+1),.v (.string ⟨#[99,108,101,97,110]⟩),.lst false 1 [.v (.string ((⟨#[109]⟩:jSj)++a))],.lst false 1 [I day],.v (.string ⟨#[]⟩)]]:jVj)),(sa.2.2++([I sa.1]:jVj)))) else none else none else none else none else none else none else none else if Qh (sa.1+1) then some (.inl ((sa.1+1),sa.2.1,sa.2.2)) else none else none else some (.inr (sa.2.1,sa.2.2))
theorem Qs6 {n:Nat}(i:1700<=n){lv lt day bits:Int}(s:0<=day/\day<=1000)(q:lt<=1000000000000000){K:Nat}(u:K<=5) :
  ∀(m:Nat) (a b:List Int) (l:List Ev) (k:Nat),b.length=m->a.length+m=K->m<k->l.length+m<=800->Journ n l (rg lv day lt (mirs 0 (a++b))) ->
   ∃C:List Ev,Q2 (Qt1 n (K:Int) bits day) k ((a.length:Int),l.map Zr,(Qs2 (pbit bits) a.length).map I)=some ((l++C).map Zr,(Qs2 (pbit bits) K).map I) /\
    Journ n (l++C) (rg lv day lt (mirs 0 (a++clnL (pbit bits) a.length b)))/\(∀e,e∈C->tkE e=day)/\C.length<=m
 | 0,a,b,l,k,h0,h1,hk,hl,hj=>by
  have:b=[]:=List.eq_nil_of_length_eq_zero h0;subst this;obtain⟨j,rfl⟩:∃j,k=j+1:=⟨k - 1,by omega⟩
  have A:a.length=K:=by omega
  refine⟨[],?_,by rw[List.append_nil];exact hj,fun e h=>by simp at h,jLj _⟩;rw[List.append_nil];refine JB ?_;unfold Qt1;dsimp only;rw[jFj (by omega),A]
 | m+1,a,b,l,k,h0,h1,hk,hl,hj=>by
  obtain⟨j,rfl⟩:∃j,k=j+1:=⟨k - 1,by omega⟩
  match b,h0 with
  | x::r,h0 =>
   have v:r.length=m:=by simpa using h0
   have E:=Qum (pbit bits) a.length;by_cases hp:pbit bits a.length=true
   ·have d:=of_decide_eq_true hp;rw[Qt9] at hj;obtain⟨F,y⟩:=Qu4 i hj (by omega) (by omega) rfl ⟨s.1,by omega⟩ q _ rfl;have f:Qt1 n (K:Int) bits day ((a.length:Int),l.map Zr,(Qs2 (pbit bits) a.length).map I)=some (.inl (((a.length+1:Nat):Int),(l++[evw (((l.map Zr).length:Int)+1) .clean [nmB a.length] [day]]).map Zr,(Qs2 (pbit bits) (a.length+1)).map I)):=by unfold Qt1;dsimp only;rw[jTj (by omega),jTj (Int.natCast_nonneg _),jTj d,jTj (V7 (by decide) (by rw[jlj];omega)),txt2 i (by omega),jBj,jTj (Qui _),Qux,jTj (by rw[jlj];unfold Qh;omega),jTj (V7 (by decide) (by rw[jlj];omega))];refine Eq.trans (congrArg (fun x=>Option.bind x _) F) ?_;rw[jBj,jTj rfl,jTj (V7 (by decide) (by rw[jlj];omega)),jTj (by unfold Qh;omega),Qug,jTj hp,List.map_append,List.map_append];rfl
    rw[E3 f];have p:rg lv day lt (mirs 0 a++X8 (mirA a.length x) 0::mirs (a.length+1) r)=rg lv day lt (mirs 0 ((a++[0])++r)):=by rw[<-Quo];rfl
    rw[p] at y;obtain⟨C,g,c,o,z⟩:=Qs6 i (bits:=bits) s q u m (a++[0]) r (l++[evw (((l.map Zr).length:Int)+1) .clean [nmB a.length] [day]]) j v (by simp;omega) (by omega) (by simp;omega) y;rw[jaj,List.length_singleton] at g c;refine⟨evw (((l.map Zr).length:Int)+1) .clean [nmB a.length] [day]::C,?_,?_,?_,by simp;omega⟩
    ·rw[g,List.append_assoc];rfl
    ·rw[List.append_assoc] at c;rw[List.append_assoc] at c;have:clnL (pbit bits) a.length (x::r)=0::clnL (pbit bits) (a.length+1) r:=by rw[clnL,jTj hp]
     rw[this];exact c
    ·intro e t;obtain rfl|t:=List.mem_cons.1 t
     ·rfl
     ·exact o e t
   ·have d:¬_:=fun h=>hp (jDj h);have f:Qt1 n (K:Int) bits day ((a.length:Int),l.map Zr,(Qs2 (pbit bits) a.length).map I)=some (.inl (((a.length+1:Nat):Int),l.map Zr,(Qs2 (pbit bits) (a.length+1)).map I)):=by unfold Qt1;dsimp only;rw[jTj (by omega),jTj (Int.natCast_nonneg _),jFj d,jTj (by unfold Qh;omega),Qug,jFj hp];rfl
    rw[E3 f];have p:a++x::r=(a++[x])++r:=by rw[List.append_assoc];rfl
    rw[p] at hj;obtain⟨C,g,c,o,z⟩:=Qs6 i (bits:=bits) s q u m (a++[x]) r l j v (by simp;omega) (by omega) (by omega) hj;rw[jaj,List.length_singleton] at g c;refine⟨C,g,?_,o,by omega⟩;rw[List.append_assoc] at c;have:clnL (pbit bits) a.length (x::r)=x::clnL (pbit bits) (a.length+1) r:=by rw[clnL,jFj hp]
    rw[this];exact c
def Quh (n:Nat)(ns:jVj)(u:Int)(sa:(Int×jVj)):Option (Int×jVj⊕jVj) := if sa.1<((ns).length:Int) then(el Vt ns sa.1).bind fun a=>if a<0 then none else if a>1000 then none else(KF n sa.1).bind fun b=>if(⟨#[109]⟩:jSj).size+b.size<=9223372036854775807 then if Qh (((sa.2).length:Int)+1) then if Wa 88 (0+(sa.2).length) then(Qfe n sa.2 (((sa.2).length:Int)+1) (⟨#[115,111,105,108]⟩) ([.v (.string ((⟨#[109]⟩:jSj)++b))]) ([I u,I a]) (⟨#[]⟩)).bind fun c=>if c=0 then if Wa 88 ((sa.2).length+1) then if Qh (sa.1+1) then some (.inl ((sa.1+1),(sa.2++([.agg [I (((sa.2).length:Int)+1),.v (.string ⟨#[115,111,105,108]⟩),.lst false 1 [.v (.string ((⟨#[109]⟩:jSj)++b))],.lst false 1 [I u,I a],.v (.string ⟨#[]⟩)]]:jVj)))) else none else none else none else none else none else none else some (.inr sa.2)
theorem Que {n:Nat}(g:1700<=n){lv t lt u x y:Int}{a r new:List Int}{l:List Ev}(f:Journ n l (rg lv t lt (mirs 0 (a++x::r))))(o:l.length<=800)(c:a.length<5)(k:0<=y/\y<=1000)
  (h:t<=u/\0<=u/\u<=1000) (d:lt+UR lv (mirs 0 (a++x::r))*(u - t)<=1000000000000000) (b:new[a.length]?=some y) :
  ∃e:Ev,Quh n (new.map I) u ((a.length:Int),l.map Zr)=some (.inl (((a.length+1:Nat):Int),(l++[e]).map Zr))/\Journ n (l++[e]) (rg lv u (lt+UR lv (mirs 0 (a++x::r))*(u - t)) (mirs 0 ((a++[y])++r)))/\tkE e=u:=by
 rw[Qt9] at f d ⊢;obtain⟨m,i⟩:=QuK g f (by omega) c rfl ⟨h.1,h.2.1,by omega⟩ k d _ rfl;refine⟨evw (((l.map Zr).length:Int)+1) .soil [nmB a.length] [u,y],?_,?_,rfl⟩;rotate_left
 ·have j:X8 (mirA a.length x) y=mirA a.length y:=rfl;rw[j,Quo a y r] at i;exact i
 ·unfold Quh;dsimp only;rw[jTj (ZD b),EM b,jBj,jFj (by omega),jFj (by omega),txt2 g c,jBj,jTj (Qui _),Qux,jTj (by rw[jlj];unfold Qh;omega),jTj (V7 (by decide) (by rw[jlj];omega))];refine Eq.trans (congrArg (fun x=>Option.bind x _) m) ?_;rw[jBj,jTj rfl,jTj (V7 (by decide) (by rw[jlj];omega)),jTj (by unfold Qh;omega),List.map_append];rfl
theorem Quf {n:Nat}(o:1700<=n){lv lt u:Int}(d:0<=u/\u<=1000)(v:lt<=1000000000000000) :
  ∀(m:Nat) (a old new:List Int) (l:List Ev) (k:Nat),old.length=m->new.length=m->a.length+m<=5->m<k->l.length+m<=800->(∀y,y∈new->0<=y/\y<=1000)->Journ n l (rg lv u lt (mirs 0 (a++old))) ->
   ∃S:List Ev,Q2 (Quh n ((a++new).map I) u) k ((a.length:Int),l.map Zr)=some ((l++S).map Zr) /\
    Journ n (l++S) (rg lv u lt (mirs 0 (a++new)))/\(∀e,e∈S->tkE e=u)/\S.length=m
 | 0,a,old,new,l,k,h0,h1,h2,hk,hl,hy,hj=>by
  have:old=[]:=List.eq_nil_of_length_eq_zero h0;subst this;have:new=[]:=List.eq_nil_of_length_eq_zero h1;subst this;obtain⟨j,rfl⟩:∃j,k=j+1:=⟨k - 1,by omega⟩
  refine⟨[],?_,by rw[List.append_nil];exact hj,fun e h=>by simp at h,rfl⟩;refine JB ?_;unfold Quh;dsimp only;rw[jFj (by simp),List.append_nil]
 | m+1,a,old,new,l,k,h0,h1,h2,hk,hl,hy,hj=>by
  obtain⟨j,rfl⟩:∃j,k=j+1:=⟨k - 1,by omega⟩
  match old,new,h0,h1 with
  | x::r,y::r',h0,h1 =>
   have A:r.length=m:=by simpa using h0
   have c : r'.length=m:=by simpa using h1
   have b:UR lv (mirs 0 (a++x::r))*(u - u)=0:=by rw[Int.sub_self,Int.mul_zero]
   obtain⟨e,s,i,t⟩:=Que o (new:=a++y::r') hj (by omega) (by omega) (hy y jMj) ⟨Int.le_refl u,d.1,d.2⟩ (by rw[b];omega) (by simp);rw[E3 s];rw[b,Int.add_zero] at i;obtain⟨S,f,g,p,q⟩:=Quf o d v m (a++[y]) r r' (l++[e]) j A c (by simp;omega) (by omega) (by simp;omega) (fun y h=>hy y (jmj _ h)) i;rw[jaj,List.length_singleton] at f;refine⟨e::S,?_,?_,?_,by simp[q]⟩
   ·have:a++y::r'=(a++[y])++r':=by rw[List.append_assoc];rfl
    rw[this,f,List.append_assoc];rfl
   ·rw[List.append_assoc,List.append_assoc] at g;exact g
   ·intro z b;obtain rfl|b:=List.mem_cons.1 b
    ·exact t
    ·exact p z b
theorem QtL {n:Nat}(k:1700<=n){lv lt t:Int}(H:0<=t/\t<=900){old new:List Int}{l:List Ev}(i:old≠[])(d:new.length=old.length)(C:old.length<=5)(F:l.length+old.length<=800)(o:∀y,y∈new->0<=y/\y<=1000)
  (j:lt+UR lv (mirs 0 old)<=1000000000000000) (E:Journ n l (rg lv t lt (mirs 0 old))) :
  ∃S:List Ev,Q2 (Quh n (new.map I) (t+1)) n (0,l.map Zr)=some ((l++S).map Zr)/\Journ n (l++S) (rg lv (t+1) (lt+UR lv (mirs 0 old)) (mirs 0 new))/\(∀e,e∈S->tkE e=t+1)/\S.length=old.length:=by
 match old,new,i,d with
 | x::r,y::r',i,d =>
  have G:r'.length=r.length:=by simpa using d
  rw[List.length_cons] at C F;have b:UR lv (mirs 0 ([]++x::r))*(t+1 - t)=UR lv (mirs 0 (x::r)):=by rw[show t+1 - t=1 by omega,Int.mul_one];rfl
  obtain⟨e,v,g,A⟩:=Que k (a:=[]) (x:=x) (r:=r) (y:=y) (new:=y::r') (u:=t+1) E (by omega) (by decide) (o y jMj) ⟨by omega,by omega,by omega⟩ (by rw[b];exact j) rfl;obtain⟨m,rfl⟩:∃m,n=m+1:=⟨n - 1,by omega⟩
  rw[b] at g;obtain⟨S,p,f,q,s⟩:=Quf k (u:=t+1) ⟨by omega,by omega⟩ j r.length [y] r r' (l++[e]) m rfl G (by simp;omega) (by omega) (by simp;omega) (fun y h=>o y (jmj _ h)) g;refine⟨e::S,?_,?_,?_,by simp[s]⟩
  ·have c : Quh (m+1) ((y::r').map I) (t+1) (0,l.map Zr)=some (.inl ((([y]:List Int).length:Int),(l++[e]).map Zr)):=v;rw[E3 c];refine Eq.trans p ?_;rw[List.append_assoc];rfl
  ·rw[List.append_assoc] at f;exact f
  ·intro z b;obtain rfl|b:=List.mem_cons.1 b
   ·exact A
   ·exact q z b
theorem QuY {n:Nat}(m:1700<=n){a1 a2 a3 a4 a5 a6 a7 lv x:Int}{a r:List Int}{l:List Ev}(C:Journ n l (rg lv 0 0 (mirs 0 a)))(P:l.length<=700)(k:a.length<5)(F:0<=x/\x<=255) :
  ∃M:List Ev,Qsz n ((a++x::r).map QsM) a1 a2 a3 a4 a5 a6 a7 ((a.length:Int),l.map Zr,a.map I)=some (.inl (((a.length+1:Nat):Int),(l++M).map Zr,(a++[x]).map I)) /\
   Journ n (l++M) (rg lv 0 0 (mirs 0 (a++[x])))/\(∀e,e∈M->tkE e=0)/\M.length=3:=by
 have i:(a++x::r)[a.length]?=some x:=by simp
 have E:IntKind.wrap .i64 x=x:=wc (by unfold Qh;omega);obtain⟨b,d⟩:∃e,e=evw (((l.map Zr).length:Int)+1) .mirror [nmB a.length,sN] [0,1]:=⟨_,rfl⟩
 obtain⟨t,G⟩:=QuO m C (by omega) k b d;obtain⟨c,f⟩:∃e,e=evw ((((l++[b]).map Zr).length:Int)+1) .soil [nmB a.length] [0,x]:=⟨_,rfl⟩
 have A:UR lv (mirs 0 a++[(nmB a.length,sN,1,0,false,false)])*(0 - 0)=0:=by rw[Int.sub_self,Int.mul_zero]
 obtain⟨y,s⟩:=QuK m G (by simp;omega) k rfl (x:=x) (u:=0) (by decide) ⟨F.1,by omega⟩ (by rw[A];decide) c f;rw[A] at s;obtain⟨h,g⟩:∃e,e=evw ((((l++[b]++[c]).map Zr).length:Int)+1) .aim [nmB a.length] [0]:=⟨_,rfl⟩
 obtain⟨z,H⟩:=Qvq m s (by simp;omega) k rfl (by decide) (by decide) rfl rfl h g;have J:tkE b=0:=by rw[d];rfl
 have K:tkE c=0:=by rw[f];rfl
 have L:tkE h=0:=by rw[g];rfl
 refine⟨[b,c,h],?_,?_,?_,rfl⟩
 ·have o:(l.map Zr++([.agg [I (((l.map Zr).length:Int)+1),.v (.string ⟨#[109,105,114,114,111,114]⟩),.lst false 1 [.v (.string (nmB a.length)),.v (.string ⟨#[110]⟩)],.lst false 1 [I 0,I 1],.v (.string ⟨#[]⟩)]]:jVj))=(l++[b]).map Zr:=by rw[List.map_append,d];rfl
  have p:((l++[b]).map Zr++([.agg [I ((((l++[b]).map Zr).length:Int)+1),.v (.string ⟨#[115,111,105,108]⟩),.lst false 1 [.v (.string (nmB a.length))],.lst false 1 [I 0,I x],.v (.string ⟨#[]⟩)]]:jVj))=(l++[b]++[c]).map Zr:=by rw[List.map_append (l₁:=l++[b]),f];rfl
  have q:((l++[b]++[c]).map Zr++([.agg [I ((((l++[b]++[c]).map Zr).length:Int)+1),.v (.string ⟨#[97,105,109]⟩),.lst false 1 [.v (.string (nmB a.length))],.lst false 1 [I 0],.v (.string ⟨#[]⟩)]]:jVj))=(l++[b,c,h]).map Zr:=by
   have:l++[b,c,h]=l++[b]++[c]++[h]:=by simp
   rw[this,List.map_append (l₁:=l++[b]++[c]),g];rfl
  have b1:((l++[b]).map Zr).length<=800:=by simp;omega
  have N:((l++[b]++[c]).map Zr).length<=800:=by simp;omega
  have b0:(l.map Zr).length<=800:=by simp;omega
  have O:(a.map I).length<=800:=by simp;omega
  unfold Qsz;dsimp only;rw[jTj (ZD i),Xr (un:=Quv) (enc:=QsM) (fun _=>rfl) i,jBj,txt2 m k,jBj,jTj (Qui _),Qux,E,o,p,q];rw[jTj (by unfold Qh;omega),jTj (V7 (by decide) (by omega))];rw[d] at t;refine Eq.trans (congrArg (fun x=>Option.bind x _) t) ?_;rw[jBj,jTj rfl,jTj (V7 (by decide) (by omega)),jTj (by unfold Qh;omega),jTj (V7 (by decide) (by omega))];rw[f] at y;refine Eq.trans (congrArg (fun x=>Option.bind x _) y) ?_;rw[jBj,jTj rfl,jTj (V7 (by decide) (by omega)),jTj (by unfold Qh;omega),jTj (V7 (by decide) (by omega))];rw[g] at z;refine Eq.trans (congrArg (fun x=>Option.bind x _) z) ?_;rw[jBj,jTj rfl,jTj (V7 (by decide) (by omega)),jTj (V7 (by decide) (by omega)),jTj (by unfold Qh;omega),List.map_append (l₁:=a)];rfl
 ·have e:l++[b,c,h]=l++[b]++[c]++[h]:=by simp
  rw[e,Qt9 a x []];exact H
 ·intro e j;obtain rfl|j:=List.mem_cons.1 j
  ·exact J
  obtain rfl|j:=List.mem_cons.1 j
  ·exact K
  ·rw[List.mem_singleton.1 j];exact L
theorem Qur {n:Nat}(o:1700<=n){a1 a2 a3 a4 a5 a6 a7 lv:Int}(c:List Int)(p:∀x,x∈c->0<=x/\x<=255)(u:c.length<=5) :
  ∀(m:Nat) (a b:List Int) (l:List Ev) (k:Nat),c=a++b->b.length=m->m<k->l.length+3*m<=700->Journ n l (rg lv 0 0 (mirs 0 a)) ->
   ∃M:List Ev,Q2 (Qsz n (c.map QsM) a1 a2 a3 a4 a5 a6 a7) k ((a.length:Int),l.map Zr,a.map I)=some ((l++M).map Zr,c.map I) /\
    Journ n (l++M) (rg lv 0 0 (mirs 0 c))/\(∀e,e∈M->tkE e=0)/\M.length=3*m
 | 0,a,b,l,k,h0,h1,hk,hl,hj=>by
  have:b=[]:=List.eq_nil_of_length_eq_zero h1;subst this;rw[List.append_nil] at h0;subst h0;obtain⟨j,rfl⟩:∃j,k=j+1:=⟨k - 1,by omega⟩
  refine⟨[],?_,by rw[List.append_nil];exact hj,fun e h=>by simp at h,rfl⟩;refine JB ?_;unfold Qsz;dsimp only;rw[jFj (by simp),List.append_nil]
 | m+1,a,b,l,k,h0,h1,hk,hl,hj=>by
  obtain⟨j,rfl⟩:∃j,k=j+1:=⟨k - 1,by omega⟩
  match b,h1 with
  | x::r,h1 =>
   have i:c.length=a.length+(r.length+1):=by rw[h0];simp
   obtain⟨M,d,q,s,y⟩:=QuY o (a1:=a1) (a2:=a2) (a3:=a3) (a4:=a4) (a5:=a5) (a6:=a6) (a7:=a7) (r:=r) (x:=x) hj (by omega) (by omega) (p x (by rw[h0];simp));rw[<-h0] at d;rw[E3 d];obtain⟨M',f,g,t,z⟩:=Qur o (a1:=a1) (a2:=a2) (a3:=a3) (a4:=a4) (a5:=a5) (a6:=a6) (a7:=a7) c p u m (a++[x]) r (l++M) j (by rw[h0,List.append_assoc];rfl) (by simpa using h1) (by omega) (by rw[jaj];omega) q;rw[jaj,List.length_singleton,List.append_assoc] at f;rw[List.append_assoc] at g;refine⟨M++M',f,g,?_,by rw[jaj];omega⟩;intro e v;obtain h|h:=List.mem_append.1 v
   ·exact s e h
   ·exact t e h
theorem Qtl (lv:Int)(p:Nat->Bool):∀(l:List Int) (i:Nat),UR lv (mirs i (clnL p i l))=lv*(1000*(l.length:Int) - Qs7 p i l)
 | [],i=>by simp[UR,mirs,clnL,Qs7]
 | x::l,i=>by
  rw[clnL,mirs,UR,Qtl lv p l (i+1),Qs7];have:yh lv (mirA i (if p i=true then 0 else x))=lv*(1000 - (if p i=true then 0 else x)):=by unfold yh;rw[jTj (show isA (mirA i (if p i=true then 0 else x))=true from rfl)];show 1*(1000 - (if p i=true then 0 else x))*lv=_;rw[Int.one_mul,Int.mul_comm]
  rw[this,<-Int.mul_add,List.length_cons];congr 1
  push_cast
  omega
theorem Qtm (p:Nat->Bool):∀(l:List Int) (i:Nat),(∀x,x∈l->0<=x/\x<=1000)->0<=Qs7 p i l/\Qs7 p i l<=1000*(l.length:Int)
 | [],i,_=>by simp[Qs7]
 | x::l,i,h=>by
  have b:=h x jMj;have c:=Qtm p l (i+1) fun y a=>h y (jmj _ a);rw[Qs7,List.length_cons];have d:0<=(if p i=true then 0 else x)/\(if p i=true then 0 else x)<=1000:=by split<;>omega
  push_cast
  omega
theorem QtO (wz b:Int)(d:0<=wz/\wz<=100)(c:0<=b)(p:Nat->Bool):∀(l:List Int) (i:Nat),(∀x,x∈l->0<=x/\x<=b)->∀x,x∈nxtL wz p i l->0<=x/\x<=b+100
 | [],i,_,x,a=>by simp[nxtL] at a
 | y::l,i,h,x,a=>by
  rw[nxtL] at a;obtain rfl|a:=List.mem_cons.1 a
  ·have f:=h y jMj;unfold nxt;split<;>omega
  ·exact QtO wz b d c p l (i+1) (fun z e=>h z (jmj _ e)) x a
theorem Qto {n:Nat}(d:1700<=n){l:List Ev}{lv t lt:Int}{ms:List Mir}(h:Journ n l (rg lv t lt ms))(c:l.length<=900)(u:Int)(e:u=t+1)(f:0<=t/\t<=900)(b:lt+UR lv ms<=1000000000000000) :
  Yh n (l.map Zr) u=some (lt+UR lv ms,lt+UR lv ms,0):=by
 subst e;have a:UR lv ms*(t+1 - t)=UR lv ms:=by rw[show t+1 - t=1 by omega,Int.mul_one]
 have q:=QuN d h c (t:=t+1) ⟨by show t<=t+1;omega,by omega,by omega⟩ (Quu (by rw[a];exact b));rw[q];show some (lt+UR lv ms*(t+1 - t),lt+UR lv ms*(t+1 - t),(0:Int))=_;rw[a]
theorem QtQ {n:Nat}(k:1700<=n){l:List Ev}{r:Reg}(h:Journ n l r)(j:l.length<=900){t:Int}(m:0<=t/\t<=900){a b:List Ev}{lv lt:Int}{ms:List Mir}(c:l=a++b)(g:Journ n a (rg lv t lt ms))(d:∀e,e∈a->tkE e<=t)(f:∀e,e∈b->t<tkE e) :
  Qfm n (l.map Zr) t=some (Vc (rg lv t lt ms) 0):=Qu8 k h j ⟨m.1,by omega⟩ c g d fun e i=>f e (jgj i)
theorem Qs8 {a:List Int}(h:1<=a.length):a≠[]:=by intro e;rw[e] at h;simp at h
theorem Qul {a b:Int}(h:a=b):((a==b)&&((a==b)&&true))=true:=by rw[h];simp
theorem Qup:∀(s:List Int) (j i:Nat) (x:Int),s[i]?=some x->(mirs j s)[i]?=some (mirA (j+i) x)
 | [],j,i,x,h=>by simp at h
 | y::s,j,0,x,h=>by simp only[jzj,jIj] at h;subst h;rfl
 | y::s,j,i+1,x,h=>by rw[mirs,List.getElem?_cons_succ,Qup s (j+1) i x (by simpa using h),show j+1+i=j+(i+1) by omega]
def gFin (ms c:jVj)(sa:Int):Option (Int⊕Unit) := if sa<((ms).length:Int) then(el QM ms sa).bind fun a=>(el Vt c sa).bind fun b=>if a.2.2.2.1=b then if a.2.2.2.2.2=true then if Qh (sa+1) then some (.inl (sa+1)) else none else none else none else some (.inr ())
theorem Qu3 {n:Nat}(s:List Int)(h:s.length<=5)(d:5<n):Q2 (gFin ((mirs 0 s).map QY) (s.map I)) n 0=some ():=by
 have q:=ZK (step:=gFin ((mirs 0 s).map QY) (s.map I)) (E:=Unit) (fun(_:Unit) (_:Int)=>.inl ()) (fun _=>()) (fun i _=>(i:Int)) s (fun _ _=>True)
  (fun i _ x a _=>by have c:=(jGj a).1;have b:=Qup s 0 i x a;refine⟨?_,trivial⟩;unfold gFin;rw[jTj (ZD b),Xr (un:=QM) (enc:=QY) unM b,jBj,EM a,jBj,jTj (show(mirA (0+i) x).2.2.2.1=x from rfl),jTj (show(mirA (0+i) x).2.2.2.2.2=true from rfl),jTj (by unfold Qh;omega)];rfl)
  (fun _ _=>by unfold gFin;rw[jFj (by rw[jlj,Qta];omega)]) (s:=()) (k:=n) trivial (by omega)
 have e:∀l:List Int,Y6 (E:=Unit) (fun(_:Unit) (_:Int)=>.inl ()) (fun _=>()) l ()=():=by
  intro l;induction l with
  | nil=>rfl
  | cons x l ih=>exact ih
 rw[e] at q;exact q
theorem QsB {a b:List Ev}{t:Int}(c:∀e,e∈a->tkE e<=t)(d:∀e,e∈b->tkE e<=t):∀e,e∈a++b->tkE e<=t:=fun e f=>(List.mem_append.1 f).elim (c e) (d e)
theorem QsE {a:List Ev}{u t:Int}(b:∀e,e∈a->tkE e=u)(h:u<=t):∀e,e∈a->tkE e<=t:=fun e c=>by rw[b e c];exact h
theorem QsT {a b:List Ev}{t:Int}(c:∀e,e∈a->t<tkE e)(d:∀e,e∈b->t<tkE e):∀e,e∈a++b->t<tkE e:=fun e f=>(List.mem_append.1 f).elim (c e) (d e)
theorem Qs3 {a:List Ev}{u t:Int}(b:∀e,e∈a->tkE e=u)(h:t<u):∀e,e∈a->t<tkE e:=fun e c=>by rw[b e c];exact h
theorem Qvp {t:Int}:∀e:Ev,e∈([]:List Ev)->t<tkE e:=fun e a=>by simp at a
theorem Qvr:QsL 5000=some true:=by kernel_rfl
theorem Qu0 {n:Nat}(c:1700<=n){lv:Int}(h:1<=lv/\lv<=20) :
  Qfe n ([]) 1 (⟨#[115,101,99,116,111,114]⟩) ([.v (.string ⟨#[110]⟩)]) ([I 0]) (⟨#[]⟩)=some 0 /\
  Qfe n ([evw 1 .sector [sN] [0]].map Zr) 2 (⟨#[102,105,108,108]⟩) ([]) ([I 0]) (⟨#[]⟩)=some 0 /\
  Qfe n ([evw 1 .sector [sN] [0],evw 2 .fill [] [0]].map Zr) 3 (⟨#[115,117,110]⟩) ([]) ([I 0,I lv]) (⟨#[]⟩)=some 0 /\
  Journ n [evw 1 .sector [sN] [0],evw 2 .fill [] [0],evw 3 .sun [] [0,lv]] (rg lv 0 0 []):=by
 have d:Good (evw 1 .sector [sN] [0]) .sector:=Qtc (by decide) rfl rfl (fun s b=>by rw[List.mem_singleton.1 b];exact Qve) (fun v a=>by rw[List.mem_singleton.1 a];decide);have e:Good (evw 2 .fill [] [0]) .fill:=Qtc (by decide) rfl rfl (fun s b=>by simp at b) (fun v a=>by rw[List.mem_singleton.1 a];decide);have f:Good (evw 3 .sun [] [0,lv]) .sun:=Qtc (by decide) rfl rfl (fun s b=>by simp at b) (fun v a=>by
  obtain rfl|a:=List.mem_cons.1 a
  ·decide
  ·rw[List.mem_singleton.1 a];omega)
 obtain⟨k,g⟩:=QtT c (Qvl n) (by decide) (by decide) d rfl (by decide);obtain⟨l,i⟩:=QtT c g (by decide) (by decide) e rfl (by decide);obtain⟨m,j⟩:=QtT c i (by decide) (by decide) f rfl (by refine Qua (Int.le_refl 0) (show Zk (⟨0,0,true,false,0,0,0,[sN],[],[]⟩:Reg) 0=0 from by decide) rfl ?_;show inR lv 0 1000=0;exact QaH (by omega) (by omega))
 exact⟨k,l,m,j⟩
set_option maxHeartbeats 8000000 in
theorem QtS (d : List Int) (hs : ∀ x, x ∈ d → 0 ≤ x ∧ x ≤ 255) (a1 a2 a3 a4 a5 a6 a7 : Int) (h1 : 0 ≤ a1 ∧ a1 ≤ 255) (h2 : 0 ≤ a2 ∧ a2 ≤ 255) : QsP 5000 (d.map QsM) a1 a2 a3 a4 a5 a6 a7 = some true := by
 have i : 1700 ≤ 5000 := by decide
 generalize hN : (5000 : Nat) = n at i
 have g1 : QsL n = some true := by rw [← hN]; exact Qvr
 have n8 : 5 < n := by omega
 clear hN
 unfold QsP
 rw [g1]
 have w1 : IntKind.wrap .i64 a1 = a1 := wc (by unfold Qh; omega)
 have w2 : IntKind.wrap .i64 a2 = a2 := wc (by unfold Qh; omega)
 rw [w1, w2]
 have u : 0 ≤ Int.tmod a1 101 ∧ Int.tmod a1 101 ≤ 100 := by rw [Int.tmod_eq_emod_of_nonneg h1.1]; omega
 have k8 : 1 ≤ 1 + Int.tmod a2 20 ∧ 1 + Int.tmod a2 20 ≤ 20 := by rw [Int.tmod_eq_emod_of_nonneg h2.1]; omega
 generalize Int.tmod a1 101 = wz at u
 generalize 1 + Int.tmod a2 20 = lv at k8
 by_cases z : (((d.map QsM).length : Nat) : Int) < 1
 ·rw [jTj z]; rfl
 rw [jFj z]
 by_cases f9 : (((d.map QsM).length : Nat) : Int) > 5
 ·rw [jTj f9]; rfl
 rw [jFj f9, jTj (show Qh lv by unfold Qh; omega)]
 obtain ⟨K, f⟩ : ∃ K, (d.map QsM).length = K := ⟨_, rfl⟩
 have n5 : d.length = K := by rw [← f, jlj]
 rw [f] at z f9
 obtain ⟨s1, s2, s3, j0⟩ := Qu0 i k8
 refine Eq.trans (congrArg (fun x => Option.bind x _) s1) ?_
 rw [jBj, jTj rfl]
 refine Eq.trans (congrArg (fun x => Option.bind x _) s2) ?_
 rw [jBj, jTj rfl]
 refine Eq.trans (congrArg (fun x => Option.bind x _) s3) ?_
 rw [jBj, jTj rfl]
 obtain ⟨M, m1, m2, m3, m4⟩ := Qur i (a1 := a1) (a2 := a2) (a3 := a3) (a4 := a4) (a5 := a5) (a6 := a6) (a7 := a7) d hs (by omega) d.length [] d _ n rfl rfl (by omega) (by show 3 + 3 * d.length ≤ 700; omega) j0
 refine Eq.trans (congrArg (fun x => Option.bind x _) m1) ?_
 rw [jBj]
 dsimp only
 generalize j1 : [evw 1 Ki.sector [sN] [0], evw 2 Ki.fill [] [0], evw 3 Ki.sun [] [0, lv]] ++ M = l0 at *
 have n6 : l0.length ≤ 18 := by rw [← j1, jaj, m4]; show 3 + _ ≤ _; omega
 have X : ∀ e, e ∈ l0 → tkE e = 0 := by
  intro e he
  rw [← j1] at he
  rcases List.mem_append.1 he with h | h
  ·rcases List.mem_cons.1 h with rfl | h
   ·rfl
   rcases List.mem_cons.1 h with rfl | h
   ·rfl
   ·rw [List.mem_singleton.1 h]; rfl
  ·exact m3 e h
 have f4 : ∀ x, x ∈ d → 0 ≤ x ∧ x ≤ 255 := hs
 have j7 : d ≠ [] := Qs8 (by omega)
 -- day 0
 have k : d.length = K := n5
 have f5 : ∀ x, x ∈ d → 0 ≤ x ∧ x ≤ 1000 := fun x H => ⟨(f4 x H).1, by have := (f4 x H).2; omega⟩
 obtain ⟨C0, h4, c5, L, m5⟩ := Qs6 i (bits := a3) (day := 0) (lt := (0 : Int)) (by decide) (by omega) (K := (d.map QsM).length) (by omega) (d.map QsM).length [] d l0 n (by omega) (by simp) (by omega) (by omega) m2
 refine Eq.trans (congrArg (fun x => Option.bind x _) h4) ?_
 rw [jBj]
 dsimp only
 refine Eq.trans (jTj (V7 (by decide) (by rw [jlj]; omega))) ?_
 have g2 := Qtj i u (pbit a3) d j7 (by omega) f5
 rw [k, ← f] at g2
 refine Eq.trans (congrArg (fun x => Option.bind x _) g2) ?_
 rw [jBj]
 dsimp only
 have j2 := Qtm (pbit a3) d 0 f5
 have c0 := Qtl lv (pbit a3) d 0
 rw [k] at j2 c0
 have e4 : (nxtL wz (pbit a3) 0 d).length = K := by rw [QtN]; exact k
 have b6 := QtO wz 255 u (by decide) (pbit a3) d 0 f4
 generalize k2 : nxtL wz (pbit a3) 0 d = s_1 at *
 have j8 : s_1 ≠ [] := Qs8 (by omega)
 generalize Qs7 (pbit a3) 0 d = lo0 at *
 refine Eq.trans (jTj rfl) ?_
 refine Eq.trans (jTj (by rw [jlj, jlj, e4, k])) ?_
 refine Eq.trans (jTj (by unfold Qh; omega)) ?_
 rw [List.nil_append] at c5
 generalize A : mirs 0 (clnL (pbit a3) 0 d) = ms0 at *
 have i4 : (clnL (pbit a3) 0 d).length = K := by rw [QtP]; exact k
 have b2 : (0 : Int) + UR lv ms0 = lv * (1 * (K : Int) * 1000 - (0 + lo0)) := by
  rw [c0, Int.zero_add]
  congr 1
  omega
 have o0 := wF (g := lv) (p := 20) (c := 1 * (K : Int) * 1000 - (0 + lo0)) (q := 25000) ⟨by omega, by omega⟩ ⟨by omega, by omega⟩
 have g7 := Qto i c5 (by rw [jaj]; omega) 1 (by decide) (by decide) (by rw [b2]; omega)
 refine Eq.trans (congrArg (fun x => Option.bind x _) g7) ?_
 rw [jBj]
 dsimp only
 refine Eq.trans (jTj rfl) ?_
 refine Eq.trans (jTj (by rw [f]; unfold Qh; omega)) ?_
 refine Eq.trans (jTj (by rw [f]; unfold Qh; omega)) ?_
 refine Eq.trans (jTj (by rw [f]; unfold Qh; omega)) ?_
 refine Eq.trans (jTj (by rw [f]; exact ⟨by omega, by omega⟩)) ?_
 refine Eq.trans (jTj (by rw [f]; exact Qul b2)) ?_
 obtain ⟨S0, e9, d0, S, n0⟩ := QtL i (lv := lv) (lt := (0 : Int)) (t := 0) (by decide) (old := clnL (pbit a3) 0 d) (new := s_1) (l := l0 ++ C0) (Qs8 (by omega)) (by omega) (by omega) (by rw [jaj]; omega) (fun y J => ⟨(b6 y J).1, by have := (b6 y J).2; omega⟩) (by rw [A, b2]; omega) (by rw [A]; exact c5)
 rw [A] at d0
 refine Eq.trans (congrArg (fun x => Option.bind x _) e9) ?_
 rw [jBj]
 obtain ⟨d5, d9⟩ : ∃ y, y = (0 : Int) + UR lv ms0 := ⟨_, rfl⟩
 rw [← d9] at d0 b2 ⊢
 have h9 : (l0 ++ C0 ++ S0).length ≤ 28 := by rw [jaj, jaj]; omega
 generalize Y : l0 ++ C0 ++ S0 = l1 at e9 d0 h9 ⊢
 clear h4 g2 g7 e9 c0 i4 A k2 d9 f5 m5 n0 n6
 -- day 1
 have m : s_1.length = K := e4
 have z : ∀ x, x ∈ s_1 → 0 ≤ x ∧ x ≤ 1000 := fun x H => ⟨(b6 x H).1, by have := (b6 x H).2; omega⟩
 obtain ⟨C1, h5, c6, N, m6⟩ := Qs6 i (bits := a4) (day := 1) (lt := d5) (by decide) (by omega) (K := (d.map QsM).length) (by omega) (d.map QsM).length [] s_1 l1 n (by omega) (by simp) (by omega) (by omega) d0
 refine Eq.trans (congrArg (fun x => Option.bind x _) h5) ?_
 rw [jBj]
 dsimp only
 refine Eq.trans (jTj (V7 (by decide) (by rw [jlj]; omega))) ?_
 have g3 := Qtj i u (pbit a4) s_1 j8 (by omega) z
 rw [m, ← f] at g3
 refine Eq.trans (congrArg (fun x => Option.bind x _) g3) ?_
 rw [jBj]
 dsimp only
 have j3 := Qtm (pbit a4) s_1 0 z
 have c1 := Qtl lv (pbit a4) s_1 0
 rw [m] at j3 c1
 have e5 : (nxtL wz (pbit a4) 0 s_1).length = K := by rw [QtN]; exact m
 have b7 := QtO wz 355 u (by decide) (pbit a4) s_1 0 b6
 generalize k3 : nxtL wz (pbit a4) 0 s_1 = s_2 at *
 have j9 : s_2 ≠ [] := Qs8 (by omega)
 generalize Qs7 (pbit a4) 0 s_1 = lo1 at *
 refine Eq.trans (jTj rfl) ?_
 refine Eq.trans (jTj (by rw [jlj, jlj, e5, m])) ?_
 refine Eq.trans (jTj (by unfold Qh; omega)) ?_
 rw [List.nil_append] at c6
 generalize C : mirs 0 (clnL (pbit a4) 0 s_1) = ms1 at *
 have i5 : (clnL (pbit a4) 0 s_1).length = K := by rw [QtP]; exact m
 have b3 : d5 + UR lv ms1 = lv * (2 * (K : Int) * 1000 - ((0 + lo0) + lo1)) := by
  rw [c1, b2, ← Int.mul_add]
  congr 1
  omega
 have o1 := wF (g := lv) (p := 20) (c := 2 * (K : Int) * 1000 - ((0 + lo0) + lo1)) (q := 25000) ⟨by omega, by omega⟩ ⟨by omega, by omega⟩
 have g8 := Qto i c6 (by rw [jaj]; omega) 2 (by decide) (by decide) (by rw [b3]; omega)
 refine Eq.trans (congrArg (fun x => Option.bind x _) g8) ?_
 rw [jBj]
 dsimp only
 refine Eq.trans (jTj rfl) ?_
 refine Eq.trans (jTj (by rw [f]; unfold Qh; omega)) ?_
 refine Eq.trans (jTj (by rw [f]; unfold Qh; omega)) ?_
 refine Eq.trans (jTj (by rw [f]; unfold Qh; omega)) ?_
 refine Eq.trans (jTj (by rw [f]; exact ⟨by omega, by omega⟩)) ?_
 refine Eq.trans (jTj (by rw [f]; exact Qul b3)) ?_
 obtain ⟨S1, f0, d1, T, n1⟩ := QtL i (lv := lv) (lt := d5) (t := 1) (by decide) (old := clnL (pbit a4) 0 s_1) (new := s_2) (l := l1 ++ C1) (Qs8 (by omega)) (by omega) (by omega) (by rw [jaj]; omega) (fun y J => ⟨(b7 y J).1, by have := (b7 y J).2; omega⟩) (by rw [C, b3]; omega) (by rw [C]; exact c6)
 rw [C] at d1
 refine Eq.trans (congrArg (fun x => Option.bind x _) f0) ?_
 rw [jBj]
 obtain ⟨d6, e0⟩ : ∃ y, y = d5 + UR lv ms1 := ⟨_, rfl⟩
 rw [← e0] at d1 b3 ⊢
 have i0 : (l1 ++ C1 ++ S1).length ≤ 38 := by rw [jaj, jaj]; omega
 generalize Z : l1 ++ C1 ++ S1 = l2 at f0 d1 i0 ⊢
 clear h5 g3 g8 f0 c1 i5 C k3 e0 z m6 n1 h9
 -- day 2
 have o : s_2.length = K := e5
 have f6 : ∀ x, x ∈ s_2 → 0 ≤ x ∧ x ≤ 1000 := fun x H => ⟨(b7 x H).1, by have := (b7 x H).2; omega⟩
 obtain ⟨C2, h6, c7, O, m7⟩ := Qs6 i (bits := a5) (day := 2) (lt := d6) (by decide) (by omega) (K := (d.map QsM).length) (by omega) (d.map QsM).length [] s_2 l2 n (by omega) (by simp) (by omega) (by omega) d1
 refine Eq.trans (congrArg (fun x => Option.bind x _) h6) ?_
 rw [jBj]
 dsimp only
 refine Eq.trans (jTj (V7 (by decide) (by rw [jlj]; omega))) ?_
 have g4 := Qtj i u (pbit a5) s_2 j9 (by omega) f6
 rw [o, ← f] at g4
 refine Eq.trans (congrArg (fun x => Option.bind x _) g4) ?_
 rw [jBj]
 dsimp only
 have j4 := Qtm (pbit a5) s_2 0 f6
 have c2 := Qtl lv (pbit a5) s_2 0
 rw [o] at j4 c2
 have e6 : (nxtL wz (pbit a5) 0 s_2).length = K := by rw [QtN]; exact o
 have b8 := QtO wz 455 u (by decide) (pbit a5) s_2 0 b7
 generalize k4 : nxtL wz (pbit a5) 0 s_2 = s_3 at *
 have k0 : s_3 ≠ [] := Qs8 (by omega)
 generalize Qs7 (pbit a5) 0 s_2 = lo2 at *
 refine Eq.trans (jTj rfl) ?_
 refine Eq.trans (jTj (by rw [jlj, jlj, e6, o])) ?_
 refine Eq.trans (jTj (by unfold Qh; omega)) ?_
 rw [List.nil_append] at c7
 generalize E : mirs 0 (clnL (pbit a5) 0 s_2) = ms2 at *
 have i6 : (clnL (pbit a5) 0 s_2).length = K := by rw [QtP]; exact o
 have b4 : d6 + UR lv ms2 = lv * (3 * (K : Int) * 1000 - (((0 + lo0) + lo1) + lo2)) := by
  rw [c2, b3, ← Int.mul_add]
  congr 1
  omega
 have o2 := wF (g := lv) (p := 20) (c := 3 * (K : Int) * 1000 - (((0 + lo0) + lo1) + lo2)) (q := 25000) ⟨by omega, by omega⟩ ⟨by omega, by omega⟩
 have g9 := Qto i c7 (by rw [jaj]; omega) 3 (by decide) (by decide) (by rw [b4]; omega)
 refine Eq.trans (congrArg (fun x => Option.bind x _) g9) ?_
 rw [jBj]
 dsimp only
 refine Eq.trans (jTj rfl) ?_
 refine Eq.trans (jTj (by rw [f]; unfold Qh; omega)) ?_
 refine Eq.trans (jTj (by rw [f]; unfold Qh; omega)) ?_
 refine Eq.trans (jTj (by rw [f]; unfold Qh; omega)) ?_
 refine Eq.trans (jTj (by rw [f]; exact ⟨by omega, by omega⟩)) ?_
 refine Eq.trans (jTj (by rw [f]; exact Qul b4)) ?_
 obtain ⟨S2, f1, d2, U, n2⟩ := QtL i (lv := lv) (lt := d6) (t := 2) (by decide) (old := clnL (pbit a5) 0 s_2) (new := s_3) (l := l2 ++ C2) (Qs8 (by omega)) (by omega) (by omega) (by rw [jaj]; omega) (fun y J => ⟨(b8 y J).1, by have := (b8 y J).2; omega⟩) (by rw [E, b4]; omega) (by rw [E]; exact c7)
 rw [E] at d2
 refine Eq.trans (congrArg (fun x => Option.bind x _) f1) ?_
 rw [jBj]
 obtain ⟨d7, e1⟩ : ∃ y, y = d6 + UR lv ms2 := ⟨_, rfl⟩
 rw [← e1] at d2 b4 ⊢
 have i1 : (l2 ++ C2 ++ S2).length ≤ 48 := by rw [jaj, jaj]; omega
 generalize a0 : l2 ++ C2 ++ S2 = l3 at f1 d2 i1 ⊢
 clear h6 g4 g9 f1 c2 i6 E k4 e1 f6 m7 n2 i0
 -- day 3
 have r : s_3.length = K := e6
 have f7 : ∀ x, x ∈ s_3 → 0 ≤ x ∧ x ≤ 1000 := fun x H => ⟨(b8 x H).1, by have := (b8 x H).2; omega⟩
 obtain ⟨C3, h7, c8, P, m8⟩ := Qs6 i (bits := a6) (day := 3) (lt := d7) (by decide) (by omega) (K := (d.map QsM).length) (by omega) (d.map QsM).length [] s_3 l3 n (by omega) (by simp) (by omega) (by omega) d2
 refine Eq.trans (congrArg (fun x => Option.bind x _) h7) ?_
 rw [jBj]
 dsimp only
 refine Eq.trans (jTj (V7 (by decide) (by rw [jlj]; omega))) ?_
 have g5 := Qtj i u (pbit a6) s_3 k0 (by omega) f7
 rw [r, ← f] at g5
 refine Eq.trans (congrArg (fun x => Option.bind x _) g5) ?_
 rw [jBj]
 dsimp only
 have j5 := Qtm (pbit a6) s_3 0 f7
 have c3 := Qtl lv (pbit a6) s_3 0
 rw [r] at j5 c3
 have e7 : (nxtL wz (pbit a6) 0 s_3).length = K := by rw [QtN]; exact r
 have b9 := QtO wz 555 u (by decide) (pbit a6) s_3 0 b8
 generalize k5 : nxtL wz (pbit a6) 0 s_3 = s_4 at *
 have k1 : s_4 ≠ [] := Qs8 (by omega)
 generalize Qs7 (pbit a6) 0 s_3 = lo3 at *
 refine Eq.trans (jTj rfl) ?_
 refine Eq.trans (jTj (by rw [jlj, jlj, e7, r])) ?_
 refine Eq.trans (jTj (by unfold Qh; omega)) ?_
 rw [List.nil_append] at c8
 generalize F : mirs 0 (clnL (pbit a6) 0 s_3) = ms3 at *
 have i7 : (clnL (pbit a6) 0 s_3).length = K := by rw [QtP]; exact r
 have b5 : d7 + UR lv ms3 = lv * (4 * (K : Int) * 1000 - ((((0 + lo0) + lo1) + lo2) + lo3)) := by
  rw [c3, b4, ← Int.mul_add]
  congr 1
  omega
 have o3 := wF (g := lv) (p := 20) (c := 4 * (K : Int) * 1000 - ((((0 + lo0) + lo1) + lo2) + lo3)) (q := 25000) ⟨by omega, by omega⟩ ⟨by omega, by omega⟩
 have h0 := Qto i c8 (by rw [jaj]; omega) 4 (by decide) (by decide) (by rw [b5]; omega)
 refine Eq.trans (congrArg (fun x => Option.bind x _) h0) ?_
 rw [jBj]
 dsimp only
 refine Eq.trans (jTj rfl) ?_
 refine Eq.trans (jTj (by rw [f]; unfold Qh; omega)) ?_
 refine Eq.trans (jTj (by rw [f]; unfold Qh; omega)) ?_
 refine Eq.trans (jTj (by rw [f]; unfold Qh; omega)) ?_
 refine Eq.trans (jTj (by rw [f]; exact ⟨by omega, by omega⟩)) ?_
 refine Eq.trans (jTj (by rw [f]; exact Qul b5)) ?_
 obtain ⟨S3, f2, d3, V, n3⟩ := QtL i (lv := lv) (lt := d7) (t := 3) (by decide) (old := clnL (pbit a6) 0 s_3) (new := s_4) (l := l3 ++ C3) (Qs8 (by omega)) (by omega) (by omega) (by rw [jaj]; omega) (fun y J => ⟨(b9 y J).1, by have := (b9 y J).2; omega⟩) (by rw [F, b5]; omega) (by rw [F]; exact c8)
 rw [F] at d3
 refine Eq.trans (congrArg (fun x => Option.bind x _) f2) ?_
 rw [jBj]
 obtain ⟨d8, e2⟩ : ∃ y, y = d7 + UR lv ms3 := ⟨_, rfl⟩
 rw [← e2] at d3 b5 ⊢
 have i2 : (l3 ++ C3 ++ S3).length ≤ 58 := by rw [jaj, jaj]; omega
 generalize a8 : l3 ++ C3 ++ S3 = l4 at f2 d3 i2 ⊢
 clear h7 g5 h0 f2 c3 i7 F k5 e2 f7 m8 n3 i1
 -- day 4
 have s : s_4.length = K := e7
 have f8 : ∀ x, x ∈ s_4 → 0 ≤ x ∧ x ≤ 1000 := fun x H => ⟨(b9 x H).1, by have := (b9 x H).2; omega⟩
 obtain ⟨C4, h8, c9, Q, m9⟩ := Qs6 i (bits := a7) (day := 4) (lt := d8) (by decide) (by omega) (K := (d.map QsM).length) (by omega) (d.map QsM).length [] s_4 l4 n (by omega) (by simp) (by omega) (by omega) d3
 refine Eq.trans (congrArg (fun x => Option.bind x _) h8) ?_
 rw [jBj]
 dsimp only
 refine Eq.trans (jTj (V7 (by decide) (by rw [jlj]; omega))) ?_
 have g6 := Qtj i u (pbit a7) s_4 k1 (by omega) f8
 rw [s, ← f] at g6
 refine Eq.trans (congrArg (fun x => Option.bind x _) g6) ?_
 rw [jBj]
 dsimp only
 have j6 := Qtm (pbit a7) s_4 0 f8
 have c4 := Qtl lv (pbit a7) s_4 0
 rw [s] at j6 c4
 have e8 : (nxtL wz (pbit a7) 0 s_4).length = K := by rw [QtN]; exact s
 have i3 := QtO wz 655 u (by decide) (pbit a7) s_4 0 b9
 generalize k6 : nxtL wz (pbit a7) 0 s_4 = s_5 at *
 have n9 : s_5 ≠ [] := Qs8 (by omega)
 generalize Qs7 (pbit a7) 0 s_4 = lo4 at *
 refine Eq.trans (jTj rfl) ?_
 refine Eq.trans (jTj (by rw [jlj, jlj, e8, s])) ?_
 refine Eq.trans (jTj (by unfold Qh; omega)) ?_
 rw [List.nil_append] at c9
 generalize G : mirs 0 (clnL (pbit a7) 0 s_4) = ms4 at *
 have i8 : (clnL (pbit a7) 0 s_4).length = K := by rw [QtP]; exact s
 have d4 : d8 + UR lv ms4 = lv * (5 * (K : Int) * 1000 - (((((0 + lo0) + lo1) + lo2) + lo3) + lo4)) := by
  rw [c4, b5, ← Int.mul_add]
  congr 1
  omega
 have o4 := wF (g := lv) (p := 20) (c := 5 * (K : Int) * 1000 - (((((0 + lo0) + lo1) + lo2) + lo3) + lo4)) (q := 25000) ⟨by omega, by omega⟩ ⟨by omega, by omega⟩
 have h3 := Qto i c9 (by rw [jaj]; omega) 5 (by decide) (by decide) (by rw [d4]; omega)
 refine Eq.trans (congrArg (fun x => Option.bind x _) h3) ?_
 rw [jBj]
 dsimp only
 refine Eq.trans (jTj rfl) ?_
 refine Eq.trans (jTj (by rw [f]; unfold Qh; omega)) ?_
 refine Eq.trans (jTj (by rw [f]; unfold Qh; omega)) ?_
 refine Eq.trans (jTj (by rw [f]; unfold Qh; omega)) ?_
 refine Eq.trans (jTj (by rw [f]; exact ⟨by omega, by omega⟩)) ?_
 refine Eq.trans (jTj (by rw [f]; exact Qul d4)) ?_
 obtain ⟨S4, f3, j, W, n4⟩ := QtL i (lv := lv) (lt := d8) (t := 4) (by decide) (old := clnL (pbit a7) 0 s_4) (new := s_5) (l := l4 ++ C4) (Qs8 (by omega)) (by omega) (by omega) (by rw [jaj]; omega) (fun y J => ⟨(i3 y J).1, by have := (i3 y J).2; omega⟩) (by rw [G, d4]; omega) (by rw [G]; exact c9)
 rw [G] at j
 refine Eq.trans (congrArg (fun x => Option.bind x _) f3) ?_
 rw [jBj]
 obtain ⟨o5, e3⟩ : ∃ y, y = d8 + UR lv ms4 := ⟨_, rfl⟩
 rw [← e3] at j d4 ⊢
 have n7 : (l4 ++ C4 ++ S4).length ≤ 68 := by rw [jaj, jaj]; omega
 generalize a9 : l4 ++ C4 ++ S4 = l5 at f3 j n7 ⊢
 clear h8 g6 h3 f3 c4 i8 G k6 e3 f8 m9 n4 i2
 -- the end
 have v : l5.length ≤ 900 := by omega
 have k7 := QuM i j v
 refine Eq.trans (congrArg (fun x => Option.bind x _) k7) ?_
 rw [jBj]
 dsimp only [outF, rg]
 refine Eq.trans (jTj rfl) ?_
 refine Eq.trans (jTj (by rw [jlj, Qta, e8, f])) ?_
 refine Eq.trans (jTj rfl) ?_
 have i9 := Qu3 (n := n) s_5 (by omega) n8
 refine Eq.trans (congrArg (fun x => Option.bind x _) i9) ?_
 rw [jBj]
 have k9 := QtQ i j v (t := 0) (by decide) (a := (l0 ++ C0)) (b := (S0 ++ (C1 ++ (S1 ++ (C2 ++ (S2 ++ (C3 ++ (S3 ++ (C4 ++ S4))))))))) (by rw [← a9, ← a8, ← a0, ← Z, ← Y]; simp only [List.append_assoc]) c5 (by first | exact (QsB (QsE X (by decide)) (QsE L (by decide)))) (QsT (Qs3 S (by decide)) (QsT (Qs3 N (by decide)) (QsT (Qs3 T (by decide)) (QsT (Qs3 O (by decide)) (QsT (Qs3 U (by decide)) (QsT (Qs3 P (by decide)) (QsT (Qs3 V (by decide)) (QsT (Qs3 Q (by decide)) (Qs3 W (by decide))))))))))
 refine Eq.trans (congrArg (fun x => Option.bind x _) k9) ?_
 rw [jBj]
 dsimp only [Vc, rg]
 refine Eq.trans (jTj rfl) ?_
 refine Eq.trans (jTj rfl) ?_
 refine Eq.trans (jTj rfl) ?_
 have l6 := QtQ i j v (t := 1) (by decide) (a := (l1 ++ C1)) (b := (S1 ++ (C2 ++ (S2 ++ (C3 ++ (S3 ++ (C4 ++ S4))))))) (by rw [← a9, ← a8, ← a0, ← Z]; simp only [List.append_assoc]) c6 (by rw [← Y]; exact (QsB (QsB (QsB (QsE X (by decide)) (QsE L (by decide))) (QsE S (by decide))) (QsE N (by decide)))) (QsT (Qs3 T (by decide)) (QsT (Qs3 O (by decide)) (QsT (Qs3 U (by decide)) (QsT (Qs3 P (by decide)) (QsT (Qs3 V (by decide)) (QsT (Qs3 Q (by decide)) (Qs3 W (by decide))))))))
 refine Eq.trans (congrArg (fun x => Option.bind x _) l6) ?_
 rw [jBj]
 dsimp only [Vc, rg]
 refine Eq.trans (jTj rfl) ?_
 refine Eq.trans (jTj rfl) ?_
 refine Eq.trans (jTj rfl) ?_
 have l7 := QtQ i j v (t := 2) (by decide) (a := (l2 ++ C2)) (b := (S2 ++ (C3 ++ (S3 ++ (C4 ++ S4))))) (by rw [← a9, ← a8, ← a0]; simp only [List.append_assoc]) c7 (by rw [← Z, ← Y]; exact (QsB (QsB (QsB (QsB (QsB (QsE X (by decide)) (QsE L (by decide))) (QsE S (by decide))) (QsE N (by decide))) (QsE T (by decide))) (QsE O (by decide)))) (QsT (Qs3 U (by decide)) (QsT (Qs3 P (by decide)) (QsT (Qs3 V (by decide)) (QsT (Qs3 Q (by decide)) (Qs3 W (by decide))))))
 refine Eq.trans (congrArg (fun x => Option.bind x _) l7) ?_
 rw [jBj]
 dsimp only [Vc, rg]
 refine Eq.trans (jTj rfl) ?_
 refine Eq.trans (jTj rfl) ?_
 refine Eq.trans (jTj rfl) ?_
 have l8 := QtQ i j v (t := 3) (by decide) (a := (l3 ++ C3)) (b := (S3 ++ (C4 ++ S4))) (by rw [← a9, ← a8]; simp only [List.append_assoc]) c8 (by rw [← a0, ← Z, ← Y]; exact (QsB (QsB (QsB (QsB (QsB (QsB (QsB (QsE X (by decide)) (QsE L (by decide))) (QsE S (by decide))) (QsE N (by decide))) (QsE T (by decide))) (QsE O (by decide))) (QsE U (by decide))) (QsE P (by decide)))) (QsT (Qs3 V (by decide)) (QsT (Qs3 Q (by decide)) (Qs3 W (by decide))))
 refine Eq.trans (congrArg (fun x => Option.bind x _) l8) ?_
 rw [jBj]
 dsimp only [Vc, rg]
 refine Eq.trans (jTj rfl) ?_
 refine Eq.trans (jTj rfl) ?_
 refine Eq.trans (jTj rfl) ?_
 have l9 := QtQ i j v (t := 4) (by decide) (a := (l4 ++ C4)) (b := S4) (by exact a9.symm) c9 (by rw [← a8, ← a0, ← Z, ← Y]; exact (QsB (QsB (QsB (QsB (QsB (QsB (QsB (QsB (QsB (QsE X (by decide)) (QsE L (by decide))) (QsE S (by decide))) (QsE N (by decide))) (QsE T (by decide))) (QsE O (by decide))) (QsE U (by decide))) (QsE P (by decide))) (QsE V (by decide))) (QsE Q (by decide)))) (Qs3 W (by decide))
 refine Eq.trans (congrArg (fun x => Option.bind x _) l9) ?_
 rw [jBj]
 dsimp only [Vc, rg]
 refine Eq.trans (jTj rfl) ?_
 refine Eq.trans (jTj rfl) ?_
 refine Eq.trans (jTj rfl) ?_
 have m0 := QtQ i j v (t := 4 + 1) (by decide) (a := l5) (b := []) (by rw [List.append_nil]) j (by rw [← a9, ← a8, ← a0, ← Z, ← Y]; exact (QsB (QsB (QsB (QsB (QsB (QsB (QsB (QsB (QsB (QsB (QsE X (by decide)) (QsE L (by decide))) (QsE S (by decide))) (QsE N (by decide))) (QsE T (by decide))) (QsE O (by decide))) (QsE U (by decide))) (QsE P (by decide))) (QsE V (by decide))) (QsE Q (by decide))) (QsE W (by decide)))) Qvp
 refine Eq.trans (congrArg (fun x => Option.bind x _) m0) ?_
 rw [jBj]
 dsimp only [Vc, rg]
 refine Eq.trans (jTj rfl) ?_
 refine Eq.trans (jTj rfl) ?_
 refine Eq.trans (jTj rfl) ?_
 rfl
theorem QtR (m:jVj)(H:okAs [(false,[.lst false [.int .u8]]),(true,[.int .u8,.int .u8]),(true,[.int .u8,.int .u8,.int .u8,.int .u8,.int .u8])] m):Computes cx 3 m (.v (.bool true)):=by
 obtain⟨d1,K,rfl,N,c⟩:=Qcn H;obtain⟨a,rfl,J,t⟩:=Qdi (Qdj N);obtain⟨n,rfl,b0⟩:=yE (enc:=fun x:Int=>(.v (.int .u8 x):D)) (p:=fun x:Int=>0<=x/\x<=255) (es:=a) (fun e G=>by obtain⟨x,rfl,b⟩:=ok_i (t e G);exact⟨x,rfl,u8_b b⟩)
 rw[jlj] at J;obtain⟨d2,L,rfl,O,d⟩:=Qcn c;obtain⟨q,rfl,V⟩:=Qg3 O;obtain⟨d4,r4,rfl,P,W⟩:=ky V;obtain⟨a1,rfl,u⟩:=ok_i P;have b1:=u8_b u;obtain⟨d5,r5,rfl,Q,X⟩:=ky W;obtain⟨a2,rfl,y⟩:=ok_i Q;have o:=u8_b y;cases QdP X;obtain⟨d6,M,rfl,S,f⟩:=Qcn d;obtain⟨r,rfl,Y⟩:=Qg3 S;obtain⟨d8,r8,rfl,T,Z⟩:=ky Y;obtain⟨a3,rfl,z⟩:=ok_i T;have b3:=u8_b z;obtain⟨d9,r9,rfl,U,q9⟩:=ky Z;obtain⟨a4,rfl,A⟩:=ok_i U;have b4:=u8_b A;obtain⟨s,a8,rfl,g,j⟩:=ky q9;obtain⟨a5,rfl,C⟩:=ok_i g;have b5:=u8_b C;obtain⟨d11,a9,rfl,h,k⟩:=ky j;obtain⟨a6,rfl,E⟩:=ok_i h;have b6:=u8_b E;obtain⟨d12,b8,rfl,i,l⟩:=ky k;obtain⟨a7,rfl,F⟩:=ok_i i;have b7:=u8_b F;cases QdP l;cases Qds f;exact QtM (QtS n b0 a1 a2 a3 a4 a5 a6 a7 b1 o)
end Go.Proofs.Ytjbgbmjgfgdnhaa
