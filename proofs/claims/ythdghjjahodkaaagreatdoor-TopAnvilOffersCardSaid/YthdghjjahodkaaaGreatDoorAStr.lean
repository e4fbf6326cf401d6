/- Own texts. -/
import Derived.Test.YthdghjjahodkaaaGreatDoorOffr1
import Derived.Test.YthdghjjahodkaaaGreatDoorSxTwentyFive
import Derived.Lib.Bytealg
import Derived.Lib.ItoaNum
import Derived.Lib.SlTrimSet
import Derived.Lib.Join
import Derived.KernelRfl
set_option linter.unusedSimpArgs false
set_option linter.unusedVariables false
set_option linter.unnecessarySimpa false
set_option maxRecDepth 20000
namespace Go.Proofs.YthdghjjahodkaaaGreatDoor
open Go.SX
abbrev Sd (b:jSj):D:=.v (.string b)
def mkS (l:List UInt8):jSj:=⟨l.toArray⟩
theorem UA (s:jSj):mkS s.data.toList=s:=by cases s;simp[mkS]
theorem VN (l:List UInt8):(mkS l).data.toList=l:=by simp[mkS]
theorem dlen (s:jSj):s.data.toList.length=s.size:=by cases s;rfl
theorem QfQ (s:jSj):∀(m i:Nat) (r:List UInt8),i+m=s.size->ByteArray.toList.loop s i r=r.reverse++s.data.toList.drop i
 | 0,i,r,h=>by rw[ByteArray.toList.loop,jFj (by omega),List.drop_eq_nil_of_le (by rw[dlen];omega),List.append_nil]
 | m+1,i,r,h=>by
  have c:i<s.data.toList.length:=by rw[dlen];omega
  rw[ByteArray.toList.loop,jTj (by omega),QfQ s m (i+1) _ (by omega),List.reverse_cons,List.append_assoc];congr 1
  rw[List.drop_eq_getElem_cons c];have:s.get! i=s.data.toList[i]:=by
   cases s with
   | mk a =>
    simp only[ByteArray.get!];have b : i<a.size:=c;rw[getElem!_pos a i b];simp
  rw[this];rfl
theorem qL (s:jSj):s.toList=s.data.toList:=by unfold ByteArray.toList;rw[QfQ s s.size 0 [] (by omega)];rfl
theorem Qd7 {a b:jSj}(h:a.data.toList=b.data.toList):a=b:=by rw[<-UA a,<-UA b,h]
theorem beqS (a b:jSj):(a.toList==b.toList)=decide (a=b):=by rw[Bool.eq_iff_iff,beq_iff_eq,decide_eq_true_eq,qL,qL];exact⟨Qd7,fun h=>by rw[h]⟩
theorem kq (a:jSj)(l:Array UInt8):((a.toList==(⟨l⟩:jSj).toList)=true)=(a.data.toList=l.toList):=by rw[beqS,decide_eq_true_eq,eq_iff_iff];exact⟨fun h=>by rw[h],fun h=>Qd7 h⟩
def QK:List Int->Int
 | []=>0
 | x::l=>if x=0 then QK l else x
theorem ZF {a b:Type}{f:a->b}{l:List a}{i:Nat}{x:a}(h:l[i]?=some x):(i:Int)<((l.map f).length:Int):=by have:=(jGj h).1;simp;omega
theorem Ei {ms:List Int}{i:Nat}{x:Int}(h:ms[i]?=some x):el V5 (ms.map I) (i:Int)=some x:=UG (un:=V5) (enc:=I) (fun _=>rfl) h
theorem el_S {l:List jSj}{i:Nat}{x:jSj}(h:l[i]?=some x):el Vg (l.map Sd) (i:Int)=some x:=UG (un:=Vg) (enc:=Sd) (fun _=>rfl) h
theorem Zc {a:Type}{un:D->Option a}{enc:a->D}(b:∀x,un (enc x)=some x){l:List a}{i:Nat}{x:a}(h:l[i]?=some x):(nth (l.map enc) (Int.toNat (i:Int))).bind un=some x:=by rw[jtj,U4,List.getElem?_map,h];exact b x
def fG (_:Unit)(x:Int):Unit⊕(Int⊕Unit):=if x=0 then .inl () else .inr (.inl x)
theorem X1:∀(l:List Int),Kw fG (fun _=>.inr ()) l ()=if QK l=0 then .inr () else .inl (QK l)
 | []=>rfl
 | x::l=>by
  unfold Kw fG;by_cases h:x=0
  ·rw[jTj h];simp only[QK,jTj h];exact X1 l
  ·rw[jFj h];simp only[QK,jFj h]
theorem qf {n:Nat}(ms:List Int)(d:ms.length<9223372036854775807)(b:ms.length<n):Qi n (ms.map I)=some (QK ms):=by
 unfold Qi;have:=Vr (step:=Q6 n (ms.map I)) fG (fun _=>.inr ()) (fun i _=>(i:Int)) ms (fun _ _=>True)
  (fun i s x a _=>by
   unfold fG Q6;have c:=(jGj a).1;by_cases h:x=0
   ·rw[jTj h];refine⟨?_,trivial⟩;rw[jTj (ZF a),Ei a,jBj,jTj h,jTj (by unfold Qg;omega)];rfl
   ·rw[jFj h];dsimp only;rw[jTj (ZF a),Ei a,jBj,jFj h])
  (fun s _=>by unfold Q6;rw[jFj (by simp)]) (s:=()) trivial b
 rw[show(0:Int)=((0:Nat):Int) from rfl,this,X1];by_cases h:QK ms=0
 ·rw[jTj h,h];rfl
 ·rw[jFj h];rfl
theorem Qdi {n:Nat}(ms:List Int)(d:ms.length<9223372036854775807)(b:ms.length<n):Qi n (ms.map I)=some (QK ms):=by
 unfold Qi;have:=Vr (step:=Q6 n (ms.map I)) fG (fun _=>.inr ()) (fun i _=>(i:Int)) ms (fun _ _=>True)
  (fun i s x a _=>by
   unfold fG Q6;have c:=(jGj a).1;by_cases h:x=0
   ·rw[jTj h];refine⟨?_,trivial⟩;rw[jTj (ZF a),Ei a,jBj,jTj h,jTj (by unfold Qg;omega)];rfl
   ·rw[jFj h];dsimp only;rw[jTj (ZF a),Ei a,jBj,jFj h])
  (fun s _=>by unfold Q6;rw[jFj (by simp)]) (s:=()) trivial b
 rw[show(0:Int)=((0:Nat):Int) from rfl,this,X1];by_cases h:QK ms=0
 ·rw[jTj h,h];rfl
 ·rw[jFj h];rfl
theorem W4 {n:Nat}(c:10<=n)(a b:Int):Qi n [I a,I b]=some (QK [a,b]):=qf [a,b] (by simp) (by simp;omega)
theorem uT {n:Nat}(d:10<=n)(a b c:Int):Qi n [I a,I b,I c]=some (QK [a,b,c]):=qf [a,b,c] (by simp) (by simp;omega)
theorem QeV {n:Nat}(e:10<=n)(a b c d:Int):Qi n [I a,I b,I c,I d]=some (QK [a,b,c,d]):=qf [a,b,c,d] (by simp) (by simp;omega)
theorem Zl:∀{l:List Int},QK l=0->∀x,x∈l->x=0
 | [],_,x,hx=>by cases hx
 | y::l,h,x,hx=>by
  unfold QK at h;split at h
  ·rename_i a;cases hx with
   | head=>exact a
   | tail _ hx=>exact Zl h x hx
  ·rename_i a;exact absurd h a
def inR (x b a:Int):Int:=if x<b then 3 else if x>a then 3 else 0
def QD (b:Bool)(e:Int):Int:=if b then e else 0
theorem YR (n:Nat)(x b a:Int):ZJ n x b a=some (inR x b a):=by
 unfold ZJ JH Qm inR;by_cases h:x<b
 ·simp[h]
 ·by_cases c:x>a
  ·simp[h,c]
  ·simp[h,c]
theorem WS {x b a:Int}:inR x b a=0↔b<=x/\x<=a:=by
 unfold inR;constructor
 ·intro h;repeat' split at h
  all_goals omega
 ·intro h;rw[jFj (by omega),jFj (by omega)]
theorem QeR (x b a:Int):inR x b a=0\/inR x b a=3:=by
 unfold inR;repeat' split
 all_goals simp
theorem QR (n:Nat)(b:Bool)(e:Int):Qm n b e=some (QD b e):=by unfold Qm QD;cases b<;>rfl
def Kf (s:jSj)(i:Nat):Nat:=(s.get! i).toNat
def yG (p c:Nat):Prop:=(97<=c/\c<=122)\/(65<=c/\c<=90)\/(p≠0/\(c=95\/(48<=c/\c<=57)))
instance (p c:Nat):Decidable (yG p c):=by unfold yG;infer_instance
def E4 (s:jSj):Nat->Nat->Bool
 | 0,_=>true
 | m+1,p=>decide (yG p (Kf s p))&&E4 s m (p+1)
theorem Ek {s:jSj}{p:Nat}(h:Kf s p<128):Utf8.decode s p=(Kf s p,1):=by unfold Kf at h ⊢;unfold Utf8.decode;simp only[Nat.add_zero];rw[jTj h]
theorem yl {s:jSj}{p:Nat}(h:¬Kf s p<128):128<=(Utf8.decode s p).1:=by
 unfold Kf at h;unfold Utf8.decode;simp only[Nat.add_zero];rw[jFj h];have a:128<=Utf8.runeError:=by decide
 repeat' split
 all_goals first|exact a|(simp only[jAj,decide_eq_true_eq,ge_iff_le] at *;omega)
theorem Qks (n:Nat){s:jSj}{p:Nat}(h:p<s.size):WI n s p=if yG p (Kf s p) then some (.inl (p+1)) else some (.inr (.inl ())):=by
 unfold WI;rw[jTj h];by_cases b:Kf s p<128
 ·rw[Ek b];dsimp only;generalize Kf s p=c at b ⊢;by_cases a:yG p c
  ·rw[jTj a];unfold yG at a;repeat' split
   all_goals first|rfl|(exfalso;omega)
  ·rw[jFj a];unfold yG at a;repeat' split
   all_goals first|rfl|(exfalso;omega)
 ·have e:=yl b;have d:¬yG p (Kf s p):=by unfold yG;omega
  rw[jFj d];generalize (Utf8.decode s p).1=c at e ⊢;repeat' split
  all_goals first|rfl|(exfalso;omega)
theorem QjD (n:Nat){s:jSj}:∀(m k p:Nat),p+m=s.size->m<k->QU (WI n s) k p=some (if E4 s m p=true then .inr () else .inl ())
 | m,0,p,_,h=>by omega
 | 0,k+1,p,hp,_=>by rw[ZP (e:=.inr ()) (by unfold WI;rw[jFj (by omega)])];rfl
 | m+1,k+1,p,hp,hk=>by
  have a:=Qks n (s:=s) (p:=p) (by omega);by_cases h:yG p (Kf s p)
  ·rw[jTj h] at a;rw[W8 a,QjD n m k (p+1) (by omega) (by omega)];simp[E4,h]
  ·rw[jFj h] at a;rw[ZP a];simp[E4,h]
def Yw (s:jSj):Bool:=decide (s.size≠0)&&decide (s.size<=24)&&E4 s s.size 0
theorem QdJ (s:jSj):∀(m i:Nat) (r:List UInt8),i+m=s.size->(ByteArray.toList.loop s i r).length=r.length+m
 | 0,i,r,h=>by rw[ByteArray.toList.loop,jFj (by omega),List.length_reverse];rfl
 | m+1,i,r,h=>by rw[ByteArray.toList.loop,jTj (by omega),QdJ s m (i+1) _ (by omega),List.length_cons];omega
theorem XX (s:jSj):s.toList.length=s.size:=by unfold ByteArray.toList;rw[QdJ s s.size 0 [] (by omega)];simp
theorem QfH (s:jSj):(s.toList==(⟨#[]⟩:jSj).toList)=decide (s.size=0):=by
 rw[Bool.eq_iff_iff,beq_iff_eq,decide_eq_true_eq];constructor
 ·intro h;have a:s.toList.length=0:=by rw[h,XX];rfl
  rw[XX] at a;exact a
 ·intro h;have a:s.toList.length=0:=by rw[XX];exact h
  have b:(⟨#[]⟩:jSj).toList.length=0:=by rw[XX];rfl
  rw[List.eq_nil_of_length_eq_zero a,List.eq_nil_of_length_eq_zero b]
theorem QgI {n:Nat}{s:jSj}(h:s.size<n):Ua n s=some (Yw s):=by
 unfold Ua;rw[show QU (WI n s) n 0=_ from QjD n s.size n 0 (by omega) h,jBj];unfold Yw;by_cases a:E4 s s.size 0=true
 ·rw[jTj a,a];dsimp only;rw[QfH];by_cases b:s.size=0
  ·simp[b]
  ·simp[b];omega
 ·rw[jFj a];simp only[Bool.not_eq_true] at a;rw[a];simp
abbrev Mir:=jSj×jSj×Int×Int×Bool×Bool
abbrev Off:=jSj×Int×Int×Int×Int×Int×Bool
def Q1 (m:Mir):D:=QF m
def Zs (o:Off):D:=Zr o
theorem unM (m:Mir):QV (Q1 m)=some m:=rfl
theorem unO (o:Off):Z4 (Zs o)=some o:=rfl
def isA (m:Mir):Bool:=m.2.2.2.2.2
structure Reg where
 tick:Int
 level:Int
 filled:Bool
 tripped:Bool
 light:Int
 heat:Int
 money:Int
 sectors:List jSj
 mirrors:List Mir
 offers:List Off
def Reg.zero:Reg:=⟨0,0,false,false,0,0,0,[],[],[]⟩
def okM (m:Mir):Prop:=(1<=m.2.2.1/\m.2.2.1<=100)/\(0<=m.2.2.2.1/\m.2.2.2.1<=1000)
def okO (o:Off):Prop:=(1<=o.2.2.2.1/\o.2.2.2.1<=1000)/\(0<=o.2.2.2.2.1/\o.2.2.2.2.1<=1000)/\(0<=o.2.2.2.2.2.1/\o.2.2.2.2.2.1<=o.2.2.2.1)
structure Inv (c:Nat) (r:Reg):Prop where
 tick:0<=r.tick/\r.tick<=999999999
 level:0<=r.level/\r.level<=1000
 light:0<=r.light/\r.light<=1000000000000000
 heat:0<=r.heat/\r.heat<=1000000000000000
 money : -(2000000*(c:Int))<=r.money/\r.money<=2000000*(c:Int)
 secs:r.sectors.length<=8
 lenM:r.mirrors.length<=min c 32
 lenO:r.offers.length<=min c 32
 mirs:∀m,m∈r.mirrors->okM m
 offs:∀o,o∈r.offers->okO o
theorem Qj6 {g c p q:Int}(hp:0<=p)(f : -p<=g/\g<=p)(a:0<=q)(hc : -q<=c/\c<=q) : -(p*q)<=g*c/\g*c<=p*q:=by have h:=Int.natAbs_mul g c;have b:g.natAbs*c.natAbs<=p.natAbs*q.natAbs:=Nat.mul_le_mul (by omega) (by omega);have d:=Int.natAbs_mul p q;have e:0<=p*q:=Int.mul_nonneg hp a;omega
theorem jI {g c p q:Int}(a:0<=g/\g<=p)(hc:0<=c/\c<=q):0<=g*c/\g*c<=p*q :=
 ⟨Int.mul_nonneg a.1 hc.1,(Qj6 (by omega) ⟨by omega,a.2⟩ (by omega) ⟨by omega,hc.2⟩).2⟩
def term (lv:Int)(m:Mir):Int:=if isA m=true then m.2.2.1*(1000 - m.2.2.2.1)*lv else 0
def Xl (lv:Int):List Mir->Int
 | []=>0
 | m::l=>term lv m+Xl lv l
def zP (r:Reg):Int:=Xl r.level r.mirrors
theorem ua {lv:Int}(d:0<=lv/\lv<=1000){m:Mir}(e:okM m):(0<=m.2.2.1*(1000 - m.2.2.2.1)/\m.2.2.1*(1000 - m.2.2.2.1)<=100000)/\(0<=m.2.2.1*(1000 - m.2.2.2.1)*lv/\m.2.2.1*(1000 - m.2.2.2.1)*lv<=100000000)/\(0<=term lv m/\term lv m<=100000000):=by obtain⟨f,h⟩:=e;have a:=jI (g:=m.2.2.1) (c:=1000 - m.2.2.2.1) (p:=100) (q:=1000) (by omega) (by omega);have b:=jI (g:=m.2.2.1*(1000 - m.2.2.2.1)) (c:=lv) (p:=100000) (q:=1000) (by omega) d;refine⟨by omega,by omega,?_⟩;unfold term;split<;>omega
theorem jC {lv:Int}(a:0<=lv/\lv<=1000):∀{l:List Mir},(∀m,m∈l->okM m)->0<=Xl lv l/\Xl lv l<=100000000*(l.length:Int)
 | [],_=>by simp[Xl]
 | m::l,h=>by have c:=(ua a (h m jMj)).2.2;have d:=jC a (l:=l) fun x b=>h x (jmj _ b);simp only[Xl,List.length_cons];omega
def rG (lv:Int)(s:Int)(m:Mir):Int⊕Int:=.inl (s+term lv m)
theorem jA (lv:Int):∀(l:List Mir) (s:Int),Kw (rG lv) (fun s=>s) l s=s+Xl lv l
 | [],s=>by simp[Kw,Xl]
 | m::l,s=>by unfold Kw rG;simp only;have:=jA lv l (s+term lv m);unfold rG at this;rw[this];simp only[Xl];omega
theorem Qfz {n:Nat}(a0 f:jVj)(g lv:Int)(h j:Bool)(l o p:Int)(q b:jVj)(t:0<=lv/\lv<=1000)(ms:List Mir)(c:∀m,m∈ms->okM m)(r:ms.length<=992)(z:1700<=n):WM n a0 f g lv h j l o p q (ms.map Q1) b=some (Xl lv ms):=by
 unfold WM;have:=Vr (step:=Z5 n a0 f g lv h j l o p q (ms.map Q1) b) (rG lv) (fun s=>s) (fun i s=>(((i:Int),s):Int×Int)) ms (fun i s=>0<=s/\s<=100000000*(i:Int))
  (fun i s m a A=>by
   have y:=(jGj a).1;obtain⟨b1,u,v⟩:=ua t (c m (jgj a));unfold rG;refine⟨?_,?_⟩
   ·unfold Z5;dsimp only;rw[jTj (ZF a),jTj ⟨Int.natCast_nonneg i,ZF a⟩,Zc unM a,jBj];unfold term isA;by_cases d:m.2.2.2.2.2=true
    ·rw[jTj d,jTj d,jTj (by unfold Qg;have:=(c m (jgj a)).2;omega),jTj (by unfold Qg;omega),jTj (by unfold Qg;omega),jTj (by unfold Qg;omega),jTj (by unfold Qg;omega)];rfl
    ·rw[jFj d,jFj d,jTj (by unfold Qg;omega),Int.add_zero];rfl
   ·simp only[Int.natCast_add,Int.natCast_one];omega)
  (fun s _=>by unfold Z5;dsimp only;rw[jFj (by simp)]) (s:=0) (by simp) (k:=n) (by omega)
 have e:=this;rw[jA,Int.zero_add] at e;exact(congrArg (fun x:Option Int=>x.bind fun t1=>some t1) e)
theorem QhA {n:Nat}(a0 lv:Int)(d f:Bool)(g h j:Int)(l o:jVj)(q:0<=lv/\lv<=1000)(ms:List Mir)(b:∀m,m∈ms->okM m)(p:ms.length<=992)(v:1700<=n):WX n a0 lv d f g h j l (ms.map Q1) o=some (Xl lv ms):=by
 unfold WX;have:=Vr (step:=ZL n a0 lv d f g h j l (ms.map Q1) o) (rG lv) (fun s=>s) (fun i s=>(((i:Int),s):Int×Int)) ms (fun i s=>0<=s/\s<=100000000*(i:Int))
  (fun i s m a y=>by
   have u:=(jGj a).1;obtain⟨b1,r,t⟩:=ua q (b m (jgj a));unfold rG;refine⟨?_,?_⟩
   ·unfold ZL;dsimp only;rw[jTj (ZF a),jTj ⟨Int.natCast_nonneg i,ZF a⟩,Zc unM a,jBj];unfold term isA;by_cases c:m.2.2.2.2.2=true
    ·rw[jTj c,jTj c,jTj (by unfold Qg;have:=(b m (jgj a)).2;omega),jTj (by unfold Qg;omega),jTj (by unfold Qg;omega),jTj (by unfold Qg;omega),jTj (by unfold Qg;omega)];rfl
    ·rw[jFj c,jFj c,jTj (by unfold Qg;omega),Int.add_zero];rfl
   ·simp only[Int.natCast_add,Int.natCast_one];omega)
  (fun s _=>by unfold ZL;dsimp only;rw[jFj (by simp)]) (s:=0) (by simp) (k:=n) (by omega)
 have e:=this;rw[jA,Int.zero_add] at e;exact(congrArg (fun x:Option Int=>x.bind fun t1=>some t1) e)
def WP (r:Reg)(t:Int):Int:=zP r*(t - r.tick)
def okT (r:Reg)(t:Int):Prop:=r.tick<=t/\t<=999999999
def Gq (r:Reg)(t:Int):Int:=if r.light+WP r t<=1000000000000000/\r.heat+WP r t<=1000000000000000 then 0 else 4
theorem qe {c:Nat}{r:Reg}(d:Inv c r)(hc:c<=992){t:Int}(f:okT r t):(0<=zP r/\zP r<=4000000000)/\(0<=WP r t/\WP r t<=4000000000000000000):=by
 obtain⟨i,j⟩:=f;have h:=d.tick;have l:=d.lenM;have a:0<=zP r/\zP r<=100000000*(r.mirrors.length:Int):=jC d.level d.mirs;have e : 0<=zP r/\zP r<=4000000000:=by omega
 have b:=jI (g:=zP r) (c:=t - r.tick) (p:=4000000000) (q:=1000000000) e (by omega);refine⟨e,?_⟩;unfold WP;omega
theorem Wk {n c:Nat}{evs b:jVj}{r:Reg}(a:Inv c r)(hc:c<=992)(f:1700<=n){t:Int}(d:okT r t):Q9 n t evs b r.tick r.level r.filled r.tripped r.light r.heat r.money (r.sectors.map Sd) (r.mirrors.map Q1) (r.offers.map Zs)=some (r.light+WP r t,r.heat+WP r t):=by obtain⟨b1,g⟩:=qe a hc d;obtain⟨h,i⟩:=d;have j:=a.tick;have l:=a.light;have m:=a.heat;unfold Q9;rw[Qfz _ _ _ _ _ _ _ _ _ _ _ a.level _ a.mirs (by have:=a.lenM;omega) f,jBj,jTj (by unfold Qg;omega)];have e:Xl r.level r.mirrors*(t - r.tick)=WP r t:=rfl;simp only[e];rw[jTj (by unfold Qg;omega),jTj (by unfold Qg;omega),jTj (by unfold Qg;omega)]
theorem Wq {n c:Nat}{r:Reg}(a:Inv c r)(hc:c<=992)(d:1700<=n){t:Int}(b:okT r t):WB n t r.tick r.level r.filled r.tripped r.light r.heat r.money (r.sectors.map Sd) (r.mirrors.map Q1) (r.offers.map Zs)=some (r.light+WP r t,r.heat+WP r t):=by obtain⟨b1,f⟩:=qe a hc b;obtain⟨g,h⟩:=b;have i:=a.tick;have j:=a.light;have l:=a.heat;unfold WB;rw[QhA _ _ _ _ _ _ _ _ _ a.level _ a.mirs (by have:=a.lenM;omega) d,jBj,jTj (by unfold Qg;omega)];have e:Xl r.level r.mirrors*(t - r.tick)=WP r t:=rfl;simp only[e];rw[jTj (by unfold Qg;omega),jTj (by unfold Qg;omega),jTj (by unfold Qg;omega)]
theorem minB (a b m:Int):(!((a==min a m)&&((b==min b m)&&true)))=decide (¬(a<=m/\b<=m)):=by rw[Bool.eq_iff_iff];simp only[Bool.not_eq_true',Bool.and_true,Bool.and_eq_false_iff,beq_eq_false_iff_ne,ne_eq,decide_eq_true_eq];omega
theorem Zd {n c:Nat}{evs b:jVj}{r:Reg}(e:Inv c r)(hc:c<=992)(d:1700<=n){t:Int}(f:okT r t):Qn n t evs b r.tick r.level r.filled r.tripped r.light r.heat r.money (r.sectors.map Sd) (r.mirrors.map Q1) (r.offers.map Zs)=some (Gq r t):=by
 unfold Qn;rw[Wk e hc d f,jBj];dsimp only;rw[QR,jBj,GS,GS,minB];unfold QD Gq;by_cases a:r.light+WP r t<=1000000000000000/\r.heat+WP r t<=1000000000000000
 ·rw[jTj a];simp[a]
 ·rw[jFj a,jTj (jDj a)]
theorem Y4 {b E:Type}{step:Int×jVj->Option (Int×jVj⊕E)}(c:jVj->E)(l:List b)(f:b->jVj)(g:∀x,(f x).length<=1)
  (a:∀(i:Nat) (out:jVj) (x:b),l[i]?=some x->out.length<=i->step ((i:Int),out)=some (.inl (((i+1:Nat):Int),out++f x)))
  (d:∀out:jVj,out.length<=l.length->step ((l.length:Int),out)=some (.inr (c out))) {k:Nat} (j:l.length<k):QU step k (0,[])=some (c (l.flatMap f)):=by
 have:=Vr (step:=step) (E:=E) (fun(s:jVj) (x:b)=>.inl (s++f x)) c (fun i s=>((i:Int),s)) l (fun i s=>s.length<=i)
  (fun i s x n h=>⟨a i s x n h,by rw[jaj];have:=g x;omega⟩)
  (fun s m=>d s m) (k:=k) (s:=[]) (Nat.zero_le _) j
 have e:∀(l:List b) (s:jVj),Kw (E:=E) (fun(s:jVj) (x:b)=>.inl (s++f x)) c l s=c (s++l.flatMap f):=by
  intro l;induction l with
  | nil=>intro s;simp[Kw]
  | cons x l ih =>
   intro s;show Kw (E:=E) (fun(s:jVj) (x:b)=>.inl (s++f x)) c l (s++f x)=_;rw[ih,List.flatMap_cons,List.append_assoc]
 rw[e,List.nil_append] at this;exact this
theorem wQ {a b:Type}(f:a->b)(l:List a):l.flatMap (fun x=>[f x])=l.map f:=by
 induction l with
 | nil=>rfl
 | cons x l ih=>rw[List.flatMap_cons,ih];rfl
theorem UO {b n:Nat}(a:b<=200)(h:n<=5000):Wi b n:=by have c:n*b<=5000*200:=Nat.mul_le_mul h a;show n*b<=140737488355328;omega
def pos:List jSj->jSj->Option Nat
 | [],_=>none
 | x::l,s=>if x=s then some 0 else(pos l s).map (·+1)
def zk (l:List jSj)(s:jSj):Int:=match pos l s with
 | some i=>(i:Int)
 | none=>-1
theorem uq:∀{l:List jSj} {s:jSj} {i:Nat},pos l s=some i->i<l.length/\l[i]?=some s
 | [],s,i,h=>by cases h
 | x::l,s,i,h=>by
  unfold pos at h;split at h
  ·rename_i e;cases h;subst e;exact⟨by simp,rfl⟩
  ·obtain⟨j,b,rfl⟩:=Option.map_eq_some_iff.1 h;obtain⟨c,a⟩:=uq b;exact⟨by simp;omega,by simpa using a⟩
theorem pos_mem:∀{l:List jSj} {s:jSj},(pos l s).isSome=true↔s∈l
 | [],s=>by simp[pos]
 | x::l,s=>by
  unfold pos;by_cases h:x=s
  ·rw[jTj h];simp[h]
  ·rw[jFj h,Option.isSome_map,pos_mem];simp only[List.mem_cons];constructor
   ·exact .inr
   ·rintro(e|e)
    ·exact absurd e.symm h
    ·exact e
theorem QhE {l:List jSj}{s:jSj}:zk l s<0↔¬s∈l:=by
 rw[<-pos_mem];unfold zk;cases pos l s with
 | none=>simp
 | some i=>simp
theorem QiZ {l:List jSj}{s:jSj}:zk l s>=0↔s∈l:=by
 have:=QhE (l:=l) (s:=s);by_cases h:s∈l
 ·have:¬zk l s<0:=fun b=>(this.1 b) h;constructor
  ·exact fun _=>h
  ·intro _;omega
 ·have c:=this.2 h;constructor
  ·intro a;omega
  ·intro a;exact absurd a h
def pG {b:Type}(f:b->jSj)(a:jSj)(s:Nat)(x:b):Nat⊕(Int⊕Unit):=if f x=a then .inr (.inl (s:Int)) else .inl (s+1)
theorem Qc9 {b:Type}(f:b->jSj)(a:jSj):∀(l:List b) (s:Nat),Kw (pG f a) (fun _=>.inr ()) l s=(match pos (l.map f) a with
 | some i=>.inl ((s+i:Nat):Int)
 | none=>.inr ())
 | [],s=>rfl
 | x::l,s=>by
  unfold Kw pG;rw[jCj];unfold pos;by_cases h:f x=a
  ·rw[jTj h,jTj h];rfl
  ·rw[jFj h,jFj h];have:=Qc9 f a l (s+1);unfold pG at this;simp only;rw[this];cases pos (l.map f) a with
   | none=>rfl
   | some i=>simp only[Option.map_some];congr 2;omega
theorem Qkc {n:Nat}(l:List jSj)(s:jSj)(f:l.length<=5000)(b:l.length<n):QU (WE n (l.map Sd) s) n 0=some (match pos (l.map (fun x=>x)) s with
  | some i=>.inl (i:Int)
  | none=>.inr ()):=by
 have:=Vr (step:=WE n (l.map Sd) s) (pG (fun x=>x) s) (fun _=>.inr ()) (fun i (_:Nat)=>(i:Int)) l (fun i t=>t=i)
  (fun i t x a c=>by
   have d:=(jGj a).1;subst c;unfold pG WE;by_cases h:(fun x=>x) x=s
   ·rw[jTj h];dsimp only;rw[jTj (ZF a),el_S a,jBj,jTj (by rw[beqS];exact jDj h.symm)]
   ·rw[jFj h];refine⟨?_,rfl⟩;rw[jTj (ZF a),el_S a,jBj,jFj (by rw[beqS];exact fun e=>h ((of_decide_eq_true e).symm)),jTj (by unfold Qg;omega)];rfl)
  (fun t _=>by unfold WE;rw[jFj (by simp)]) (s:=0) rfl b
 rw[show(0:Int)=((0:Nat):Int) from rfl,this,Qc9];cases pos (l.map (fun x=>x)) s with
 | none=>rfl
 | some i=>simp only[Nat.zero_add]
theorem ZQ {n:Nat}(l:List jSj)(s:jSj)(a:l.length<=5000)(b:l.length<n):QC n (l.map Sd) s=some (zk l s):=by unfold QC zk;rw[Qkc l s a b,jBj,List.map_id'];cases pos l s<;>rfl
def ZG (l:List jSj)(s:jSj):Bool:=(pos l s).isSome
theorem Wp {n:Nat}(l:List jSj)(s:jSj)(a:l.length<=5000)(b:l.length<n):Zf n (l.map Sd) s=some (ZG l s):=by
 unfold Zf;rw[ZQ l s a b,jBj];congr 1
 rw[Bool.eq_iff_iff,decide_eq_true_eq,QiZ];exact pos_mem.symm
def nmM (l:List Mir):List jSj:=l.map fun x=>x.1
def nmO (l:List Off):List jSj:=l.map fun x=>x.1
theorem Zh (l:List Mir):(nmM l).length=l.length:=by unfold nmM;simp
theorem Wy (l:List Off):(nmO l).length=l.length:=by unfold nmO;simp
theorem UE {n:Nat}{d e:jVj}{f g:Int}{h j:Bool}{m o p:Int}{a b:jVj}(l:List Mir)(s:l.length<=4000)(q:l.length<n):Qt n 109 d e f g h j m o p a (l.map Q1) b=some ((nmM l).map Sd):=by
 unfold Qt;have:=Y4 (step:=ZV n d e f g h j m o p a (l.map Q1) b) (E:=jVj) (fun out=>out) l (fun x=>[Sd x.1]) (fun _=>jLj _)
  (fun i out x c t=>by have r:=(jGj c).1;unfold ZV QZ;dsimp only;rw[jTj (ZF c),jTj ⟨Int.natCast_nonneg i,ZF c⟩,Zc unM c,jBj,jBj,jTj (UO (by decide) (by omega)),jTj (by unfold Qg;omega)];rfl)
  (fun out _=>by unfold ZV;dsimp only;rw[jFj (by simp)]) q
 rw[jFj (by decide),jTj rfl,this,jBj,wQ];unfold nmM;rw[List.map_map];rfl
theorem X8 {n:Nat}{d e:jVj}{f g:Int}{h j:Bool}{m o p:Int}{a b:jVj}(l:List Off)(s:l.length<=4000)(q:l.length<n):Qt n 111 d e f g h j m o p a b (l.map Zs)=some ((nmO l).map Sd):=by
 unfold Qt;have:=Y4 (step:=ZU n d e f g h j m o p a b (l.map Zs)) (E:=jVj) (fun out=>out) l (fun x=>[Sd x.1]) (fun _=>jLj _)
  (fun i out x c t=>by have r:=(jGj c).1;unfold ZU ZT;dsimp only;rw[jTj (ZF c),jTj ⟨Int.natCast_nonneg i,ZF c⟩,Zc unO c,jBj,jBj,jTj (UO (by decide) (by omega)),jTj (by unfold Qg;omega)];rfl)
  (fun out _=>by unfold ZU;dsimp only;rw[jFj (by simp)]) q
 rw[jFj (by decide),jFj (by decide),this,jBj,wQ];unfold nmO;rw[List.map_map];rfl
theorem qT {n:Nat}{c d:Int}{e f:Bool}{g h j:Int}{m a:jVj}(l:List Mir)(q:l.length<=4000)(o:l.length<n):QO n 109 c d e f g h j m (l.map Q1) a=some ((nmM l).map Sd):=by
 unfold QO;have:=Y4 (step:=ZE n c d e f g h j m (l.map Q1) a) (E:=jVj) (fun out=>out) l (fun x=>[Sd x.1]) (fun _=>jLj _)
  (fun i out x b r=>by have p:=(jGj b).1;unfold ZE QZ;dsimp only;rw[jTj (ZF b),jTj ⟨Int.natCast_nonneg i,ZF b⟩,Zc unM b,jBj,jBj,jTj (UO (by decide) (by omega)),jTj (by unfold Qg;omega)];rfl)
  (fun out _=>by unfold ZE;dsimp only;rw[jFj (by simp)]) o
 rw[jFj (by decide),jTj rfl,this,jBj,wQ];unfold nmM;rw[List.map_map];rfl
theorem QfK {n:Nat}{b c:Int}{d e:Bool}{f g h:Int}{j m:jVj}(l:List Off)(q:l.length<=4000)(o:l.length<n):QO n 111 b c d e f g h j m (l.map Zs)=some ((nmO l).map Sd):=by
 unfold QO;have:=Y4 (step:=ZD n b c d e f g h j m (l.map Zs)) (E:=jVj) (fun out=>out) l (fun x=>[Sd x.1]) (fun _=>jLj _)
  (fun i out x a r=>by have p:=(jGj a).1;unfold ZD ZT;dsimp only;rw[jTj (ZF a),jTj ⟨Int.natCast_nonneg i,ZF a⟩,Zc unO a,jBj,jBj,jTj (UO (by decide) (by omega)),jTj (by unfold Qg;omega)];rfl)
  (fun out _=>by unfold ZD;dsimp only;rw[jFj (by simp)]) o
 rw[jFj (by decide),jFj (by decide),this,jBj,wQ];unfold nmO;rw[List.map_map];rfl
theorem Yl {s:List Mir}{i:Nat}{y:Mir}:List.set (s.map Q1) i (Q1 y)=(s.set i y).map Q1:=by rw[List.map_set]
theorem Qc8 {s:List Mir}{i:Nat}{x:Mir}(h:s[i]?=some x):s.set i x=s:=by obtain⟨b,a⟩:=jGj h;rw[<-a,List.set_getElem_self]
theorem qQ {step:Int×jVj->Option (Int×jVj⊕jVj)}(f:Mir->Mir)(ms:List Mir)
  (a:∀(i:Nat) (s:List Mir) (x:Mir),s.length=ms.length->s[i]?=some x->step ((i:Int),s.map Q1)=some (.inl (((i+1:Nat):Int),(s.set i (f x)).map Q1)))
  (b:∀s:List Mir,s.length=ms.length->step ((ms.length:Int),s.map Q1)=some (.inr (s.map Q1))) {k:Nat} (g:ms.length<k) :
  QU step k (0,ms.map Q1)=some ((ms.map f).map Q1):=by
 have h:∀(m i:Nat) (k:Nat),i+m=ms.length->m<k->QU step k ((i:Int),((ms.take i).map f++ms.drop i).map Q1)=some ((ms.map f).map Q1):=by
  intro m;induction m with
  | zero =>
   intro i k l g;obtain⟨k,rfl⟩:∃j,k=j+1:=⟨k - 1,by omega⟩
   have e:i=ms.length:=by omega
   subst e;rw[List.take_length,List.drop_length,List.append_nil,ZP (b _ (by simp))]
  | succ m ih =>
   intro i k l g;obtain⟨k,rfl⟩:∃j,k=j+1:=⟨k - 1,by omega⟩
   have d:i<ms.length:=by omega
   have c:((ms.take i).map f++ms.drop i).length=ms.length:=by simp;omega
   have o:((ms.take i).map f++ms.drop i)[i]?=some ms[i]:=by rw[List.getElem?_append_right (by simp;omega)];simp;rw[jej (by omega)];congr 2;omega
   rw[W8 (a i _ _ c o)];have e:((ms.take i).map f++ms.drop i).set i (f ms[i])=(ms.take (i+1)).map f++ms.drop (i+1):=by
    rw[List.set_append_right _ _ (by simp;omega)];have n:((ms.take i).map f).length=i:=by simp;omega
    rw[n,Nat.sub_self,List.drop_eq_getElem_cons d,List.set_cons_zero,List.take_succ_eq_append_getElem d,List.map_append];simp
   rw[e];exact ih (i+1) k (by omega) (by omega)
 have:=h ms.length 0 k (by omega) g;simpa using this
def Xi (m:Mir):Mir:=(m.1,m.2.1,m.2.2.1,m.2.2.2.1,m.2.2.2.2.1,false)
def kf (s:jSj)(m:Mir):Mir:=if m.2.1=s then Xi m else m
theorem Qkw {n:Nat}{a0:Int}{g s:jSj}{j:jVj}{l:jSj}{m o:Int}{p q:Bool}{r a b:Int}{c d:jVj}(ms:List Mir)(z:ms.length<=5000)(t:ms.length<n):Vi n a0 g [Sd s] j l m o p q r a b c (ms.map Q1) d=some ((ms.map (kf s)).map Q1):=by
 unfold Vi;have:=qQ (step:=Z6 n a0 g [Sd s] j l m o p q r a b c (ms.map Q1) d) (kf s) ms
  (fun i u x v f=>by
   have y:=(jGj f).1;unfold Z6 WW;dsimp only;rw[jTj (by simp;omega),jTj ⟨Int.natCast_nonneg i,ZF f⟩,Zc unM f,jBj];rw[show el Vg [Sd s] 0=some s from rfl,jBj,jBj];unfold kf;by_cases h:x.2.1=s
   ·rw[jTj (by rw[beqS];exact jDj h),jTj (by unfold Qg;omega),jTj h,<-Yl,jtj];rfl
   ·rw[jFj (by rw[beqS];exact fun e=>h (of_decide_eq_true e)),jTj (by unfold Qg;omega),jFj h,Qc8 f];rfl)
  (fun u v=>by unfold Z6;dsimp only;rw[jFj (by simp)]) t
 rw[this];rfl
theorem QjY {n:Nat}{a0:Int}{l s:jSj}{m:jVj}{o:jSj}{p q:jVj}{r t:Int}{v a:Bool}{b c d:Int}{f g:jVj}(ms:List Mir)(C:ms.length<=5000)(y:ms.length<n):WZ n a0 l [Sd s] m o p q r t v a b c d f (ms.map Q1) g=some ((ms.map (kf s)).map Q1):=by
 unfold WZ;have:=qQ (step:=ZN n a0 l [Sd s] m o p q r t v a b c d f (ms.map Q1) g) (kf s) ms
  (fun i u x z j=>by
   have A:=(jGj j).1;unfold ZN WW;dsimp only;rw[jTj (by simp;omega),jTj ⟨Int.natCast_nonneg i,ZF j⟩,Zc unM j,jBj];rw[show el Vg [Sd s] 0=some s from rfl,jBj,jBj];unfold kf;by_cases h:x.2.1=s
   ·rw[jTj (by rw[beqS];exact jDj h),jTj (by unfold Qg;omega),jTj h,<-Yl,jtj];rfl
   ·rw[jFj (by rw[beqS];exact fun e=>h (of_decide_eq_true e)),jTj (by unfold Qg;omega),jFj h,Qc8 j];rfl)
  (fun u z=>by unfold ZN;dsimp only;rw[jFj (by simp)]) y
 rw[this];rfl
theorem Qkv {n:Nat}{a0 b:Int}{c d:Bool}{e f g:Int}{h j:jVj}(ms:List Mir)(p:ms.length<=5000)(l:ms.length<n):W0 n a0 b c d e f g h (ms.map Q1) j=some ((ms.map Xi).map Q1):=by
 unfold W0;have:=qQ (step:=ZO n a0 b c d e f g h (ms.map Q1) j) Xi ms
  (fun i u x m a=>by have o:=(jGj a).1;unfold ZO WV;dsimp only;rw[jTj (by simp;omega),jTj ⟨Int.natCast_nonneg i,ZF a⟩,Zc unM a,jBj];rw[jBj,jTj rfl,jTj (by unfold Qg;omega),<-Yl,jtj];rfl)
  (fun u m=>by unfold ZO;dsimp only;rw[jFj (by simp)]) l
 rw[this];rfl
theorem QjX {n:Nat}{a0 c:jVj}{d e:Int}{f g:Bool}{h j l:Int}{m a:jVj}(ms:List Mir)(r:ms.length<=5000)(o:ms.length<n):WY n a0 c d e f g h j l m (ms.map Q1) a=some ((ms.map Xi).map Q1):=by
 unfold WY;have:=qQ (step:=ZM n a0 c d e f g h j l m (ms.map Q1) a) Xi ms
  (fun i u x p b=>by have q:=(jGj b).1;unfold ZM WV;dsimp only;rw[jTj (by simp;omega),jTj ⟨Int.natCast_nonneg i,ZF b⟩,Zc unM b,jBj];rw[jBj,jTj rfl,jTj (by unfold Qg;omega),<-Yl,jtj];rfl)
  (fun u p=>by unfold ZM;dsimp only;rw[jFj (by simp)]) o
 rw[this];rfl
def aG (_:Unit)(m:Mir):Unit⊕(Unit⊕Unit):=if isA m=true then .inr (.inl ()) else .inl ()
theorem Qda:∀(l:List Mir),Kw aG (fun _=>.inr ()) l ()=if l.any isA=true then .inl () else .inr ()
 | []=>rfl
 | x::l=>by
  unfold Kw aG;by_cases h:isA x=true
  ·rw[jTj h];simp[h]
  ·rw[jFj h];simp only[List.any_cons,h,Bool.false_or];exact Qda l
theorem Qkl {n:Nat}{a0 d:jVj}{e f:Int}{g j:Bool}{l o p:Int}{q c:jVj}(ms:List Mir)(u:ms.length<=5000)(r:ms.length<n):VE n a0 d e f g j l o p q (ms.map Q1) c=some (ms.any isA):=by
 unfold VE;have:=Vr (step:=Wn n a0 d e f g j l o p q (ms.map Q1) c) aG (fun _=>.inr ()) (fun i _=>(i:Int)) ms (fun _ _=>True)
  (fun i _ m b _=>by
   have t:=(jGj b).1;unfold aG Wn;by_cases a:isA m=true
   ·rw[jTj a];dsimp only;rw[jTj (ZF b),jTj ⟨Int.natCast_nonneg i,ZF b⟩,Zc unM b,jBj];unfold isA at a;rw[jTj a,jFj (by rw[a];simp)]
   ·rw[jFj a];refine⟨?_,trivial⟩;rw[jTj (ZF b),jTj ⟨Int.natCast_nonneg i,ZF b⟩,Zc unM b,jBj];unfold isA at a;rw[jFj a,jTj (by unfold Qg;omega)];rfl)
  (fun s _=>by unfold Wn;rw[jFj (by simp)]) (s:=()) trivial r
 rw[show(0:Int)=((0:Nat):Int) from rfl,this,Qda];by_cases h:ms.any isA=true
 ·rw[jTj h,h];rfl
 ·rw[jFj h];simp only[Bool.not_eq_true] at h;rw[h];rfl
def kD (ms:List Mir):List jSj:=(ms.filter isA).map fun x=>x.1
theorem QfY:∀(ms:List Mir),(ms.flatMap fun x=>if isA x=true then[Sd x.1] else[])=(kD ms).map Sd
 | []=>rfl
 | x::l=>by
  rw[List.flatMap_cons,QfY l];unfold kD;by_cases h:isA x=true
  ·rw[jTj h,List.filter_cons_of_pos h];rfl
  ·rw[jFj h,List.filter_cons_of_neg h];rfl
def WC (o:Off):Int:=o.2.2.2.1 - o.2.2.2.2.2.1
def Gr (o:Off):Int:=o.2.2.2.2.1*o.2.2.2.2.2.1 - 2*o.2.2.2.2.1*WC o
theorem Kg {o:Off}(h:okO o):(0<=WC o/\WC o<=1000)/\(0<=o.2.2.2.2.1*o.2.2.2.2.2.1/\o.2.2.2.2.1*o.2.2.2.2.2.1<=1000000)/\(0<=2*o.2.2.2.2.1*WC o/\2*o.2.2.2.2.1*WC o<=2000000)/\(-2000000<=Gr o/\Gr o<=1000000):=by
 obtain⟨f,e,i⟩:=h;have d:0<=WC o/\WC o<=1000:=by unfold WC;omega
 have a:=jI (g:=o.2.2.2.2.1) (c:=o.2.2.2.2.2.1) (p:=1000) (q:=1000) e (by omega);have b:=jI (g:=2*o.2.2.2.2.1) (c:=WC o) (p:=2000) (q:=1000) (by omega) d;refine⟨d,by omega,by omega,?_⟩;unfold Gr;omega
theorem jh (n:Nat){o:Off}(h:okO o):Za n o.1 o.2.1 o.2.2.1 o.2.2.2.1 o.2.2.2.2.1 o.2.2.2.2.2.1 o.2.2.2.2.2.2=some (WC o):=by obtain⟨a,_⟩:=Kg h;unfold WC at a;unfold Za WC;rw[jTj (by unfold Qg;omega)]
theorem QcA (n:Nat){o:Off}(h:okO o):WQ n o.1 o.2.1 o.2.2.1 o.2.2.2.1 o.2.2.2.2.1 o.2.2.2.2.2.1 o.2.2.2.2.2.2=some (Gr o):=by obtain⟨a,b,c,d⟩:=Kg h;have e:=h.2.1;unfold WQ;rw[jh n h,jTj (by unfold Qg;omega),jTj (by unfold Qg;omega),jBj,jTj (by unfold Qg;omega)];unfold Gr at d ⊢;rw[jTj (by unfold Qg;omega)]
inductive Ki where
 | sector
 | mirror
 | soil
 | clean
 | defect
 | repair
 | aim
 | park
 | dim
 | sun
 | fill
 | drain
 | trip
 | reset
 | offer
 | deliver
 | bill
 | undo
 deriving DecidableEq
def kw:Ki->List UInt8
 | .sector=>[115,101,99,116,111,114]
 | .mirror=>[109,105,114,114,111,114]
 | .soil=>[115,111,105,108]
 | .clean=>[99,108,101,97,110]
 | .defect=>[100,101,102,101,99,116]
 | .repair=>[114,101,112,97,105,114]
 | .aim=>[97,105,109]
 | .park=>[112,97,114,107]
 | .dim=>[100,105,109]
 | .sun=>[115,117,110]
 | .fill=>[102,105,108,108]
 | .drain=>[100,114,97,105,110]
 | .trip=>[116,114,105,112]
 | .reset=>[114,101,115,101,116]
 | .offer=>[111,102,102,101,114]
 | .deliver=>[100,101,108,105,118,101,114]
 | .bill=>[98,105,108,108]
 | .undo=>[117,110,100,111]
def kr:Ki->List UInt8
 | .sector=>[83]
 | .mirror=>[77,115]
 | .soil=>[109]
 | .clean=>[109]
 | .defect=>[109]
 | .repair=>[109]
 | .aim=>[109]
 | .park=>[109]
 | .dim=>[115]
 | .sun=>[]
 | .fill=>[]
 | .drain=>[]
 | .trip=>[]
 | .reset=>[]
 | .offer=>[79]
 | .deliver=>[111]
 | .bill=>[111]
 | .undo=>[]
def kn (k:Ki):Nat:=(kr k).length
def kv:Ki->Nat
 | .sector=>1
 | .mirror=>2
 | .soil=>2
 | .clean=>1
 | .defect=>1
 | .repair=>1
 | .aim=>1
 | .park=>1
 | .dim=>1
 | .sun=>2
 | .fill=>1
 | .drain=>1
 | .trip=>1
 | .reset=>1
 | .offer=>5
 | .deliver=>2
 | .bill=>1
 | .undo=>0
def allKd:List Ki:=[.sector,.mirror,.soil,.clean,.defect,.repair,.aim,.park,.dim,.sun,.fill,.drain,.trip,.reset,.offer,.deliver,.bill,.undo]
def zl (l:List UInt8):Option Ki:=allKd.find? fun k=>decide (kw k=l)
theorem qZ (k:Ki):zl (kw k)=some k:=by cases k<;>decide
theorem JV {l:List UInt8}{k:Ki}(h:zl l=some k):l=kw k:=by have:=List.find?_some h;simpa using(of_decide_eq_true this).symm
theorem jQ {l:List UInt8}(h:zl l=none)(k:Ki):l≠kw k:=by intro e;rw[e,qZ] at h;cases h
theorem kne {a:jSj}{L:List UInt8}(h:a.data.toList=L){l:Array UInt8}(b:L≠l.toList):¬((a.toList==(⟨l⟩:jSj).toList)=true):=by rw[kq,h];exact b
theorem keq {a:jSj}{L:List UInt8}(h:a.data.toList=L){l:Array UInt8}(b:L=l.toList):(a.toList==(⟨l⟩:jSj).toList)=true:=by rw[kq,h];exact b
theorem dne {a:jSj}{L M:List UInt8}(h:a.data.toList=L)(b:L≠M):¬a.data.toList=M:=by rw[h];exact b
theorem QkF {a b:jSj}(h:(a==b)=true):a=b:=by cases a;cases b;have c : (ByteArray.mk _==ByteArray.mk _)=true:=h;simp only[ByteArray.mk.injEq];exact eq_of_beq h
theorem Qgq {s:jSj}:∀{j:Value},Y1 (.string s) j=some true->j=.string s:=by intro j h;cases j<;>simp[Y1] at h;rw[QkF h]
theorem jJ:∀(es:jVj) (s:jSj),(W5 (.string s) es).isSome=true->∃x,D.tup [.v (.string s),x]∈es
 | [],s,h=>by simp[W5] at h
 | e::es,s,h=>by
  unfold W5 at h;split at h
  ·rename_i j x b;split at h
   ·rename_i d;have:j=.string s:=Qgq d;subst this;refine⟨x,?_⟩;unfold SX.keyOf at b;split at b<;>try cases b
    rename_i l;unfold QhF at b;split at b
    ·cases b
    ·rename_i a l;split at b
     ·cases b
     ·rename_i y r;split at b
      ·split at b
       ·rename_i k c;cases b;unfold vOf at c;split at c<;>cases c;exact jMj
       ·cases b
      ·cases b
   ·obtain⟨x,f⟩:=jJ es s h;exact⟨x,jmj _ f⟩
  ·cases h
theorem jw {a:jSj}(h:(W5 (.string a) GB).isSome=true):∃k,a.data.toList=kw k:=by
 obtain⟨x,b⟩:=jJ _ _ h;unfold GB at b;simp only[List.mem_cons,D.tup.injEq,List.cons.injEq,D.v.injEq,Value.string.injEq,List.not_mem_nil,or_false] at b;obtain h|h|h|h|h|h|h|h|h|h|h|h|h|h|h|h|h|h:=b
 ·exact⟨.sector,by rw[h.1];rfl⟩
 ·exact⟨.mirror,by rw[h.1];rfl⟩
 ·exact⟨.soil,by rw[h.1];rfl⟩
 ·exact⟨.clean,by rw[h.1];rfl⟩
 ·exact⟨.defect,by rw[h.1];rfl⟩
 ·exact⟨.repair,by rw[h.1];rfl⟩
 ·exact⟨.aim,by rw[h.1];rfl⟩
 ·exact⟨.park,by rw[h.1];rfl⟩
 ·exact⟨.dim,by rw[h.1];rfl⟩
 ·exact⟨.sun,by rw[h.1];rfl⟩
 ·exact⟨.fill,by rw[h.1];rfl⟩
 ·exact⟨.drain,by rw[h.1];rfl⟩
 ·exact⟨.trip,by rw[h.1];rfl⟩
 ·exact⟨.reset,by rw[h.1];rfl⟩
 ·exact⟨.offer,by rw[h.1];rfl⟩
 ·exact⟨.deliver,by rw[h.1];rfl⟩
 ·exact⟨.bill,by rw[h.1];rfl⟩
 ·exact⟨.undo,by rw[h.1];rfl⟩
theorem QjQ:∀(k:Ki),((W5 (.string (mkS (kw k))) GB).bind Kt).map (fun x=>(x.1,x.2.1))=some (mkS (kr k),(kv k:Int))
 | .sector=>by kernel_rfl
 | .mirror=>by kernel_rfl
 | .soil=>by kernel_rfl
 | .clean=>by kernel_rfl
 | .defect=>by kernel_rfl
 | .repair=>by kernel_rfl
 | .aim=>by kernel_rfl
 | .park=>by kernel_rfl
 | .dim=>by kernel_rfl
 | .sun=>by kernel_rfl
 | .fill=>by kernel_rfl
 | .drain=>by kernel_rfl
 | .trip=>by kernel_rfl
 | .reset=>by kernel_rfl
 | .offer=>by kernel_rfl
 | .deliver=>by kernel_rfl
 | .bill=>by kernel_rfl
 | .undo=>by kernel_rfl
theorem yM {a:jSj}{k:Ki}(h:a.data.toList=kw k):(W5 (.string a) GB).isSome=true/\∃f g,(W5 (.string a) GB).bind Kt=some (mkS (kr k),(kv k:Int),f,g):=by
 have e:a=mkS (kw k):=by rw[<-h,UA]
 subst e;have:=QjQ k;cases hm:W5 (.string (mkS (kw k))) GB with
 | none=>rw[hm] at this;cases this
 | some d =>
  rw[hm,jBj] at this;refine⟨rfl,?_⟩;obtain⟨x,i,j⟩:=Option.map_eq_some_iff.1 this;refine⟨x.2.2.1,x.2.2.2,?_⟩;rw[jBj,i];obtain⟨b,c⟩:=Prod.mk.inj j;rw[<-b,<-c]
abbrev Ev:=Int×jSj×List jSj×List Int×jSj
def Q5 (e:Ev):D:=VQ (e.1,e.2.1,e.2.2.1.map Sd,e.2.2.2.1.map I,e.2.2.2.2)
def Short (e:Ev):Prop:=e.2.1.size<=40/\e.2.2.1.length<=6/\e.2.2.2.1.length<=8/\e.2.2.2.2.size<=200/\∀s,s∈e.2.2.1->s.size<=40
def Shw (n:Nat)(e:Ev):Prop:=e.2.2.1.length<=6/\e.2.2.2.1.length<=8/\∀s,s∈e.2.2.1->s.size<n
theorem Short.w {n:Nat}(b:1700<=n){e:Ev}(h:Short e):Shw n e:=⟨h.2.1,h.2.2.1,fun s a=>Nat.lt_of_le_of_lt (h.2.2.2.2 s a) (by omega)⟩
def valB (v:Int):Bool:=decide (inR v 0 999999999=0)
def chk (e:Ev):Int:=if inR e.1 1 1000=0 then(match zl e.2.1.data.toList with
 | none=>13
 | some k=>if e.2.2.1.length=kn k/\e.2.2.2.1.length=kv k then(if e.2.2.1.all Yw=true then(if e.2.2.2.1.all valB=true then(if e.2.2.2.2.size=0 then 0 else 1) else 3) else 8) else 2) else 3
structure Good (e:Ev) (k:Ki):Prop where
 num:1<=e.1/\e.1<=1000
 kind:e.2.1.data.toList=kw k
 names:e.2.2.1.length=kn k
 vals:e.2.2.2.1.length=kv k
 name:∀s,s∈e.2.2.1->Yw s=true
 val:∀v,v∈e.2.2.2.1->0<=v/\v<=999999999
 text:e.2.2.2.2.size=0
theorem Qec {e:Ev}(h:chk e=0):∃k,Good e k:=by
 unfold chk at h;split at h;case isFalse=>cases h
 rename_i b;split at h
 ·cases h
 rename_i k g;split at h;case isFalse=>cases h
 rename_i a;split at h;case isFalse=>cases h
 rename_i c;split at h;case isFalse=>cases h
 rename_i d;split at h;case isFalse=>cases h
 rename_i f;refine⟨k,WS.1 b,JV g,a.1,a.2,List.all_eq_true.1 c,fun v i=>?_,f⟩;have:=List.all_eq_true.1 d v i;exact WS.1 (of_decide_eq_true this)
theorem Qi7 {n:Nat}(e:1700<=n)(l:List jSj)(d:l.length<=60)(b:∀s,s∈l->s.size<n):Wz n (l.map Sd)=some ((l.map fun s=>QD (!Yw s) 8).map I):=by
 unfold Wz;have:=Y4 (step:=Ve n (l.map Sd)) (E:=jVj) (fun out=>out) l (fun s=>[I (QD (!Yw s) 8)]) (fun _=>jLj _)
  (fun i out x a f=>by have c:=(jGj a).1;unfold Ve V4;dsimp only;rw[jTj (ZF a),el_S a,jBj,QgI (by have:=b x (jgj a);omega),jBj,QR,jBj,jBj,jTj (UO (by decide) (by omega)),jTj (by unfold Qg;omega)];rfl)
  (fun out _=>by unfold Ve;dsimp only;rw[jFj (by simp)]) (k:=n) (by omega)
 rw[this,jBj,wQ,List.map_map];rfl
theorem Qi6 {n:Nat}(d:1700<=n)(l:List Int)(c:l.length<=60):Z0 n (l.map I)=some ((l.map fun v=>inR v 0 999999999).map I):=by
 unfold Z0;have:=Y4 (step:=WL n (l.map I)) (E:=jVj) (fun out=>out) l (fun v=>[I (inR v 0 999999999)]) (fun _=>jLj _)
  (fun i out x a e=>by have b:=(jGj a).1;unfold WL V3;dsimp only;rw[jTj (ZF a),Ei a,jBj,YR,jBj,jBj,jTj (UO (by decide) (by omega)),jTj (by unfold Qg;omega)];rfl)
  (fun out _=>by unfold WL;dsimp only;rw[jFj (by simp)]) (k:=n) (by omega)
 rw[this,jBj,wQ,List.map_map];rfl
theorem Qbt:∀(l:List jSj),QK (l.map fun s=>QD (!Yw s) 8)=if l.all Yw=true then 0 else 8
 | []=>rfl
 | s::l=>by
  have a:=Qbt l;rw[jCj];unfold QK QD;unfold QD at a;cases h:Yw s with
  | true=>simp only[Bool.not_true,Bool.false_eq_true,if_false,if_true,List.all_cons,h,Bool.true_and];exact a
  | false=>simp[h]
theorem QdT:∀(l:List Int),QK (l.map fun v=>inR v 0 999999999)=if l.all valB=true then 0 else 3
 | []=>rfl
 | v::l=>by
  have a:=QdT l;rw[jCj];unfold QK;obtain h|h:=QeR v 0 999999999
  ·rw[jTj h,a];simp[valB,h]
  ·rw[h,jFj (by decide)];simp[valB,h]
theorem QiK (s:jSj):(!(s.toList==(⟨#[]⟩:jSj).toList))=decide (s.size≠0):=by rw[QfH];by_cases h:s.size=0<;>simp[h]
theorem Qcw {n:Nat}(v:1700<=n)(e:Ev)(F:e.2.2.1.length<=6)(G:e.2.2.2.1.length<=8)(A:∀s,s∈e.2.2.1->s.size<n):Wv n e.1 e.2.1 (e.2.2.1.map Sd) (e.2.2.2.1.map I) e.2.2.2.2=some (chk e):=by
 have a:(Wz n (e.2.2.1.map Sd)).bind (fun E=>(Qi n E).bind fun p=>(Z0 n (e.2.2.2.1.map I)).bind fun q=>(Qi n q).bind fun r =>
   (Qm n (!(e.2.2.2.2.toList==(⟨#[]⟩:jSj).toList)) 1).bind fun t=>(Qi n ([I p,I r,I t])).bind fun u=>some u) =
   some (if e.2.2.1.all Yw=true then(if e.2.2.2.1.all valB=true then(if e.2.2.2.2.size=0 then 0 else 1) else 3) else 8):=by
  rw[Qi7 v _ (by omega) A,jBj,qf _ (by simp;omega) (by simp;omega),jBj,Qi6 v _ (by omega),jBj,qf _ (by simp;omega) (by simp;omega),jBj,
   Qbt,QdT,QR,jBj,uT (by omega),jBj,QiK]
  unfold QD QK QK QK QK;by_cases i:e.2.2.1.all Yw=true<;>by_cases c:e.2.2.2.1.all valB=true<;>by_cases z:e.2.2.2.2.size=0<;>simp[i,c,z]
 unfold Wv;cases hk:zl e.2.1.data.toList with
 | none =>
  have m:¬(W5 (.string e.2.1) GB).isSome=true:=fun h=>by obtain⟨k,l⟩:=jw h;exact jQ hk k l
  rw[jFj m,YR,jBj];unfold Kp Yt;simp only[jBj,QR];unfold chk;rw[hk];have j:∀x:Int,Qi n ([I (inR e.1 1 1000),I 13,I x])=some (if inR e.1 1 1000=0 then 13 else 3):=by intro x;rw[uT (by omega)];unfold QK QK;obtain h|h:=QeR e.1 1 1000<;>rw[h]<;>simp
  have y:¬(if inR e.1 1 1000=0 then(13:Int) else 3)=0:=by split<;>decide
  split
  ·rw[j,jBj,jFj y]
  ·rw[j,jBj,jFj y]
 | some k =>
  obtain⟨b,f,g,d⟩:=yM (JV hk);rw[jTj b,d,jBj,YR,jBj];unfold Kq Yt;simp only[jBj,QR];unfold chk;rw[hk];have j:∀x:Int,Qi n ([I (inR e.1 1 1000),I 0,I x])=some (if inR e.1 1 1000=0 then x else 3):=by intro x;rw[uT (by omega)];unfold QK QK QK QK;obtain h|h:=QeR e.1 1 1000<;>rw[h]<;>simp;intro h;exact h.symm
  have o:((mkS (kr k)).size:Int)=(kn k:Int):=by unfold kn mkS ByteArray.size;simp
  simp only[j,jBj,jlj,o];by_cases g0:inR e.1 1 1000=0
  ·simp only[g0,if_true];by_cases i:e.2.2.1.length=kn k
   ·rw[jTj (by omega)];by_cases c:e.2.2.2.1.length=kv k
    ·have C:e.2.2.1.length=kn k/\e.2.2.2.1.length=kv k:=⟨i,c⟩
     have:(((e.2.2.2.1.length:Nat):Int) != (kv k:Int))=false:=by simp[c]
     rw[this];simp only[QD,Bool.false_eq_true,if_false,if_true];rw[jTj C];simp only[QR,jBj,QD] at a;exact a
    ·have:(((e.2.2.2.1.length:Nat):Int) != (kv k:Int))=true:=by simp;omega
     rw[this];simp only[QD,if_true];rw[jFj (by decide),jFj (fun h=>c h.2)]
   ·rw[jFj (by omega),jFj (by decide),jFj (fun h=>i h.1)]
  ·simp only[g0,if_false];split
   ·rw[jFj (by decide)]
   ·rw[jFj (by decide)]
theorem VS {n:Nat}(b:1700<=n)(e:Ev)(a:Shw n e):Wv n e.1 e.2.1 (e.2.2.1.map Sd) (e.2.2.2.1.map I) e.2.2.2.2=some (chk e) :=
 Qcw b e a.1 a.2.1 a.2.2
theorem gi0 {b:Type}{a:Int}{l:jVj}{f:Int->Option b}:(el V5 (I a::l) 0).bind f=f a:=rfl
theorem gi1 {b:Type}{x:D}{a:Int}{l:jVj}{f:Int->Option b}:(el V5 (x::I a::l) 1).bind f=f a:=rfl
theorem gi2 {b:Type}{x y:D}{a:Int}{l:jVj}{f:Int->Option b}:(el V5 (x::y::I a::l) 2).bind f=f a:=rfl
theorem gi3 {b:Type}{x y z:D}{a:Int}{l:jVj}{f:Int->Option b}:(el V5 (x::y::z::I a::l) 3).bind f=f a:=rfl
theorem gi4 {b:Type}{x y z w:D}{a:Int}{l:jVj}{f:Int->Option b}:(el V5 (x::y::z::w::I a::l) 4).bind f=f a:=rfl
theorem gs0 {b:Type}{a:jSj}{l:jVj}{f:jSj->Option b}:(el Vg (Sd a::l) 0).bind f=f a:=rfl
theorem gs1 {b:Type}{x:D}{a:jSj}{l:jVj}{f:jSj->Option b}:(el Vg (x::Sd a::l) 1).bind f=f a:=rfl
section
variable {num:Int}{kind text:jSj}{names:List jSj}{vals:List Int}{k:Ki}
theorem Good.d01 (a:Good (num,kind,names,vals,text) k)(d:kn k=0)(e:kv k=1):∃t,names=[]/\vals=[t]/\0<=t/\t<=999999999:=by
 have b:names.length=0:=a.names.trans d;have c:vals.length=1:=a.vals.trans e;match names,vals,b,c with
 | [],[t],_,_=>exact⟨t,rfl,rfl,a.val t (by simp)⟩
theorem Good.d02 (a:Good (num,kind,names,vals,text) k)(d:kn k=0)(e:kv k=2):∃t f,names=[]/\vals=[t,f]/\0<=t/\t<=999999999:=by
 have b:names.length=0:=a.names.trans d;have c:vals.length=2:=a.vals.trans e;match names,vals,b,c with
 | [],[t,v],_,_=>exact⟨t,v,rfl,rfl,a.val t (by simp)⟩
theorem Good.d11 (b:Good (num,kind,names,vals,text) k)(e:kn k=1)(f:kv k=1):∃a t,names=[a]/\vals=[t]/\0<=t/\t<=999999999:=by
 have c:names.length=1:=b.names.trans e;have d:vals.length=1:=b.vals.trans f;match names,vals,c,d with
 | [a],[t],_,_=>exact⟨a,t,rfl,rfl,b.val t (by simp)⟩
theorem Good.d12 (b:Good (num,kind,names,vals,text) k)(e:kn k=1)(f:kv k=2):∃a t g,names=[a]/\vals=[t,g]/\0<=t/\t<=999999999:=by
 have c:names.length=1:=b.names.trans e;have d:vals.length=2:=b.vals.trans f;match names,vals,c,d with
 | [a],[t,v],_,_=>exact⟨a,t,v,rfl,rfl,b.val t (by simp)⟩
theorem Good.d22 (c:Good (num,kind,names,vals,text) k)(f:kn k=2)(g:kv k=2):∃a b t h,names=[a,b]/\vals=[t,h]/\0<=t/\t<=999999999:=by
 have d:names.length=2:=c.names.trans f;have e:vals.length=2:=c.vals.trans g;match names,vals,d,e with
 | [a,b],[t,v],_,_=>exact⟨a,b,t,v,rfl,rfl,c.val t (by simp)⟩
theorem Good.d15 (b:Good (num,kind,names,vals,text) k)(e:kn k=1)(f:kv k=5):∃a t g h i j,names=[a]/\vals=[t,g,h,i,j]/\0<=t/\t<=999999999:=by
 have c:names.length=1:=b.names.trans e;have d:vals.length=5:=b.vals.trans f;match names,vals,c,d with
 | [a],[t,v,w,x,y],_,_=>exact⟨a,t,v,w,x,y,rfl,rfl,b.val t (by simp)⟩
end
theorem rmS {c b:Nat}{r:Reg}(d:Inv c r)(a:b<=200:=by decide):Wi b ((r.sectors.map Sd).length+1):=UO a (by rw[jlj];have:=d.secs;omega)
theorem rmM {c b:Nat}{r:Reg}(d:Inv c r)(hc:c<=992)(a:b<=200:=by decide):Wi b ((r.mirrors.map Q1).length+1):=UO a (by rw[jlj];have:=d.lenM;omega)
theorem rmO {c b:Nat}{r:Reg}(d:Inv c r)(hc:c<=992)(a:b<=200:=by decide):Wi b ((r.offers.map Zs).length+1):=UO a (by rw[jlj];have:=d.lenO;omega)
theorem g0 {t x:Int}{l:List Int}(h:t<x):(t::l).getD 0 0<x:=h
theorem g0n {t x:Int}{l:List Int}(h:¬t<x):¬(t::l).getD 0 0<x:=h
theorem okt {r:Reg}{t:Int}(h:¬t<r.tick)(a:0<=t/\t<=999999999):okT r t:=⟨by omega,a.2⟩
abbrev rtM (r:Reg)(t:Int)(s m o:jVj):jRj:=(t,r.level,r.filled,r.tripped,r.light+WP r t,r.heat+WP r t,r.money,s,m,o)
theorem zm {r:Reg}{a:jSj}{n:Nat}(b:zk (nmM r.mirrors) a=(n:Int))(c:n<r.mirrors.length):0<=zk (nmM r.mirrors) a/\zk (nmM r.mirrors) a<((r.mirrors.map Q1).length:Int):=by rw[b,jlj];omega
theorem hltO {r:Reg}{a:jSj}{n:Nat}(b:zk (nmO r.offers) a=(n:Int))(c:n<r.offers.length):0<=zk (nmO r.offers) a/\zk (nmO r.offers) a<((r.offers.map Zs).length:Int):=by rw[b,jlj];omega
theorem Qp (l:List UInt8):(mkS l).size=l.length:=by simp[mkS,ByteArray.size]
theorem QhQ {a b:List UInt8}:mkS a=mkS b↔a=b:=by
 constructor
 ·intro h;have:=congrArg (fun s:jSj=>s.data.toList) h;simpa[VN] using this
 ·intro h;rw[h]
theorem Qfb (a b:List UInt8):((mkS a).toList==(mkS b).toList)=decide (a=b):=by rw[Bool.eq_iff_iff,beq_iff_eq,decide_eq_true_eq,qL,qL,VN,VN]
theorem Qat (a b:List UInt8):mkS a++mkS b=mkS (a++b):=by
 have:(mkS a++mkS b).data.toList=a++b:=by rw[ByteArray.data_append];simp[mkS]
 rw[<-UA (mkS a++mkS b),this]
theorem Qhq (l:List UInt8)(i:Nat):UY (mkS l) (i:Int)=l[i]?.map fun b=>(b.toNat:Int):=by
 unfold UY;rw[jTj (Int.natCast_nonneg i),jtj];have:(mkS l)[i]?=l[i]?:=by
  by_cases h:i<l.length
  ·have a : i<(mkS l).size:=by rw[Qp];exact h
   rw[getElem?_pos (mkS l) i a,jej h];congr 1
  ·have a : ¬i<(mkS l).size:=by rw[Qp];exact h
   rw[getElem?_neg (mkS l) i a,List.getElem?_eq_none (by omega)]
 rw[this];cases l[i]?<;>rfl
theorem uY (l:List UInt8)(a b:Nat):(mkS l).extract a b=mkS ((l.take b).drop a):=by
 rw[<-UA ((mkS l).extract a b)];congr 1
 rw[ByteArray.data_extract];simp[mkS];rw[List.take_drop];by_cases h:a<=b
 ·rw[show a+(b - a)=b by omega]
 ·rw[show a+(b - a)=a by omega,List.drop_eq_nil_of_le (by simp;omega),List.drop_eq_nil_of_le (by simp;omega)]
theorem QjT (l:List UInt8){b:Nat}(a:b<=l.length):XY (mkS l) none (some (b:Int))=some (mkS (l.take b)):=by unfold XY;simp only[Option.getD_some,Option.getD_none,Qp];rw[jTj (by omega),jtj,Int.toNat_zero,uY,List.drop_zero]
theorem Qhp (l:List UInt8){a:Nat}(b:a<=l.length):XY (mkS l) (some (a:Int)) none=some (mkS (l.drop a)):=by unfold XY;simp only[Option.getD_some,Option.getD_none,Qp];rw[jTj (by omega),jtj,jtj,uY,List.take_length]
def spl (c:UInt8):List UInt8->List (List UInt8)
 | []=>[[]]
 | x::l=>if x=c then[]::spl c l else match spl c l with
  | []=>[[x]]
  | h::t=>(x::h)::t
def pre (p:List UInt8):List (List UInt8)->List (List UInt8)
 | []=>[p]
 | h::t=>(p++h)::t
theorem zK (c:UInt8)(l:List UInt8):spl c l≠[]:=by
 cases l with
 | nil=>simp[spl]
 | cons x l =>
  unfold spl;split
  ·simp
  ·split<;>simp
theorem ug (c x:UInt8)(l:List UInt8)(h:x≠c):spl c (x::l)=pre [x] (spl c l):=by
 conv=>lhs;unfold spl
 rw[jFj h];cases spl c l<;>rfl
theorem QbX (c:UInt8)(l:List UInt8):spl c (c::l)=[]::spl c l:=by
 conv=>lhs;unfold spl
 rw[jTj rfl]
theorem QiX {L:List (List UInt8)}(h:L≠[]):pre [] L=L:=by
 cases L with
 | nil=>exact absurd rfl h
 | cons a L=>rfl
theorem QiW (p q:List UInt8){L:List (List UInt8)}(h:L≠[]):pre p (pre q L)=pre (p++q) L:=by
 cases L with
 | nil=>exact absurd rfl h
 | cons a L=>simp[pre]
theorem QbY (c:UInt8):∀(a b:List UInt8),c∉a->spl c (a++b)=pre a (spl c b)
 | [],b,_=>by rw[List.nil_append,QiX (zK c b)]
 | x::a,b,h=>by rw[List.cons_append,ug c x _ (fun e=>h (by rw[e];exact jMj)),QbY c a b (fun d=>h (jmj _ d)),QiW _ _ (zK c b)];rfl
theorem Qfr (c:UInt8)(a b:List UInt8)(h:c∉a):spl c (a++c::b)=a::spl c b:=by rw[QbY c a _ h,QbX];simp[pre]
theorem Qc5 (c:UInt8)(a:List UInt8)(h:c∉a):spl c a=[a]:=by have:=QbY c a [] h;simpa[spl,pre] using this
def glue (c:UInt8):List (List UInt8)->List UInt8
 | []=>[]
 | [p]=>p
 | p::q::L=>p++c::glue c (q::L)
theorem Qif (c:UInt8)(p:List UInt8){L:List (List UInt8)}(h:L≠[]):glue c (pre p L)=p++glue c L:=by
 cases L with
 | nil=>exact absurd rfl h
 | cons a L =>
  cases L with
  | nil=>rfl
  | cons b L=>simp[pre,glue]
theorem uL (c:UInt8):∀l:List UInt8,glue c (spl c l)=l
 | []=>rfl
 | x::l=>by
  by_cases h:x=c
  ·subst h;rw[QbX];have:=zK x l;have b:=uL x l;cases hs:spl x l with
   | nil=>exact absurd hs this
   | cons a L=>rw[hs] at b;simp[glue,b]
  ·rw[ug c x l h,Qif c [x] (zK c l),uL c l];rfl
theorem Qlh (c:UInt8):∀(l:List UInt8) (p:List UInt8),p∈spl c l->c∉p
 | [],p,h=>by
  have:p=[]:=by simpa[spl] using h
  rw[this];simp
 | x::l,p,h=>by
  by_cases d:x=c
  ·subst d;rw[QbX] at h;obtain h|h:=List.mem_cons.1 h
   ·rw[h];simp
   ·exact Qlh x l p h
  ·rw[ug c x l d] at h;have e:=Qlh c l;cases hs:spl c l with
   | nil=>exact absurd hs (zK c l)
   | cons a L =>
    rw[hs] at h e;simp only[pre,List.singleton_append] at h;obtain h|h:=List.mem_cons.1 h
    ·rw[h];intro b;obtain b|b:=List.mem_cons.1 b
     ·exact d b.symm
     ·exact e a jMj b
    ·exact e p (jmj _ h)
theorem Qc6 (c:UInt8):∀(L:List (List UInt8)),L≠[]->(∀p,p∈L->c∉p)->spl c (glue c L)=L
 | [],h,_=>absurd rfl h
 | [p],_,h=>Qc5 c p (h p jMj)
 | p::q::L,_,h=>by show spl c (p++c::glue c (q::L))=_;rw[Qfr c p _ (h p jMj),Qc6 c (q::L) (by simp) (fun r a=>h r (jmj _ a))]
theorem qO (c:UInt8):∀l:List UInt8,(spl c l).length=l.count c+1
 | []=>rfl
 | x::l=>by
  by_cases h:x=c
  ·subst h;rw[QbX,List.length_cons,qO x l,List.count_cons_self]
  ·rw[ug c x l h,List.count_cons_of_ne h];have:=qO c l;cases hs:spl c l with
   | nil=>exact absurd hs (zK c l)
   | cons a L=>rw[hs] at this;simpa[pre] using this
theorem Qib {c:UInt8}:∀{l:List UInt8},c∈l->∃a b,l=a++c::b/\c∉a
 | x::l,h=>by
  by_cases e:x=c
  ·subst e;exact⟨[],l,rfl,by simp⟩
  ·obtain h|h:=List.mem_cons.1 h
   ·exact absurd h.symm e
   ·obtain⟨a,b,f,g⟩:=Qib h;refine⟨x::a,b,by rw[f];rfl,fun d=>?_⟩;obtain d|d:=List.mem_cons.1 d
    ·exact e d.symm
    ·exact g d
theorem Qbn {c:UInt8}:∀{a:List UInt8} (b:List UInt8),c∉a->Lib.indexByte (a++c::b) c=(a.length:Int)
 | [],b,_=>by simp[Lib.indexByte]
 | x::a,b,h=>by
  have f:¬(x=c):=fun e=>h (by rw[e];exact jMj);have g:=Qbn b (fun d=>h (jmj _ d));rw[List.cons_append,Lib.indexByte,jFj (by simpa using f),g];have:¬(((a.length:Int))==-1)=true:=by simp
  rw[jFj this];simp
theorem Qlp {c:UInt8}:∀{a:List UInt8},c∉a->Lib.indexByte a c=-1
 | [],_=>rfl
 | x::a,h=>by have d:¬(x=c):=fun e=>h (by rw[e];exact jMj);have f:=Qlp (fun b=>h (jmj _ b));rw[Lib.indexByte,jFj (by simpa using d),f];rfl
def eS (p:List UInt8):D:=.v (.string (mkS p))
theorem Qki:(.v (.string ⟨#[]⟩):D)=eS []:=rfl
theorem i64 {m:Int}(a : -1000000000000<=m)(b:m<=1000000000000):Qg m:=by unfold Qg;omega
theorem QiN (n:Nat)(l:List UInt8):YO n (mkS l)=some (Lib.indexByte l 32):=by
 unfold YO V2;have e:(⟨#[32]⟩:jSj)=mkS [32]:=rfl;rw[e,Qfb];by_cases h:[32]=l
 ·rw[jTj (jDj h),<-h];rfl
 ·rw[jFj (by simpa using h)];unfold Un;rw[VN];rfl
theorem zB (n:Nat)(l:List UInt8)(y:l.length<=2000):∀(m:Nat) (done:List (List UInt8)) (s:List UInt8) (k:Nat),s.count 32=m->done.length+m=l.count 32->spl 32 l=done++spl 32 s->s.length<=2000->m<k ->
  ∃(done' : List (List UInt8)) (s' : List UInt8),QU (Wb n (mkS l) ((l.count 32:Nat):Int)) k (mkS s,(done.length:Int),done.map eS++List.replicate (m+1) (eS []))=some (mkS s',((l.count 32:Nat):Int),done'.map eS++[eS []])/\done'.length=l.count 32/\spl 32 l=done'++[s']
 | _,_,_,0,_,_,_,_,hk=>absurd hk (by omega)
 | 0,done,s,k+1,hm,hd,hs,_,_=>by
  have g:(32:UInt8)∉s:=List.count_eq_zero.1 hm;have i:l.count 32<=l.length:=List.count_le_length;refine⟨done,s,?_,by omega,by rw[hs,Qc5 32 s g]⟩;have c:Zv (((l.count 32:Nat):Int)+1) (((mkS l).size:Int)+1)=((l.count 32:Nat):Int)+1:=by rw[Qp];unfold Zv;split<;>omega
  rw[ZP (e:=(mkS s,(done.length:Int),done.map eS++List.replicate 1 (eS [])))]
  ·rw[show done.length=l.count 32 by omega];rfl
  ·unfold Wb;dsimp only;rw[c,jFj (by omega)]
 | m+1,done,s,k+1,hm,hd,hs,hsl,hk=>by
  have i:l.count 32<=l.length:=List.count_le_length;have c:Zv (((l.count 32:Nat):Int)+1) (((mkS l).size:Int)+1)=((l.count 32:Nat):Int)+1:=by rw[Qp];unfold Zv;split<;>omega
  obtain⟨a,b,rfl,f⟩:=Qib (List.count_pos_iff.1 (show 0<s.count 32 by omega));have h:b.count 32=m:=by rw[List.count_append,List.count_cons_self,List.count_eq_zero.2 f] at hm;omega
  have j:a.length+b.length+1<=2000:=by simp at hsl;omega
  obtain⟨done',s',r,t,u⟩:=zB n l y m (done++[a]) b k h (by simp;omega) (by rw[hs,Qfr 32 a b f];simp) (by omega) (by omega);refine⟨done',s',?_,t,u⟩;rw[W8 (s':=(mkS b,((done++[a]).length:Int),(done++[a]).map eS++List.replicate (m+1) (eS [])))]
  ·exact r
  ·unfold Wb;dsimp only;have x:(a++32::b).length=a.length+b.length+1:=by simp;omega
   have d:(done.map eS++List.replicate (m+1+1) (eS [])).length=done.length+m+2:=by simp;omega
   rw[c,jTj (by omega),QiN,jBj,Qbn b f,jFj (by omega),jTj (i64 (by omega) (by omega)),Int.add_zero,QjT _ (by omega),jBj,
    jTj (by rw[d];omega),jTj (by rw[d,jtj];omega),jTj (i64 (by omega) (by omega))]
   rw[show(a.length:Int)+1=((a.length+1:Nat):Int) by simp,Qhp _ (by omega),jBj,jTj (i64 (by omega) (by omega))];have o:(a++32::b).drop (a.length+1)=b:=by simp
   have p:(a++32::b).take a.length=a:=by simp
   have q:(done.map eS++List.replicate (m+1+1) (eS [])).set (Int.toNat (done.length:Int)) (.v (.string (mkS a)))=(done++[a]).map eS++List.replicate (m+1) (eS []):=by rw[jtj,List.set_append_right _ _ (by simp)];simp[List.replicate_succ,eS]
   rw[o,p,q];simp
theorem ue {n:Nat}(m:3000<=n){l:List UInt8}(g:l.length<=2000):YN n (mkS l)=some ((spl 32 l).map eS):=by
 have k:l.count 32<=l.length:=List.count_le_length;obtain⟨done,s,i,f,j⟩:=zB n l g (l.count 32) [] l n rfl (by simp) (by simp) g (by omega);have d:Zv (((l.count 32:Nat):Int)+1) (((mkS l).size:Int)+1)=((l.count 32+1:Nat):Int):=by rw[Qp];unfold Zv;split<;>omega
 unfold YN YI;have a:UC n (mkS l) ⟨#[32]⟩=some ((l.count 32:Nat):Int):=by show some ((Lib.countByte (mkS l).data.toList 32:Nat):Int)=_;rw[VN];rfl
 rw[a,jBj,jTj (i64 (by omega) (by omega)),jTj (by rw[Qp];exact i64 (by omega) (by omega)),d,jTj (by omega),jTj (i64 (by omega) (by omega))];rw[jtj,Qki];have e : QU (Wb n (mkS l) ((l.count 32:Nat):Int)) n (mkS l,0,List.replicate (l.count 32+1) (eS []))=some (mkS s,((l.count 32:Nat):Int),done.map eS++[eS []]):=i;rw[e,jBj];dsimp only;have c:(done.map eS++[eS []]).length=l.count 32+1:=by simp[f]
 have h:(done.map eS++[eS []]).set (Int.toNat ((l.count 32:Nat):Int)) (.v (.string (mkS s)))=(spl 32 l).map eS:=by rw[jtj,List.set_append_right _ _ (by simp[f]),j];simp[f,eS]
 have b:((spl 32 l).map eS).length=l.count 32+1:=by rw[jlj,qO]
 rw[jTj (by rw[c];omega),jTj (by rw[c,jtj];omega),jTj (i64 (by omega) (by omega)),h,jTj (by rw[b];exact⟨by decide,by omega,by omega,.inr rfl⟩)];rw[show Int.toNat (((l.count 32:Nat):Int)+1)=l.count 32+1 by omega,<-b,List.take_length];rfl
def US (l:List UInt8):Prop:=∀c,c∈l->48<=c.toNat/\c.toNat<=57
instance (l:List UInt8):Decidable (US l):=by unfold US;infer_instance
def yX:Nat->List UInt8->Nat
 | n,[]=>n
 | n,c::l=>yX (10*n+(c.toNat - 48)) l
def yk (d:List UInt8):Prop:=d≠[]/\d.length<=9/\US d/\(d.head?≠some 48\/d.length=1)
instance (l:List UInt8):Decidable (yk l):=by unfold yk;infer_instance
theorem uJ {c:UInt8}{l:List UInt8}:US (c::l)↔(48<=c.toNat/\c.toNat<=57)/\US l:=by simp[US]
theorem QgJ {a b:List UInt8}:US (a++b)↔US a/\US b:=by simp only[US,List.mem_append];exact⟨fun h=>⟨fun c hc=>h c (.inl hc),fun c hc=>h c (.inr hc)⟩,fun h c hc=>hc.elim (h.1 c) (h.2 c)⟩
theorem QcT:∀(a b:List UInt8) (n:Nat),yX n (a++b)=yX (yX n a) b
 | [],_,_=>rfl
 | c::a,b,n=>QcT a b _
theorem Qgh (a:List UInt8)(c:UInt8)(n:Nat):yX n (a++[c])=10*yX n a+(c.toNat - 48):=by rw[QcT];rfl
theorem EU {k:Nat}(h:k<10):(UInt8.ofNat (48+k)).toNat=48+k:=by simp only[UInt8.toNat_ofNat'];omega
theorem Qbl {k:Nat}(h:k<10):US [UInt8.ofNat (48+k)]:=by intro c hc;rw[List.mem_singleton] at hc;rw[hc,EU h];omega
theorem qi (u:Nat):US (Lib.decDigits u)/\Lib.decDigits u≠[]/\yX 0 (Lib.decDigits u)=u/\((Lib.decDigits u).head?≠some 48\/(Lib.decDigits u).length=1)/\∀k,1<=k->u<10 ^ k->(Lib.decDigits u).length<=k:=by
 induction u using Nat.strongRecOn with
 | _ u s =>
  by_cases h:u<10
  ·rw[Lib.decDigits,dif_pos h];refine⟨Qbl h,by simp,?_,.inr rfl,fun k f _=>by simpa using f⟩;show 10*0+((UInt8.ofNat (48+u)).toNat - 48)=u;rw[EU h];omega
  ·rw[Lib.decDigits,dif_neg h];obtain⟨j,m,e,n,o⟩:=s (u / 10) (by omega);have g:u % 10<10:=Nat.mod_lt _ (by decide);refine⟨QgJ.2 ⟨j,Qbl g⟩,by simp,?_,.inl ?_,fun k f i=>?_⟩
   ·rw[Qgh,e,EU g];omega
   ·have b:(Lib.decDigits (u / 10)).head?≠some 48:=by
     intro d;have q:=n.resolve_left (fun hc=>hc d);have r:yX 0 (Lib.decDigits (u / 10))=0:=by
      match hd:Lib.decDigits (u / 10),q with
      | [c],_ =>
       rw[hd] at d;simp only[List.head?_cons,jIj] at d;rw[d];rfl
     rw[e] at r;omega
    cases hd:Lib.decDigits (u / 10) with
    | nil=>exact absurd hd m
    | cons a l=>rw[hd] at b;simpa using b
   ·cases k with
    | zero=>omega
    | succ k =>
     have p:k≠0:=by rintro rfl;simp at i;omega
     have:=o k (by omega) (by rw[Nat.pow_succ] at i;omega);rw[jaj];simpa using this
theorem Qis {u:Nat}(h:u<1000000000):yk (Lib.decDigits u):=by obtain⟨a,b,e,c,d⟩:=qi u;exact⟨b,d 9 (by decide) (by simpa using h),a,c⟩
def num (w:List UInt8):Option Int:=if yk w then some (yX 0 w:Int) else none
theorem Ed {n:Int}(h:0<=n):Lib.itoa n=Lib.decDigits n.toNat:=by unfold Lib.itoa;rw[jFj (by omega)]
theorem uv {n:Int}(a:0<=n)(c:n<1000000000):num (Lib.itoa n)=some n:=by have b:=qi n.toNat;unfold num;rw[Ed a,jTj (Qis (by omega)),b.2.2.1];congr 1;omega
theorem QdM {n:Int}(h:0<=n):US (Lib.itoa n):=by rw[Ed h];exact(qi _).1
theorem qa {n:Int}(a:0<=n)(b:n<1000000000):(Lib.itoa n).length<=9:=by rw[Ed a];exact(Qis (u:=n.toNat) (by omega)).2.1
abbrev Wrd:=List UInt8
theorem Qem {m:Int}(h:Qg m):IntKind.wrap .i64 m=m:=by unfold Qg at h;rw[IntKind.wrap_i64];omega
theorem kx {l:Wrd}{i:Nat}{x:UInt8}(h:l[i]?=some x):Kf (mkS l) i=x.toNat:=by obtain⟨a,b⟩:=jGj h;show(l.toArray[i]!).toNat=x.toNat;rw[getElem!_pos l.toArray i (by simpa using a)];simp[b]
theorem QjN {m:Int}(a:0<=m)(b:m<=9):IntKind.wrap .i32 m=m:=by
 have:m=0\/m=1\/m=2\/m=3\/m=4\/m=5\/m=6\/m=7\/m=8\/m=9:=by omega
 obtain h|h|h|h|h|h|h|h|h|h:=this<;>subst h<;>decide
theorem QkB {i v:Nat}(a:i<=9)(h:v<10 ^ i):v<1000000000:=by have:10 ^ i<=10 ^ 9:=Nat.pow_le_pow_right (by decide) a;omega
theorem Qjo {d a:Wrd}{i:Nat}{x:UInt8}(c:d.drop i=x::a):i<d.length/\d[i]?=some x/\d.drop (i+1)=a:=by
 have b:i<d.length:=by
  obtain h|h:=Nat.lt_or_ge i d.length
  ·exact h
  ·rw[List.drop_eq_nil_of_le h] at c;cases c
 have:=List.drop_eq_getElem_cons b;rw[c] at this;refine⟨b,?_,(List.cons.inj this).2.symm⟩;rw[jej b];exact congrArg some (List.cons.inj this).1.symm
theorem Qh9 (n:Nat){d:Wrd}{i v:Nat}{x:UInt8}(b:i<d.length)(a:Utf8.decode (mkS d) i=(x.toNat,1))(g:48<=x.toNat/\x.toNat<=57)(h:d.length<=9)(q:v<1000000000) :
  ZC n (mkS d) ((v:Int),i)=some (.inl (((10*v+(x.toNat - 48):Nat):Int),i+1)):=by
 have c:i<(mkS d).size:=by rw[Qp];exact b
 have e:IntKind.wrap .i32 ((x.toNat:Int) - 48)=(x.toNat:Int) - 48:=QjN (by omega) (by omega);have f:IntKind.wrap .i64 ((x.toNat:Int) - 48)=(x.toNat:Int) - 48:=Qem (i64 (by omega) (by omega));have j:¬((x.toNat:Int)<48):=by omega
 have k:¬((x.toNat:Int)>57):=by omega
 have l:¬(((mkS d).size:Int)>9):=by rw[Qp];omega
 have m:Qg (10*(v:Int)):=i64 (by omega) (by omega);have o:Qg (10*(v:Int)+((x.toNat:Int) - 48)):=i64 (by omega) (by omega);have p:(10*(v:Int)+((x.toNat:Int) - 48))=((10*v+(x.toNat - 48):Nat):Int):=by omega
 unfold ZC;simp only[a,c,if_true,jFj j,jFj k,jFj l,jTj m,e,f,jTj o];rw[p]
theorem QdQ (n:Nat)(d:Wrd):∀(a:Wrd) (i v k:Nat),d.drop i=a->i<=d.length->v<10 ^ i->a.length<k ->
  QU (ZC n (mkS d)) k ((v:Int),i)=some (if US a/\(d.length<=9\/a=[]) then .inr (yX v a:Int) else .inl ())
 | _,_,_,0,_,_,_,hk=>absurd hk (by omega)
 | [],i,v,k+1,hd,hi,_,_=>by
  have u:i=d.length:=by have:=List.drop_eq_nil_iff.1 hd;omega
  rw[ZP (e:=.inr (v:Int)),jTj (show US []/\(d.length<=9\/([]:Wrd)=[]) from⟨fun c hc=>(by cases hc),.inr rfl⟩)]
  ·rfl
  unfold ZC;dsimp only;rw[jFj (by rw[Qp];omega)]
 | x::a,i,v,k+1,hd,hi,hv,hk=>by
  obtain⟨l,y,o⟩:=Qjo hd;have j:=kx y;by_cases g:48<=x.toNat/\x.toNat<=57
  ·have b:Utf8.decode (mkS d) i=(x.toNat,1):=by have:=Ek (s:=mkS d) (p:=i) (by rw[j];omega);rw[j] at this;exact this
   by_cases f:d.length<=9
   ·have q:v<1000000000:=QkB (by omega) hv;have z:=QdQ n d a (i+1) (10*v+(x.toNat - 48)) k o l (by rw[Nat.pow_succ];omega) (by simp at hk;omega);rw[W8 (s':=(((10*v+(x.toNat - 48):Nat):Int),i+1)),z]
    ·have e:(US (x::a)/\(d.length<=9\/x::a=[]))↔(US a/\(d.length<=9\/a=[])):=by rw[uJ];exact⟨fun h=>⟨h.1.2,.inl f⟩,fun h=>⟨⟨g,h.1⟩,.inl f⟩⟩
     by_cases m:US a/\(d.length<=9\/a=[])
     ·rw[jTj m,jTj (e.2 m)];rfl
     ·rw[jFj m,jFj (fun h=>m (e.1 h))]
    ·exact Qh9 n l b g f q
   ·rw[ZP (e:=.inl ()),jFj (fun h=>h.2.elim (fun h=>f h) (fun h=>by cases h))];unfold ZC;dsimp only;rw[jTj (by rw[Qp];omega),b];dsimp only;rw[jFj (by omega),jFj (by omega),jTj (by rw[Qp];omega)]
  ·rw[ZP (e:=.inl ()),jFj (fun h=>g (uJ.1 h.1).1)];unfold ZC;dsimp only;rw[jTj (by rw[Qp];omega)];by_cases r:x.toNat<128
   ·have b:Utf8.decode (mkS d) i=(x.toNat,1):=by have:=Ek (s:=mkS d) (p:=i) (by rw[j];exact r);rw[j] at this;exact this
    rw[b];dsimp only;by_cases t:x.toNat<48
    ·rw[jTj (by omega)]
    ·rw[jFj (by omega),jTj (by omega)]
   ·have:=yl (s:=mkS d) (p:=i) (by rw[j];exact r);rw[jFj (by omega),jTj (by omega)]
def intV (w:Wrd):Int:=if US w/\(w.length<=9\/w=[]) then(yX 0 w:Int) else 0
theorem Qia {w:Wrd}{v:Int}(h:num w=some v):intV w=v:=by
 unfold num at h;split at h;case isFalse=>cases h
 rename_i a;unfold intV;rw[jTj ⟨a.2.2.1,.inl a.2.1⟩];exact Option.some.inj h
theorem QeQ {n:Nat}(k:3000<=n){w:Wrd}(l:w.length<=2000):YP n (mkS w)=some (intV w,(num w).isSome):=by
 unfold YP;have d:QU (ZC n (mkS w)) n (0,0)=_:=QdQ n w w 0 0 n rfl (Nat.zero_le _) (by decide) (by omega);rw[d];unfold intV num;have j:(⟨#[]⟩:jSj)=mkS []:=rfl;by_cases hc:US w/\(w.length<=9\/w=[])
 ·rw[jTj hc,jTj hc,jBj];dsimp only;rw[j,Qfb];cases w with
  | nil =>
   have a:¬yk []:=fun h=>h.1 rfl;rw[jFj (by decide),jFj a];rfl
  | cons x r =>
   have c:(x::r).length<=9:=hc.2.resolve_right (by simp);have i:UY (mkS (x::r)) 0=some (x.toNat:Int):=Qhq (x::r) 0;rw[jTj (by simp),i];by_cases g:(x::r).length=1
   ·rw[jTj (by rw[Qp,g];rfl),jTj ⟨by simp,c,hc.1,.inr g⟩];rfl
   ·rw[jFj (by rw[Qp];omega),jBj];by_cases b:x=48
    ·have a:¬yk (x::r):=fun h=>by
      obtain h|h:=h.2.2.2
      ·rw[b] at h;exact h rfl
      ·exact g h
     rw[jFj a,b];rfl
    ·have f : ¬((x.toNat:Int)=48):=fun e=>b (UInt8.toNat_inj.1 (by show x.toNat=48;omega));rw[jTj ⟨by simp,c,hc.1,.inl (by simpa using b)⟩];simp[f]
 ·have a:¬yk w:=fun h=>hc ⟨h.2.2.1,.inl h.2.1⟩;rw[jFj hc,jFj hc,jBj,jFj a];rfl
def ZA (wsx:List Wrd)(b:Bool):Wrd×List Wrd×Bool:=match wsx with
 | []=>([],[],true)
 | w::l=>if w=[] then([],[],true) else(w,l,b)
def UV (wsx:List Wrd)(b:Bool):Int×List Wrd×Bool :=
 (intV (ZA wsx b).1,(ZA wsx b).2.1,if(ZA wsx b).2.2=true then true else !(num (ZA wsx b).1).isSome)
theorem yW {w:Wrd}{l:List Wrd}(b:Bool)(h:¬w=[]):ZA (w::l) b=(w,l,b):=by unfold ZA;dsimp only;rw[jFj h]
theorem Qgf (l:List Wrd)(b:Bool):ZA ([]::l) b=([],[],true):=by unfold ZA;dsimp only;rw[jTj rfl]
def OkW (wsx:List Wrd):Prop:=wsx.length<=3000/\∀w,w∈wsx->w.length<=2000
theorem K7 {wsx:List Wrd}(b:Bool)(h:OkW wsx):OkW (ZA wsx b).2.1/\(ZA wsx b).1.length<=2000:=by
 unfold ZA;cases wsx with
 | nil=>exact⟨⟨by simp,fun w a=>by cases a⟩,by simp⟩
 | cons w l =>
  dsimp only;by_cases a:w=[]
  ·rw[jTj a];exact⟨⟨by simp,fun w a=>by cases a⟩,by simp⟩
  ·rw[jFj a];exact⟨⟨by have:=h.1;simp at this ⊢;omega,fun x c=>h.2 x (jmj _ c)⟩,h.2 w jMj⟩
theorem zf (w:Wrd):((mkS w).toList==(⟨#[]⟩:jSj).toList)=decide (w=[]):=Qfb w []
theorem Qby {L:List Wrd}{i:Nat}{w:Wrd}(h:L[i]?=some w):el Vg (L.map eS) (i:Int)=some (mkS w) :=
 UG (un:=Vg) (enc:=fun x:jSj=>(.v (.string x):D)) (fun _=>rfl) (l:=L.map mkS) (i:=i) (x:=mkS w) (by rw[List.getElem?_map,h];rfl) ▸ (by rw[List.map_map];rfl)
theorem yK (n:Nat){wsx:List Wrd}(b:Bool)(h:OkW wsx):Wt n (wsx.map eS) b=some (mkS (ZA wsx b).1,(ZA wsx b).2.1.map eS,(ZA wsx b).2.2):=by
 unfold Wt ZA;cases wsx with
 | nil=>rfl
 | cons w l =>
  have d:=h.1;simp only[List.length_cons] at d;have c:el Vg ((w::l).map eS) 0=some (mkS w):=Qby (i:=0) rfl;rw[jFj (by simp;omega),c,jBj,zf];by_cases a:w=[]
  ·rw[jTj (by simpa using a)];dsimp only;rw[jTj a];rfl
  ·rw[jFj (by simpa using a),jTj (by simp;omega)];dsimp only;rw[jFj a];rfl
theorem Qbd {n:Nat}(c:3000<=n){wsx:List Wrd}(b:Bool)(h:OkW wsx):Zp n (wsx.map eS) b=some ((UV wsx b).1,(UV wsx b).2.1.map eS,(UV wsx b).2.2):=by
 unfold Zp UV;rw[yK n b h,jBj];dsimp only;rw[QeQ c (K7 b h).2,jBj];by_cases a:(ZA wsx b).2.2=true
 ·rw[jTj a,jTj a]
 ·rw[jFj a,jFj a]
theorem QfC {wsx:List Wrd}(b:Bool)(h:OkW wsx):OkW (UV wsx b).2.1:=(K7 b h).1
def YK {a:Type}(f:List Wrd->Bool->a×List Wrd×Bool):Nat->List Wrd->Bool->List a×List Wrd×Bool
 | 0,wsx,b=>([],wsx,b)
 | k+1,wsx,b=>((f wsx b).1::(YK f k (f wsx b).2.1 (f wsx b).2.2).1,(YK f k (f wsx b).2.1 (f wsx b).2.2).2)
theorem QcR (wsx:List Wrd):(ZA wsx true).2.2=true:=by
 unfold ZA;cases wsx with
 | nil=>rfl
 | cons w l=>dsimp only;split<;>rfl
theorem QfF (wsx:List Wrd):(UV wsx true).2.2=true:=by unfold UV;rw[QcR];rfl
theorem wz {b:Type}{f:List Wrd->Bool->b×List Wrd×Bool}(a:∀wsx,(f wsx true).2.2=true):∀(k:Nat) (wsx:List Wrd),(YK f k wsx true).2.2=true
 | 0,wsx=>rfl
 | k+1,wsx=>by show(YK f k (f wsx true).2.1 (f wsx true).2.2).2.2=true;rw[a];exact wz a k _
theorem Qft {c:Type}{f:List Wrd->Bool->c×List Wrd×Bool}(a:∀{wsx} b,OkW wsx->OkW (f wsx b).2.1):∀(k:Nat) (wsx:List Wrd) (b:Bool),OkW wsx->OkW (YK f k wsx b).2.1
 | 0,wsx,b,h=>h
 | k+1,wsx,b,h=>Qft a k _ _ (a b h)
theorem jz {m:Type}{f:List Wrd->Bool->m×List Wrd×Bool}(g:Wrd->Option m)(b:∀wsx,(f wsx true).2.2=true)(d:(f [] false).2.2=true)
  (i:∀w l x,g w=some x->f (w::l) false=(x,l,false)) (j:∀w l,g w=none->(f (w::l) false).2.2=true):∀(k:Nat) (wsx:List Wrd),
  (∃xs,k<=wsx.length/\(wsx.take k).mapM g=some xs/\YK f k wsx false=(xs,wsx.drop k,false))\/(¬(k<=wsx.length/\((wsx.take k).mapM g).isSome=true)/\(YK f k wsx false).2.2=true)
 | 0,wsx=>.inl ⟨[],Nat.zero_le _,rfl,rfl⟩
 | k+1,[]=>by refine .inr ⟨fun h=>absurd h.1 (by simp),?_⟩;show(YK f k (f [] false).2.1 (f [] false).2.2).2.2=true;rw[d];exact wz b k _
 | k+1,w::l=>by
  cases hg:g w with
  | none =>
   refine .inr ⟨fun h=>?_,?_⟩
   ·have:=h.2;rw[List.take_succ_cons,List.mapM_cons,hg] at this;cases this
   ·show(YK f k (f (w::l) false).2.1 (f (w::l) false).2.2).2.2=true;rw[j w l hg];exact wz b k _
  | some x =>
   have e:YK f (k+1) (w::l) false=(x::(YK f k l false).1,(YK f k l false).2):=by show(_,_)=_;rw[i w l x hg]
   rw[e];obtain⟨xs,c,a,n⟩|⟨c,a⟩:=jz g b d i j k l
   ·refine .inl ⟨x::xs,by simp;omega,?_,?_⟩
    ·rw[List.take_succ_cons,List.mapM_cons,hg,a];rfl
    ·rw[n];rfl
   ·refine .inr ⟨fun h=>c ⟨by have:=h.1;simp at this;omega,?_⟩,a⟩;have:=h.2;rw[List.take_succ_cons,List.mapM_cons,hg] at this;cases hm:(l.take k).mapM g with
    | none=>rw[hm] at this;cases this
    | some _=>rfl
def nmG (w:Wrd):Option Wrd:=if w=[] then none else some w
theorem QeI (k:Nat)(wsx:List Wrd):(∃xs,k<=wsx.length/\(wsx.take k).mapM nmG=some xs/\YK ZA k wsx false=(xs,wsx.drop k,false))\/(¬(k<=wsx.length/\((wsx.take k).mapM nmG).isSome=true)/\(YK ZA k wsx false).2.2=true) :=
 jz nmG QcR rfl
  (fun w l x h=>by
   unfold nmG at h;split at h
   ·cases h
   ·rename_i a;cases h;unfold ZA;dsimp only;rw[jFj a])
  (fun w l h=>by
   unfold nmG at h;split at h
   ·rename_i a;unfold ZA;dsimp only;rw[jTj a]
   ·cases h) k wsx
theorem Qgg (k:Nat)(wsx:List Wrd):(∃xs,k<=wsx.length/\(wsx.take k).mapM num=some xs/\YK UV k wsx false=(xs,wsx.drop k,false))\/(¬(k<=wsx.length/\((wsx.take k).mapM num).isSome=true)/\(YK UV k wsx false).2.2=true) :=
 jz num QfF rfl
  (fun w l x h=>by
   have a:¬w=[]:=fun e=>by rw[e] at h;unfold num at h;rw[jFj (fun h:yk []=>h.1 rfl)] at h;cases h
   unfold UV;rw[yW false a,h,Qia h];rfl)
  (fun w l h=>by
   unfold UV;by_cases a:w=[]
   ·rw[a,Qgf];rfl
   ·rw[yW false a,h];rfl) k wsx
abbrev Tri:=Ki×List Wrd×List Int
def Jl:List Wrd->Option Tri
 | []=>none
 | w::rest=>match zl w with
  | none=>none
  | some k=>if rest.length=kn k+kv k then(((rest.take (kn k)).mapM nmG).bind fun ns=>((rest.drop (kn k)).mapM num).bind fun vs=>some (k,ns,vs)) else none
theorem jN (k:Ki):kn k<=2/\kv k<=5:=by cases k<;>decide
theorem Qh1 (k:Ki):∀(p:Nat),p<(kr k).length->Utf8.decode (mkS (kr k)) p=((Kf (mkS (kr k)) p),1):=by
 intro p hp;refine Ek ?_;have h:∀c,c∈kr k->c.toNat<128:=by cases k<;>decide
 obtain⟨x,a⟩:∃x,(kr k)[p]?=some x:=⟨_,jej hp⟩
 rw[kx a];exact h x (jgj a)
theorem QjA {b k:Nat}(a:b<=200)(h:k<=5000):Wi b k:=UO a h
theorem QdX (n:Nat)(a0:Int){wsx:List Wrd}(b:Bool)(w:jSj)(k:Ki)(v:Int)(f g:FnD)(d:OkW wsx):∀(m p:Nat) (acc:List Wrd) (a:List Wrd) (c:Bool) (K:Nat),p+m=kn k->p=acc.length->OkW a->m<K->p≠0 ->
  QU (WA n a0 (w,wsx.map eS,b) (mkS (kr k),v,f,g)) K (.inr (a.map eS,c,p,acc.map eS))=some (.inr ((YK ZA m a c).2.1.map eS,(YK ZA m a c).2.2,(acc++(YK ZA m a c).1).map eS))
 | m,p,acc,a,c,0,_,_,_,hK,_=>absurd hK (by omega)
 | 0,p,acc,a,c,K+1,hp,ha,hu,hK,h0=>by
  rw[ZP (e:=.inr (a.map eS,c,acc.map eS))]
  ·simp only[YK,List.append_nil]
  unfold WA;dsimp only;rw[jFj (by rw[Qp];unfold kn at hp;omega)]
 | m+1,p,acc,a,c,K+1,hp,ha,hu,hK,h0=>by
  have i:=jN k;have h:=QdX n a0 b w k v f g d m (p+1) (acc++[(ZA a c).1]) (ZA a c).2.1 (ZA a c).2.2 K (by omega) (by simp;omega) (K7 c hu).1 (by omega) (by omega);rw[W8 (s':=.inr ((ZA a c).2.1.map eS,(ZA a c).2.2,p+1,(acc++[(ZA a c).1]).map eS)),h]
  ·simp only[YK,List.append_assoc,List.singleton_append]
  ·unfold WA;dsimp only;rw[jTj (by rw[Qp];unfold kn at hp;omega),yK n c hu,jBj,jTj (QjA (by decide) (by rw[jlj];omega)),Qh1 k p (by unfold kn at hp;omega),List.map_append];rfl
theorem QgS (n:Nat)(i:3000<=n)(a0:Int){wsx:List Wrd}(b:Bool)(w:jSj)(k:Ki)(v:Int)(f g:FnD)(d:OkW wsx) :
  QU (WA n a0 (w,wsx.map eS,b) (mkS (kr k),v,f,g)) n (.inl ())=some (if kn k=0 then .inl () else .inr ((YK ZA (kn k) wsx b).2.1.map eS,(YK ZA (kn k) wsx b).2.2,(YK ZA (kn k) wsx b).1.map eS)):=by
 have h:=jN k;obtain⟨K,rfl⟩:∃K,n=K+1:=⟨n - 1,by omega⟩
 by_cases a:kn k=0
 ·rw[jTj a];refine ZP ?_;unfold WA;dsimp only;rw[jFj (by rw[Qp];unfold kn at a;omega)]
 ·rw[jFj a];obtain⟨m,c⟩:∃m,kn k=m+1:=⟨kn k - 1,by omega⟩
  have e:=QdX (K+1) a0 b w k v f g d m 1 [(ZA wsx b).1] (ZA wsx b).2.1 (ZA wsx b).2.2 K (by omega) rfl (K7 b d).1 (by omega) (by omega);rw[W8 (s':=.inr ((ZA wsx b).2.1.map eS,(ZA wsx b).2.2,1,[(ZA wsx b).1].map eS)),e,c]
  ·rfl
  ·unfold WA;dsimp only;rw[jTj (by rw[Qp];unfold kn at c;omega),yK _ b d,jBj,Qh1 k 0 (by unfold kn at c;omega)];rfl
theorem QfZ {n:Nat}(k:3000<=n){step:(Unit)⊕(Int×jVj×Bool×jVj)->Option ((Unit⊕Int×jVj×Bool×jVj)⊕Unit⊕jVj×Bool×jVj)}{V:Nat}{wsx:List Wrd}{b:Bool}(l:OkW wsx)(u:V<=5)
  (o:step (.inl ())=if 0<(V:Int) then(Zp n (wsx.map eS) b).bind fun t=>some (.inl (.inr (1,t.2.1,t.2.2,[I t.1]))) else some (.inr (.inl ())))
  (q:∀(i:Int) (a:jVj) (c:Bool) (acc:jVj),step (.inr (i,a,c,acc))=if i<(V:Int) then(Zp n a c).bind fun t=>if Wi 8 (acc.length+1) then if Qg (i+1) then some (.inl (.inr (i+1,t.2.1,t.2.2,acc++([I t.1]:jVj)))) else none else none else some (.inr (.inr (a,c,acc)))) :
  QU step n (.inl ())=some (if V=0 then .inl () else .inr ((YK UV V wsx b).2.1.map eS,(YK UV V wsx b).2.2,(YK UV V wsx b).1.map I)):=by
 have main:∀(m p:Nat) (acc:List Int) (a:List Wrd) (c:Bool) (K:Nat),p+m=V->p=acc.length->OkW a->m<K ->
   QU step K (.inr ((p:Int),a.map eS,c,acc.map I))=some (.inr ((YK UV m a c).2.1.map eS,(YK UV m a c).2.2,(acc++(YK UV m a c).1).map I)):=by
  intro m;induction m with
  | zero =>
   intro p acc a c K hp r f d;obtain⟨K,rfl⟩:∃j,K=j+1:=⟨K - 1,by omega⟩
   rw[ZP (e:=.inr (a.map eS,c,acc.map I))]
   ·simp only[YK,List.append_nil]
   rw[q,jFj (by omega)]
  | succ m ih =>
   intro p acc a c K hp r f d;obtain⟨K,rfl⟩:∃j,K=j+1:=⟨K - 1,by omega⟩
   have h:=ih (p+1) (acc++[(UV a c).1]) (UV a c).2.1 (UV a c).2.2 K (by omega) (by simp;omega) (QfC c f) (by omega);rw[W8 (s':=.inr (((p+1:Nat):Int),(UV a c).2.1.map eS,(UV a c).2.2,(acc++[(UV a c).1]).map I)),h]
   ·simp only[YK,List.append_assoc,List.singleton_append]
   ·rw[q,jTj (by omega),Qbd k c f,jBj,jTj (QjA (by decide) (by rw[jlj];omega)),jTj (i64 (by omega) (by omega)),List.map_append];rfl
 obtain⟨K,d⟩:∃j,n=j+1:=⟨n - 1,by omega⟩
 by_cases g:V=0
 ·rw[jTj g,d];refine ZP ?_;rw[o,jFj (by omega)]
 ·rw[jFj g];obtain⟨m,s⟩:∃m,V=m+1:=⟨V - 1,by omega⟩
  have h:=main m 1 [(UV wsx b).1] (UV wsx b).2.1 (UV wsx b).2.2 K (by omega) rfl (QfC b l) (by omega);rw[show QU step n (.inl ())=QU step (K+1) (.inl ()) by rw[<-d],W8 (s':=.inr (1,(UV wsx b).2.1.map eS,(UV wsx b).2.2,[(UV wsx b).1].map I))]
  ·rw[s];exact h
  ·rw[o,jTj (by omega),Qbd k b l,jBj];rfl
def evX (wsx:List Wrd):Option (jSj×List Wrd×List Int×Bool):=match zl (ZA wsx false).1 with
 | none=>none
 | some k =>
  let r:=YK ZA (kn k) (ZA wsx false).2.1 (ZA wsx false).2.2
  let q:=YK UV (kv k) r.2.1 r.2.2
  some (mkS (ZA wsx false).1,r.1,q.1,if q.2.2=true then false else decide (q.2.1=[]))
theorem len0 (l:List Wrd):(((l.map eS).length:Int)==0)=decide (l=[]):=by
 cases l with
 | nil=>rfl
 | cons a l=>simp;omega
theorem Qcs (b d:Bool)(a0:Int)(w:jSj)(ns vs:jVj):(if b=true then some (a0,w,ns,vs,(⟨#[]⟩:jSj),false) else some (a0,w,ns,vs,⟨#[]⟩,d))=some (a0,w,ns,vs,⟨#[]⟩,if b=true then false else d):=by cases b<;>rfl
theorem uZ {n:Nat}(j:3000<=n)(a0:Int){wsx:List Wrd}(e:OkW wsx):Yj n a0 (wsx.map eS)=some (match evX wsx with
  | none=>(0,⟨#[]⟩,[],[],⟨#[]⟩,false)
  | some (w,ns,vs,ok)=>(a0,w,ns.map eS,vs.map I,⟨#[]⟩,ok)):=by
 unfold Yj evX;rw[yK n false e,jBj];dsimp only;cases hk:zl (ZA wsx false).1 with
 | none =>
  have l:¬(W5 (.string (mkS (ZA wsx false).1)) GB).isSome=true:=fun h=>by obtain⟨k,d⟩:=jw h;rw[VN] at d;exact jQ hk k d
  rw[jFj l]
 | some k =>
  obtain⟨o,f,g,p⟩:=yM (a:=mkS (ZA wsx false).1) (k:=k) (by rw[VN];exact JV hk);have m:=jN k;rw[jTj o,p,jBj,QgS n j a0 (ZA wsx false).2.2 (mkS (ZA wsx false).1) k (kv k:Int) f g (K7 false e).1,jBj];have q:OkW (YK ZA (kn k) (ZA wsx false).2.1 (ZA wsx false).2.2).2.1:=Qft (fun b h=>(K7 b h).1) _ _ _ (K7 false e).1;by_cases i:kn k=0
  ·rw[jTj i];dsimp only;rw[QfZ (V:=kv k) j (K7 false e).1 m.2 rfl (fun _ _ _ _=>rfl),jBj,i];by_cases c:kv k=0
   ·rw[jTj c,c];dsimp only[YK];rw[len0];exact Qcs _ _ _ _ _ _
   ·rw[jFj c];dsimp only[YK];rw[len0];exact Qcs _ _ _ _ _ _
  ·rw[jFj i];dsimp only;rw[QfZ (V:=kv k) j q m.2 rfl (fun _ _ _ _=>rfl),jBj];by_cases c:kv k=0
   ·rw[jTj c,c];dsimp only[YK];rw[len0];exact Qcs _ _ _ _ _ _
   ·rw[jFj c];dsimp only;rw[len0];exact Qcs _ _ _ _ _ _
theorem ux {b c:Type}{g:b->Option c}:∀{l:List b} {xs:List c},l.mapM g=some xs->xs.length=l.length
 | [],xs,h=>by cases h;rfl
 | a::l,xs,h=>by
  rw[List.mapM_cons] at h;cases ha:g a with
  | none=>rw[ha] at h;cases h
  | some x =>
   rw[ha] at h;cases hl:l.mapM g with
   | none=>rw[hl] at h;cases h
   | some ys =>
    rw[hl] at h;cases h;simp[ux hl]
theorem Qaa (wsx:List Wrd):(∀k ns vs,Jl wsx=some (k,ns,vs)->evX wsx=some (mkS (kw k),ns,vs,true))/\(Jl wsx=none->∀w ns vs ok,evX wsx=some (w,ns,vs,ok)->ok=false):=by
 cases wsx with
 | nil =>
  refine⟨fun k ns vs h=>(by cases h),fun _ w ns vs ok h=>?_⟩;unfold evX at h;rw[show zl (ZA [] false).1=none by decide] at h;cases h
 | cons w rest =>
  by_cases m:w=[]
  ·subst m;have e:zl []=none:=by decide
   have q:evX ([]::rest)=none:=by unfold evX;rw[show(ZA ([]::rest) false).1=[] by unfold ZA;dsimp only;rw[jTj rfl],e]
   refine⟨fun k ns vs h=>?_,fun _ w ns vs ok h=>?_⟩
   ·unfold Jl at h;dsimp only at h;rw[e] at h;cases h
   ·rw[q] at h;cases h
  ·have p:ZA (w::rest) false=(w,rest,false):=by unfold ZA;dsimp only;rw[jFj m]
   unfold evX Jl;rw[p];dsimp only;cases hk:zl w with
   | none=>exact⟨fun k ns vs h=>(by cases h),fun _ w ns vs ok h=>(by cases h)⟩
   | some k =>
    dsimp only;have f:=JV hk;obtain⟨xs,l,c,n⟩|⟨l,c⟩:=QeI (kn k) rest
    ·rw[n];dsimp only;obtain⟨ys,b1,d,o⟩|⟨b1,d⟩:=Qgg (kv k) (rest.drop (kn k))
     ·rw[o];dsimp only;rw[List.length_drop] at b1;by_cases a:rest.length=kn k+kv k
      ·have i:(rest.drop (kn k)).take (kv k)=rest.drop (kn k):=List.take_of_length_le (by simp;omega);have b:(rest.drop (kn k)).drop (kv k)=[]:=List.drop_eq_nil_of_le (by simp;omega);rw[i] at d;rw[jTj a,c,jBj,d,jBj,b];refine⟨fun j ns vs h=>?_,fun h=>(by cases h)⟩;cases h;rw[f];rfl
      ·rw[jFj a];refine⟨fun j ns vs h=>(by cases h),fun _ w' ns vs ok h=>?_⟩;have b:¬(rest.drop (kn k)).drop (kv k)=[]:=fun b=>a (by have:=List.drop_eq_nil_iff.1 b;simp at this;omega);cases h;simp[b];omega
     ·have g:¬rest.length=kn k+kv k\/(rest.drop (kn k)).mapM num=none:=by
       by_cases a:rest.length=kn k+kv k
       ·right;have i:(rest.drop (kn k)).take (kv k)=rest.drop (kn k):=List.take_of_length_le (by simp;omega);rw[i] at b1;cases hm:(rest.drop (kn k)).mapM num with
        | none=>rfl
        | some _=>exact absurd ⟨by simp;omega,by rw[hm];rfl⟩ b1
       ·exact .inl a
      have hp:(if rest.length=kn k+kv k then(((rest.take (kn k)).mapM nmG).bind fun ns=>((rest.drop (kn k)).mapM num).bind fun vs=>some (k,ns,vs)) else none)=none:=by
       obtain h|h:=g
       ·rw[jFj h]
       ·rw[h,c];split<;>rfl
      rw[hp];refine⟨fun j ns vs h=>(by cases h),fun _ w' ns vs ok h=>?_⟩;rw[jTj d] at h;cases h;rfl
    ·have hp:(if rest.length=kn k+kv k then(((rest.take (kn k)).mapM nmG).bind fun ns=>((rest.drop (kn k)).mapM num).bind fun vs=>some (k,ns,vs)) else none)=none:=by
      by_cases a:rest.length=kn k+kv k
      ·rw[jTj a];cases hm:(rest.take (kn k)).mapM nmG with
       | none=>rfl
       | some _=>exact absurd ⟨by omega,by rw[hm];rfl⟩ l
      ·rw[jFj a]
     rw[hp,c];refine⟨fun j ns vs h=>(by cases h),fun _ w' ns vs ok h=>?_⟩;rw[wz QfF,jTj rfl] at h;cases h;rfl
theorem bnd {a b:Type}{q:Option a}{f:a->Option b}{x:a}{r:Option b}(h:q=some x)(e:f x=r):q.bind f=r:=by rw[h];exact e
theorem zY {S E:Type}{step:S->Option (S⊕E)}:∀(k:Nat) (s:S) {e:E},QU step k s=some e->∀j,QU step (k+j) s=some e
 | 0,s,e,h,j=>by cases h
 | k+1,s,e,h,j=>by
  rw[show k+1+j=(k+j)+1 by omega];cases hs:step s with
  | none =>
   change(match step s with|none=>none|some (.inl s')=>QU step k s' | some (.inr e)=>some e)=_ at h;rw[hs] at h;cases h
  | some r =>
   cases r with
   | inl s' =>
    rw[W8 hs] at h ⊢;exact zY k s' h j
   | inr e' =>
    rw[ZP hs] at h ⊢;exact h
def zn (u:Nat):Wrd:=if u=0 then[] else Lib.decDigits u
theorem kg {u:Nat}(h:u≠0):zn u=zn (u / 10)++[UInt8.ofNat (48+u % 10)]:=by
 unfold zn;rw[jFj h,Lib.decDigits];by_cases a:u<10
 ·rw[dif_pos a,jTj (by omega),show u % 10=u by omega];rfl
 ·rw[dif_neg a,jFj (by omega)]
theorem Qjn:∀k:Fin 10,Utf8.encode (IntKind.wrap .i32 (48+((k.val:Nat):Int)))=mkS [UInt8.ofNat (48+k.val)]:=by decide
theorem Qac {k:Nat}(h:k<10):Utf8.encode (IntKind.wrap .i32 (48+(k:Int)))=mkS [UInt8.ofNat (48+k)]:=Qjn ⟨k,h⟩
def sumN:Nat->Wrd->Nat
 | x,[]=>x
 | x,b::l=>sumN ((353*x+b.toNat) % 9999649) l
theorem QlM:∀(l:Wrd) (x:Nat),x<9999649->sumN x l<9999649
 | [],_,h=>h
 | b::l,x,_=>QlM l _ (Nat.mod_lt _ (by decide))
theorem QlD {step:Int×Int->Option (Int×Int⊕Int)}(l:Wrd)(j:l.length<=2000)
  (h:∀x i:Int,step (x,i)=if i<((mkS l).size:Int) then(if Qg (353*x) then(UY (mkS l) i).bind fun b=>if Qg ((353*x)+(IntKind.wrap .i64 b)) then if Qg (i+1) then some (.inl ((Int.tmod ((353*x)+(IntKind.wrap .i64 b)) 9999649),(i+1))) else none else none else none) else some (.inr x)) :
  ∀(a:Wrd) (i x k:Nat),l.drop i=a->i<=l.length->x<9999649->a.length<k->QU step k ((x:Int),(i:Int))=some ((sumN x a:Nat):Int)
 | _,_,_,0,_,_,_,hk=>absurd hk (by omega)
 | [],i,x,k+1,hd,hi,_,_=>by
  have g:i=l.length:=by have:=List.drop_eq_nil_iff.1 hd;omega
  refine ZP ?_;rw[h,jFj (by rw[Qp];omega)];rfl
 | b::a,i,x,k+1,hd,hi,hx,hk=>by
  obtain⟨d,e,c⟩:=Qjo hd;have f:b.toNat<256:=b.toNat_lt;have n:=QlD l j h a (i+1) ((353*x+b.toNat) % 9999649) k c d (Nat.mod_lt _ (by decide)) (by simp at hk;omega);rw[W8 (s':=(((((353*x+b.toNat) % 9999649:Nat)):Int),((i+1:Nat):Int)))]
  ·exact n
  ·have m:IntKind.wrap .i64 (b.toNat:Int)=(b.toNat:Int):=Qem (i64 (by omega) (by omega));have hc:(353:Int)*(x:Int)+(b.toNat:Int)=((353*x+b.toNat:Nat):Int):=by simp
   rw[h,jTj (by rw[Qp];omega),jTj (i64 (by omega) (by omega)),Qhq,e,Option.map_some,jBj,m,jTj (i64 (by omega) (by omega)),jTj (i64 (by omega) (by omega)),hc];rfl
def digK:Nat->Nat->Wrd
 | 0,_=>[]
 | k+1,x=>digK k (x / 10)++[UInt8.ofNat (48+x % 10)]
theorem QlJ:∀(k x:Nat),(digK k x).length=k
 | 0,_=>rfl
 | k+1,x=>by unfold digK;simp[QlJ k]
def dig7 (l:Wrd):Wrd:=digK 7 (sumN 1 l)
theorem Qmr:∀k:Fin 10,IntKind.wrap .u8 (48+((k.val:Nat):Int))=((48+k.val:Nat):Int):=by decide
theorem Qmc {k:Nat}(h:k<10):IntKind.wrap .u8 (48+(k:Int))=((48+k:Nat):Int):=Qmr ⟨k,h⟩
theorem Qlk {n:Nat}(j:3000<=n){l:Wrd}(g:l.length<=2000):QkO n (mkS l)=some (mkS (dig7 l)):=by unfold QkO dig7;have d:QU (QkS n (mkS l)) n (1,0)=_:=QlD l g (fun _ _=>rfl) l 0 1 n rfl (Nat.zero_le _) (by decide) (by omega);have i:=QlM l 1 (by decide);rw[d,jBj];generalize sumN 1 l=x at i ⊢;have e:∀a:Nat,Int.tdiv (a:Int) 10=((a / 10:Nat):Int):=fun _=>rfl;have f:∀a:Nat,Int.tmod (a:Int) 10=((a % 10:Nat):Int):=fun _=>rfl;simp only[e,f];have m:∀a:Nat,a % 10<10:=fun a=>Nat.mod_lt _ (by decide);have b:∀a:Nat,Qg (48+((a % 10:Nat):Int)):=fun a=>i64 (by have:=m a;omega) (by have:=m a;omega);have c:∀a:Nat,a<9999649->Qg ((a / 10:Nat):Int):=fun a h=>i64 (by omega) (by omega);rw[jTj (b _),jTj (c _ (by omega)),jTj (b _),jTj (c _ (by omega)),jTj (b _),jTj (c _ (by omega)),jTj (b _),jTj (c _ (by omega)),jTj (b _),jTj (c _ (by omega)),jTj (b _),jTj (c _ (by omega)),jTj (b _),jTj (c _ (by omega))];simp only[Qmc (m _)];rfl
theorem Qli (l:Wrd):(dig7 l).length=7:=QlJ 7 _
theorem Qlq:∀(k x:Nat),US (digK k x)
 | 0,_=>fun c hc=>by cases hc
 | k+1,x=>QgJ.2 ⟨Qlq k _,Qbl (Nat.mod_lt _ (by decide))⟩
theorem Qlz {d:Type}{p:d->Bool}:∀{l:List d},l.dropWhile p=[]↔∀x,x∈l->p x=true
 | []=>⟨fun _ x b=>(by cases b),fun _=>rfl⟩
 | a::l=>by
  rw[List.dropWhile_cons];by_cases h:p a=true
  ·rw[jTj h,Qlz (l:=l)];constructor
   ·intro c x b;cases b with
    | head=>exact h
    | tail _ b=>exact c x b
   ·intro c x b;exact c x (jmj _ b)
  ·rw[jFj h];exact⟨fun e=>(by cases e),fun c=>absurd (c a jMj) h⟩
theorem QlT {d:Type}{p:d->Bool}:∀{l r:List d} {a:d},l.dropWhile p=a::r->¬p a=true
 | b::l,r,a,h=>by
  rw[List.dropWhile_cons] at h;by_cases c:p b=true
  ·rw[jTj c] at h;exact QlT h
  ·rw[jFj c] at h;cases h;exact c
theorem trim_nil {l cs:Wrd}:Lib.trimS l cs=[]↔∀x,x∈l->cs.contains x=true:=by
 unfold Lib.trimS Lib.trimLeftS Lib.trimRightS;rw[Qlz];constructor
 ·intro h;cases b:l.reverse.dropWhile (cs.contains ·) with
  | nil=>exact fun x c=>Qlz.1 b x (List.mem_reverse.2 c)
  | cons a r =>
   exact absurd (h a (by rw[b];simp)) (QlT b)
 ·intro h x c;have b:l.reverse.dropWhile (cs.contains ·)=[]:=Qlz.2 fun y d=>h y (List.mem_reverse.1 d);rw[b] at c;cases c
theorem QlI (b:UInt8):([48,49,50,51,52,53,54,55,56,57]:Wrd).contains b=true↔48<=b.toNat/\b.toNat<=57:=by
 rw[List.contains_iff_mem];constructor
 ·intro h;simp only[List.mem_cons,List.not_mem_nil,or_false] at h;obtain h|h|h|h|h|h|h|h|h|h:=h<;>subst h<;>decide
 ·intro h;have:b.toNat=48\/b.toNat=49\/b.toNat=50\/b.toNat=51\/b.toNat=52\/b.toNat=53\/b.toNat=54\/b.toNat=55\/b.toNat=56\/b.toNat=57:=by omega
  have e:∀c:UInt8,b.toNat=c.toNat->b=c:=fun c hc=>UInt8.toNat_inj.1 hc;obtain h|h|h|h|h|h|h|h|h|h:=this
  ·rw[e 48 h];decide
  ·rw[e 49 h];decide
  ·rw[e 50 h];decide
  ·rw[e 51 h];decide
  ·rw[e 52 h];decide
  ·rw[e 53 h];decide
  ·rw[e 54 h];decide
  ·rw[e 55 h];decide
  ·rw[e 56 h];decide
  ·rw[e 57 h];decide
theorem QlY (n:Nat){l:Wrd}(a:l.length<=2000):∃s,QkW n (mkS l) ⟨#[48,49,50,51,52,53,54,55,56,57]⟩=some s/\(s.toList==(⟨#[]⟩:jSj).toList)=decide (US l):=by
 refine⟨mkS (Lib.trimS l [48,49,50,51,52,53,54,55,56,57]),?_,?_⟩
 ·unfold QkW;rw[jTj ⟨by rw[Qp];omega,by decide,by decide⟩,VN];rfl
 ·rw[show(⟨#[]⟩:jSj)=mkS [] from rfl,Qfb];have:(Lib.trimS l [48,49,50,51,52,53,54,55,56,57]=[])↔US l:=trim_nil.trans ⟨fun h c hc=>(QlI c).1 (h c hc),fun h c hc=>(QlI c).2 (h c hc)⟩;by_cases h:US l
  ·rw[jDj h,jDj (this.2 h)]
  ·rw[jEj h,jEj (mt this.1 h)]
def evOf (m:Int)(t:Tri):Ev:=(m,mkS (kw t.1),t.2.1.map mkS,t.2.2,⟨#[]⟩)
def recX (l:Wrd):Ev⊕Int :=
 if l.length<8 then .inr 25
 else if l[l.length - 8]?=some 35/\US (l.drop (l.length - 8+1)) then
  if dig7 (l.take (l.length - 8))=l.drop (l.length - 8+1) then
   match spl 32 (l.take (l.length - 8)) with
   | []=>.inr 25
   | w::wsx=>match num w,Jl wsx with
    | some m,some t=>if chk (evOf m t)=0 then .inl (evOf m t) else .inr 25
    | _,_=>.inr 25
  else .inr 27
 else .inr 25
theorem Qey {wsx:List Wrd}{t:Tri}(h:Jl wsx=some t):t.2.1.length=kn t.1/\t.2.2.length=kv t.1/\∃w c,wsx=w::c/\w=kw t.1/\c.length=kn t.1+kv t.1/\t.2.1=c.take (kn t.1)/\(c.drop (kn t.1)).mapM num=some t.2.2:=by
 unfold Jl at h;cases wsx with
 | nil=>cases h
 | cons w c =>
  dsimp only at h;cases hk:zl w with
  | none=>rw[hk] at h;cases h
  | some k =>
   rw[hk] at h;dsimp only at h;split at h;case isFalse=>cases h
   rename_i f;cases ha:(c.take (kn k)).mapM nmG with
   | none=>rw[ha] at h;cases h
   | some a =>
    rw[ha,jBj] at h;cases hb:(c.drop (kn k)).mapM num with
    | none=>rw[hb] at h;cases h
    | some b =>
     rw[hb,jBj] at h;cases h;have i:=ux ha;have j:=ux hb;have e:∀{l a:List Wrd},l.mapM nmG=some a->a=l:=by
      intro l;induction l with
      | nil=>intro a h;cases h;rfl
      | cons x l ih =>
       intro a h;rw[List.mapM_cons] at h;unfold nmG at h;by_cases g:x=[]
       ·rw[jTj g] at h;cases h
       ·rw[jFj g] at h;cases f:l.mapM (fun w=>if w=[] then none else some w) with
        | none =>
         have d : l.mapM nmG=none:=f;change(some x >>= fun a=>(l.mapM nmG) >>= fun b=>pure (a::b))=some a at h;rw[d] at h;cases h
        | some b =>
         have d : l.mapM nmG=some b:=f;change(some x >>= fun a=>(l.mapM nmG) >>= fun b=>pure (a::b))=some a at h;rw[d] at h;cases h;rw[ih d]
     refine⟨by rw[i];simp;omega,by rw[j];simp;omega,w,c,rfl,JV hk,f,e ha,hb⟩
theorem Ql6 (ns:List Wrd):(ns.map mkS).map Sd=ns.map eS:=by rw[List.map_map];rfl
theorem Qb8 {p:Wrd}(h:p.length<=2000):OkW (spl 32 p):=by
 refine⟨by rw[qO];have:p.count 32<=p.length:=List.count_le_length;omega,fun w d=>?_⟩;have:∀{c:UInt8} {l w:Wrd},w∈spl c l->w.length<=l.length:=by
  intro c l w d;obtain⟨a,b,h⟩:=List.append_of_mem d;have e:=uL c l;rw[h] at e;rw[<-e];clear e h d;have glue_len:∀(L:List Wrd),w∈L->w.length<=(glue c L).length:=by
   intro L;induction L with
   | nil=>intro h;cases h
   | cons x L ih =>
    intro h;cases L with
    | nil =>
     cases h with
     | head=>exact jLj _
     | tail _ h=>cases h
    | cons y L =>
     show w.length<=(x++c::glue c (y::L)).length;cases h with
     | head=>simp
     | tail _ h=>have:=ih h;simp at this ⊢;omega
  exact glue_len _ (by simp)
 have:=this d;omega
theorem Qma {n:Nat}(q:3000<=n){p:Wrd}(hp:p.length<=2000){w:Wrd}{wsx:List Wrd}(f:spl 32 p=w::wsx){m:Int}{t:Tri}(g:Jl wsx=some t) :
  Wv n m (mkS (kw t.1)) (t.2.1.map eS) (t.2.2.map I) ⟨#[]⟩=some (chk (evOf m t)):=by
 obtain⟨j,k,w0,d,rfl,u,r,e,l⟩:=Qey g;have o:=jN t.1;have ok:=Qb8 hp;rw[f] at ok;have b:∀s,s∈(evOf m t).2.2.1->s.size<n:=fun s h=>by obtain⟨x,c,rfl⟩:=List.mem_map.1 h;rw[e] at c;have:=ok.2 x (jmj _ (jmj _ (List.mem_of_mem_take c)));rw[Qp];omega
 have i:(evOf m t).2.2.1.length<=6:=by show(t.2.1.map mkS).length<=6;rw[jlj];omega
 have l2:(evOf m t).2.2.2.1.length<=8:=by show t.2.2.length<=8;omega
 have a:=Qcw (n:=n) (by omega) (evOf m t) i l2 b;unfold evOf at a;dsimp only at a;rw[Ql6] at a;exact a
def Qmp (x:Ev⊕Int)(num:Int):Int×jSj×jVj×jVj×jSj×Int:=match x with
 | .inl e=>(e.1,e.2.1,e.2.2.1.map Sd,e.2.2.2.1.map I,e.2.2.2.2,QD (e.1 != num) 11)
 | .inr e=>(0,⟨#[]⟩,[],[],⟨#[]⟩,e)
theorem Qmg {n:Nat}(g:3000<=n){l:Wrd}(K:l.length<=2000)(z:Int):QkN n (mkS l) z=some (Qmp (recX l) z):=by
 unfold QkN recX;rw[Qp,jTj (i64 (by omega) (by omega)),jTj (i64 (by omega) (by omega))];by_cases y:l.length<8
 ·rw[jTj (by omega),jTj y];rfl
 rw[jFj (by omega),jFj y];obtain⟨q,A⟩:∃q,l.length - 8=q:=⟨_,rfl⟩
 have k:((l.length:Int) - 7) - 1=(q:Int):=by omega
 have C:q+8=l.length:=by omega
 rw[k,A,Qhq];obtain⟨c,hc⟩:∃c,l[q]?=some c:=⟨_,jej (by omega)⟩
 rw[hc,Option.map_some,jBj];by_cases d:c=35;case neg =>
  have f : ¬((c.toNat:Int)=35):=fun e=>d (UInt8.toNat_inj.1 (by show c.toNat=35;omega));rw[jFj f,jFj (fun h=>d (Option.some.inj h.1))];rfl
 subst d;rw[jTj (by decide),jTj (i64 (by omega) (by omega)),show(q:Int)+1=((q+1:Nat):Int) from rfl,Qhp l (by omega),jBj];obtain⟨s,F,G⟩:=QlY n (l:=l.drop (q+1)) (by simp;omega);rw[F,jBj,G];by_cases b:US (l.drop (q+1));case neg=>rw[jTj (by rw[jEj b];rfl),jFj (fun h=>b h.2)];rfl
 rw[jFj (by rw[jDj b];decide),jTj ⟨rfl,b⟩,QjT l (by omega),jBj,Qlk g (by simp;omega),jBj,Qfb];by_cases KL:dig7 (l.take q)=l.drop (q+1);case neg=>rw[jTj (by rw[jEj KL];rfl),jFj KL];rfl
 rw[jFj (by rw[jDj KL];decide),jTj KL];have hp:(l.take q).length<=2000:=by simp;omega
 generalize l.take q=p at hp ⊢;rw[ue g hp,jBj];have ok:=Qb8 hp;cases hs:spl 32 p with
 | nil=>exact absurd hs (zK 32 p)
 | cons w wsx =>
  have j:el Vg ((w::wsx).map eS) 0=some (mkS w):=Qby (i:=0) rfl;rw[hs] at ok;have v:OkW wsx:=⟨by have:=ok.1;simp at this;omega,fun x E=>ok.2 x (jmj _ E)⟩
  have o:=ok.1;simp only[List.length_cons] at o;rw[j,jBj,QeQ g (ok.2 w jMj),jBj,jTj (by simp;omega)];dsimp only;rw[show((w::wsx).map eS).drop (Int.toNat 1)=wsx.map eS from rfl,uZ g _ v,jBj];obtain⟨H,J⟩:=Qaa wsx;cases hnum:num w with
  | none=>rw[jFj (by simp)];rfl
  | some m =>
   rw[jTj (show(some m).isSome=true from rfl),Qia hnum];cases hpw:Jl wsx with
   | none =>
    cases hev:evX wsx with
    | none=>rw[jFj (by simp)];rfl
    | some r =>
     obtain⟨w',ns,vs,u⟩:=r;have:=J hpw w' ns vs u hev;subst this;rw[jFj (by simp)];rfl
   | some t =>
    have hev:=H t.1 t.2.1 t.2.2 hpw;rw[hev];dsimp only;rw[jTj rfl,Qma g hp hs hpw,jBj];by_cases a:chk (evOf m t)=0
    ·rw[jTj a,jTj a,QR,jBj];show _=some (m,mkS (kw t.1),(t.2.1.map mkS).map Sd,t.2.2.map I,(⟨#[]⟩:jSj),_);rw[Ql6];rfl
    ·rw[jFj a,jFj a];rfl
def recP:List Wrd->Nat->List Ev×Nat×Int
 | [],_=>([],0,0)
 | [p],_=>([],0,if p=[] then 0 else 28)
 | p::q::L,k=>match recX p with
  | .inr e=>([],0,e)
  | .inl a=>if a.1=(k:Int)+1 then(a::(recP (q::L) (k+1)).1,p.length+1+(recP (q::L) (k+1)).2.1,(recP (q::L) (k+1)).2.2) else([],0,11)
theorem QlF {l:Wrd}{e:Int}(h:recX l=.inr e):e=25\/e=27:=by
 unfold recX at h;repeat' split at h
 all_goals first|(cases h;exact .inl rfl)|(cases h;exact .inr rfl)|cases h
theorem QlS (n:Nat)(l:Wrd):QkM n (mkS l)=some (Lib.indexByte l 10):=by
 unfold QkM;have e:(⟨#[10]⟩:jSj)=mkS [10]:=rfl;rw[e,Qfb];by_cases h:[10]=l
 ·rw[jTj (jDj h),<-h];rfl
 ·rw[jFj (by simpa using h)];unfold Un;rw[VN];rfl
theorem Qmn (n:Nat){a b:Wrd}(h:(10:UInt8)∉a)(d:(a++10::b).length<=2000):QkR n (mkS (a++10::b))=some (mkS a,mkS b,true):=by
 unfold QkR QkQ;have c:a.length+b.length+1<=2000:=by simp at d;omega
 rw[QlS,jBj,Qbn b h,jTj (by omega),QjT _ (by simp),jBj,jTj (i64 (by omega) (by omega)),show(a.length:Int)+1=((a.length+1:Nat):Int) from rfl,Qhp _ (by simp),jBj];simp
theorem Ql9 (n:Nat){a:Wrd}(h:(10:UInt8)∉a):QkR n (mkS a)=some (mkS a,⟨#[]⟩,false):=by unfold QkR QkQ;rw[QlS,jBj,Qlp h,jFj (by decide)];rfl
theorem QlV {s p q:Wrd}{L:List Wrd}(h:spl 10 s=p::q::L):∃s',s=p++10::s'/\(10:UInt8)∉p/\spl 10 s'=q::L:=by have c:=uL 10 s;have a:=fun x b=>Qlh 10 s x b;rw[h] at c a;refine⟨glue 10 (q::L),c.symm,a p jMj,Qc6 10 _ (by simp) fun x b=>a x (jmj _ b)⟩
theorem Qmd {s p:Wrd}(h:spl 10 s=[p]):s=p/\(10:UInt8)∉s:=by have a:=uL 10 s;have b:=Qlh 10 s p (by rw[h];simp);rw[h] at a;have:s=p:=a.symm;exact⟨this,by rw[this];exact b⟩
theorem Qmu {k:Nat}(h:k<=5000):Wi 88 k:=QjA (by decide) h
def rcvE (a:Nat)(acc:List Ev)(r:List Ev×Nat×Int):(Int×Int×jVj)⊕(Int×jVj) :=
 if r.2.2=0 then .inr (((a+r.2.1:Nat):Int),(acc++r.1).map Q5) else .inl (((a+r.2.1:Nat):Int),r.2.2,(acc++r.1).map Q5)
theorem QlH {n:Nat}(v:3000<=n)(l:Wrd)(z:l.length<=2000):∀(L:List Wrd) (s:Wrd) (a:Nat) (acc:List Ev) (K:Nat),spl 10 s=L->l.drop a=s->a<=l.length->acc.length<=a->L.length<K ->
  QU (QkJ n (mkS l)) K ((a:Int),acc.map Q5)=some (rcvE a acc (recP L acc.length))
 | _,_,_,_,0,_,_,_,_,h=>absurd h (by omega)
 | [],s,_,_,_+1,hs,_,_,_,_=>absurd hs (zK 10 s)
 | [p],s,a,acc,K+1,hs,hd,ha,hc,hK=>by
  obtain⟨rfl,o⟩:=Qmd hs;refine ZP ?_;unfold QkJ recP rcvE;dsimp only;by_cases hp:s=[]
  ·subst hp;have:a=l.length:=by have:=List.drop_eq_nil_iff.1 hd;omega
   rw[jFj (by rw[Qp];omega),jTj rfl];simp
  ·have C:a<l.length:=by
    obtain h|h:=Nat.lt_or_ge a l.length
    ·exact h
    ·rw[List.drop_eq_nil_of_le h] at hd;exact absurd hd.symm hp
   rw[jTj (by rw[Qp];omega),Qhp l ha,hd,jBj,Ql9 n o,jBj,jFj (show ¬(false=true) by decide)];rw[jFj hp,jFj (by decide)];simp
 | p::q::L,s,a,acc,K+1,hs,hd,ha,hc,hK=>by
  obtain⟨s',rfl,o,t⟩:=QlV hs;have g:(p++10::s').length=l.length - a:=by rw[<-hd];simp
  have A:p.length+s'.length+1=l.length - a:=by simp at g;omega
  have f:=Qmn n (a:=p) (b:=s') o (by omega);have i:∀r,QkN n (mkS p) (((acc.map Q5).length:Int)+1)=some (Qmp r (((acc.map Q5).length:Int)+1))->recX p=r->QkJ n (mkS l) ((a:Int),acc.map Q5)=(match r with
    | .inr e=>some (.inr (.inl ((a:Int),e,acc.map Q5)))
    | .inl ev=>if ev.1=(acc.length:Int)+1 then some (.inl (((a+(p.length+1):Nat):Int),(acc++[ev]).map Q5)) else some (.inr (.inl ((a:Int),11,acc.map Q5)))):=by
   intro r k j;unfold QkJ;dsimp only;rw[jlj] at k ⊢;rw[jTj (by rw[Qp];omega),Qhp l ha,hd,jBj,f,jBj,jTj rfl,jTj (i64 (by omega) (by omega))];cases r with
   | inr e =>
    have y:=QlF j;have d : QkN n (mkS p) ((acc.length:Int)+1)=some (0,⟨#[]⟩,[],[],⟨#[]⟩,e):=k;rw[d,jBj];dsimp only;rw[jFj (by omega)]
   | inl ev =>
    dsimp only;by_cases hev:ev.1=(acc.length:Int)+1
    ·have u:QD (ev.1 != (acc.length:Int)+1) 11=0:=by rw[hev];simp[QD]
     have d : QkN n (mkS p) ((acc.length:Int)+1)=some (ev.1,ev.2.1,ev.2.2.1.map Sd,ev.2.2.2.1.map I,ev.2.2.2.2,0):=by rw[k,<-u];rfl
     rw[d,jBj,jTj hev];dsimp only;rw[jTj rfl,jTj (Qmu (by omega)),Qp,jTj (i64 (by omega) (by omega)),jTj (i64 (by omega) (by omega)),List.map_append];rfl
    ·have u:QD (ev.1 != (acc.length:Int)+1) 11=11:=by simp[QD,hev]
     have d : QkN n (mkS p) ((acc.length:Int)+1)=some (ev.1,ev.2.1,ev.2.2.1.map Sd,ev.2.2.2.1.map I,ev.2.2.2.2,11):=by rw[k,<-u];rfl
     rw[d,jBj,jFj hev];dsimp only;rw[jFj (by decide)]
  have c:=i (recX p) (Qmg v (by omega) _) rfl;unfold recP;cases j:recX p with
  | inr e =>
   rw[j] at c;have y:=QlF j;refine(ZP c).trans ?_;unfold rcvE;dsimp only;rw[jFj (by omega)];simp
  | inl ev =>
   rw[j] at c;dsimp only at c ⊢;by_cases hev:ev.1=(acc.length:Int)+1
   ·rw[jTj hev] at c ⊢;have m : l.drop (a+(p.length+1))=s':=by rw[<-List.drop_drop,hd];simp
    have x:=QlH v l z (q::L) s' (a+(p.length+1)) (acc++[ev]) K t m (by omega) (by simp;omega) (by simp at hK ⊢;omega);rw[jaj,List.length_singleton] at x;refine(W8 c).trans (x.trans ?_);unfold rcvE;dsimp only;rw[List.append_assoc,List.singleton_append,show a+(p.length+1)+(recP (q::L) (acc.length+1)).2.1=a+(p.length+1+(recP (q::L) (acc.length+1)).2.1) by omega]
   ·rw[jFj hev] at c ⊢;refine(ZP c).trans ?_;unfold rcvE;simp
theorem QlK {n:Nat}(d:3000<=n){l:Wrd}(c:l.length<=2000):QkU n (mkS l)=some ((recP (spl 10 l) 0).1.map Q5,((recP (spl 10 l) 0).2.1:Int),(recP (spl 10 l) 0).2.2):=by
 unfold QkU;have b:l.count 10<=l.length:=List.count_le_length;have h:QU (QkJ n (mkS l)) n (0,[])=_:=QlH d l c (spl 10 l) l 0 [] n rfl rfl (Nat.zero_le _) (jLj _) (by rw[qO];omega);rw[jFj (by rw[Qp];omega),h,jBj];unfold rcvE;simp only[List.length_nil,List.nil_append,Nat.zero_add];by_cases a:(recP (spl 10 l) 0).2.2=0
 ·rw[jTj a];dsimp only;rw[a]
 ·rw[jFj a]
abbrev dat (s:jSj):Wrd:=s.data.toList
def VX (e:Ev):List Wrd:=Lib.itoa e.1::dat e.2.1::(e.2.2.1.map dat++e.2.2.2.1.map Lib.itoa)
def Qf5 (e:Ev):Wrd:=Lib.join (VX e) [32]
def recL (e:Ev):Wrd:=Qf5 e++35::dig7 (Qf5 e)++[10]
theorem map_dat (l:List jSj):(l.map dat).map eS=l.map Sd:=by rw[List.map_map];exact List.map_congr_left fun s _=>by show eS (dat s)=Sd s;unfold eS dat;rw[UA]
theorem qV (l:List Wrd):(l.map mkS).map dat=l:=by
 rw[List.map_map];conv=>rhs;rw[<-List.map_id l]
 exact List.map_congr_left fun p _=>VN p
theorem Qbp (c:UInt8):∀L:List Wrd,glue c L=Lib.join L [c]
 | []=>rfl
 | [p]=>(Lib.join_one p [c]).symm
 | p::q::L=>by show p++c::glue c (q::L)=_;rw[Qbp c (q::L),Lib.join_cons,Lib.join_cons];simp[Lib.joinTail]
theorem uH (n:Nat){a:Int}(h:Qg a):Wr n a=some (mkS (Lib.itoa a)):=by unfold Wr;rw[jTj h];rfl
theorem Qfp:∀L:List Wrd,jx (L.map eS)=some (L.map mkS)
 | []=>rfl
 | p::L=>by rw[jCj,jx,show JY (eS p)=some (mkS p) from rfl,Qfp L];rfl
theorem Qje (n:Nat)(L:List Wrd)(sep:Wrd)(a:L.length<=1000000)(b:(Lib.join L sep).length<=1000000):ZI n (L.map eS) (mkS sep)=some (mkS (Lib.join L sep)):=by unfold ZI;rw[Qfp,jBj];have e:(L.map mkS).map (·.data.toList)=L:=qV L;unfold QjE;rw[e,VN,jTj ⟨by rw[jlj];omega,by omega⟩];rfl
theorem QfO {n:Nat}(e:3000<=n)(l:List Int)(d:l.length<=60)(h:∀v,v∈l->Qg v):Wu n (l.map I)=some ((l.map Lib.itoa).map eS):=by
 unfold Wu;have:=Y4 (step:=WK n (l.map I)) (E:=jVj) (fun out=>out) l (fun v=>[eS (Lib.itoa v)]) (fun _=>jLj _)
  (fun i out x a f=>by have c:=(jGj a).1;have b:=h x (jgj a);unfold WK;dsimp only;rw[jTj (ZF a),Ei a,jBj,uH n b,jBj,jTj (UO (by decide) (by omega)),jTj (by unfold Qg;omega)];rfl)
  (fun out _=>by unfold WK;dsimp only;rw[jFj (by simp)]) (k:=n) (by omega)
 rw[this,jBj,wQ,List.map_map];rfl
theorem ub (b:Nat):∀(L:List Wrd),(∀w,w∈L->w.length<=b)->(Lib.joinTail [32] L).length<=(b+1)*L.length
 | [],_=>by simp[Lib.joinTail]
 | w::L,h=>by have d:=h w jMj;have a:=ub b L fun x c=>h x (jmj _ c);simp only[Lib.joinTail,jCj,List.flatten_cons,jaj,List.length_cons,List.length_nil] at a ⊢;rw[Nat.mul_add];omega
theorem QhZ (k:Ki):(kw k).length<=7:=by cases k<;>decide
theorem QeT {e:Ev}{k:Ki}(a:Good e k):(VX e).length<=9/\∀w,w∈VX e->w.length<=24:=by
 have g:=jN k;have c:=QhZ k;refine⟨?_,fun w b=>?_⟩
 ·have:=a.names;have:=a.vals;unfold VX;simp;omega
 ·unfold VX at b;obtain h|h:=List.mem_cons.1 b
  ·rw[h];have:=qa (n:=e.1) (by have:=a.num;omega) (by have:=a.num;omega);omega
  obtain h|h:=List.mem_cons.1 h
  ·rw[h];show e.2.1.data.toList.length<=24;rw[a.kind];omega
  obtain h|h:=List.mem_append.1 h
  ·obtain⟨s,d,rfl⟩:=List.mem_map.1 h;have:=a.name s d;unfold Yw at this;simp only[jAj,decide_eq_true_eq] at this;show s.data.toList.length<=24;rw[dlen];omega
  ·obtain⟨v,f,rfl⟩:=List.mem_map.1 h;have:=a.val v f;have:=qa (n:=v) (by omega) (by omega);omega
theorem Qiv {e:Ev}{k:Ki}(d:Good e k):(Qf5 e).length<=300:=by obtain⟨b,a⟩:=QeT d;unfold Qf5;unfold VX at b a ⊢;rw[Lib.join_cons,jaj];have g:=a _ jMj;have c:=ub 24 _ fun w f=>a w (jmj _ f);simp only[List.length_cons] at b c;omega
theorem QhN {a:Type}(f:a->D)(l:List a):Vk (l.map f)=true↔l=[]:=by cases l<;>simp[Vk]
theorem Qmo {n:Nat}(i:3000<=n){e:Ev}{k:Ki}(b:Good e k):QkZ n e.1 e.2.1 (e.2.2.1.map Sd) (e.2.2.2.1.map I) e.2.2.2.2=some (mkS (Qf5 e)):=by
 have o:=jN k;have j:=b.names;have l:=b.vals;have h:=Qje n (VX e) [32] (by have:=(QeT b).1;omega) (by have:=Qiv b;unfold Qf5 at this;omega);have f:=QfO i e.2.2.2.1 (by omega) fun v g=>i64 (by have:=b.val v g;omega) (by have:=b.val v g;omega);have m:(VX e).map eS=.v (.string (mkS (Lib.itoa e.1)))::.v (.string e.2.1)::(e.2.2.1.map Sd++(e.2.2.2.1.map Lib.itoa).map eS):=by unfold VX;rw[jCj,jCj,List.map_append,map_dat];show eS (Lib.itoa e.1)::eS (dat e.2.1)::_=_;rw[show eS (dat e.2.1)=.v (.string e.2.1) by unfold eS dat;rw[UA]];rfl
 have a : ZI n (.v (.string (mkS (Lib.itoa e.1)))::.v (.string e.2.1)::(e.2.2.1.map Sd++(e.2.2.2.1.map Lib.itoa).map eS)) ⟨#[32]⟩=some (mkS (Qf5 e)):=by rw[<-m];exact h
 unfold QkZ;rw[uH n (i64 (by have:=b.num;omega) (by have:=b.num;omega)),jBj,jTj (QjA (by decide) (by simp;omega))];by_cases c:e.2.2.1=[]
 ·rw[jTj ((QhN _ _).2 c),f,jBj,jTj (QjA (by decide) (by simp;omega))];rw[c,jnj,List.nil_append] at a;by_cases d:e.2.2.2.1.map Lib.itoa=[]
  ·rw[jTj ((QhN _ _).2 d)];rw[d,jnj] at a;rw[a];rfl
  ·rw[jFj (mt (QhN _ _).1 d),a];rfl
 ·rw[jFj (mt (QhN _ _).1 c),f,jBj,jTj (QjA (by decide) (by simp;omega)),a];rfl
theorem QlE {n:Nat}(d:3000<=n){e:Ev}{k:Ki}(c:Good e k):QkX n e.1 e.2.1 (e.2.2.1.map Sd) (e.2.2.2.1.map I) e.2.2.2.2=some (mkS (recL e)):=by have f:=Qiv c;have g:=Qli (Qf5 e);unfold QkX;have b:(⟨#[35]⟩:jSj)=mkS [35]:=rfl;have a:(⟨#[10]⟩:jSj)=mkS [10]:=rfl;rw[Qmo d c,jBj,b,a,jTj (by rw[Qp,Qp];simp;omega),Qlk d (by omega),jBj,Qat,Qat,Qat,jTj (by rw[Qp,Qp];simp;omega),jTj (by rw[Qp,Qp];simp;omega)];unfold recL;simp
theorem Qmf {e:Ev}{k:Ki}(a:Good e k):(recL e).length<=310:=by have b:=Qiv a;have c:=Qli (Qf5 e);unfold recL;simp;omega
def iM (ms:List Mir)(a:jSj):Nat:=(pos (nmM ms) a).getD 0
def iO (os:List Off)(a:jSj):Nat:=(pos (nmO os) a).getD 0
def zM:Mir:=(⟨#[]⟩,⟨#[]⟩,0,0,false,false)
def zO:Off:=(⟨#[]⟩,0,0,0,0,0,false)
def mAt (ms:List Mir)(a:jSj):Mir:=ms.getD (iM ms a) zM
def oAt (os:List Off)(a:jSj):Off:=os.getD (iO os a) zO
theorem VM {ms:List Mir}{a:jSj}(h:ZG (nmM ms) a=true):zk (nmM ms) a=(iM ms a:Int)/\iM ms a<ms.length/\ms[iM ms a]?=some (mAt ms a):=by
 obtain⟨i,b⟩:=Option.isSome_iff_exists.1 h;obtain⟨c,f⟩:=uq b;have e:iM ms a=i:=by unfold iM;rw[b];rfl
 have d:i<ms.length:=by unfold nmM at c;simpa using c
 refine⟨by unfold zk;rw[b,e],by rw[e];exact d,?_⟩;unfold mAt;rw[e,List.getD_eq_getElem?_getD,jej d];rfl
theorem J6 {os:List Off}{a:jSj}(h:ZG (nmO os) a=true):zk (nmO os) a=(iO os a:Int)/\iO os a<os.length/\os[iO os a]?=some (oAt os a):=by
 obtain⟨i,b⟩:=Option.isSome_iff_exists.1 h;obtain⟨c,f⟩:=uq b;have e:iO os a=i:=by unfold iO;rw[b];rfl
 have d:i<os.length:=by unfold nmO at c;simpa using c
 refine⟨by unfold zk;rw[b,e],by rw[e];exact d,?_⟩;unfold oAt;rw[e,List.getD_eq_getElem?_getD,jej d];rfl
def known (k:Ki)(r:Reg)(ns:List jSj):Int:=match k with
 | .sector=>QD (ZG r.sectors (ns.getD 0 ⟨#[]⟩)) 9
 | .mirror=>if ZG r.sectors (ns.getD 1 ⟨#[]⟩)=true then QD (ZG (nmM r.mirrors) (ns.getD 0 ⟨#[]⟩)) 9 else 10
 | .dim=>QD (!ZG r.sectors (ns.getD 0 ⟨#[]⟩)) 10
 | .offer=>QD (ZG (nmO r.offers) (ns.getD 0 ⟨#[]⟩)) 9
 | .deliver=>QD (!ZG (nmO r.offers) (ns.getD 0 ⟨#[]⟩)) 10
 | .bill=>QD (!ZG (nmO r.offers) (ns.getD 0 ⟨#[]⟩)) 10
 | .soil=>QD (!ZG (nmM r.mirrors) (ns.getD 0 ⟨#[]⟩)) 10
 | .clean=>QD (!ZG (nmM r.mirrors) (ns.getD 0 ⟨#[]⟩)) 10
 | .defect=>QD (!ZG (nmM r.mirrors) (ns.getD 0 ⟨#[]⟩)) 10
 | .repair=>QD (!ZG (nmM r.mirrors) (ns.getD 0 ⟨#[]⟩)) 10
 | .aim=>QD (!ZG (nmM r.mirrors) (ns.getD 0 ⟨#[]⟩)) 10
 | .park=>QD (!ZG (nmM r.mirrors) (ns.getD 0 ⟨#[]⟩)) 10
 | _=>0
def Qhs (vs:List Int):Int:=if vs.getD 1 0<vs.getD 0 0 then 14 else QD (decide (vs.getD 1 0>=vs.getD 2 0)) 14
def spec (k:Ki)(r:Reg)(ns:List jSj)(vs:List Int):Int:=match k with
 | .sector=>QD ((r.sectors.length:Int)==8) 5
 | .mirror=>QK [inR (vs.getD 1 0) 1 100,QD ((r.mirrors.length:Int)==32) 5]
 | .soil=>inR (vs.getD 1 0) 0 1000
 | .defect=>QK [QD (mAt r.mirrors (ns.getD 0 ⟨#[]⟩)).2.2.2.2.1 9,QD (mAt r.mirrors (ns.getD 0 ⟨#[]⟩)).2.2.2.2.2 31]
 | .repair=>QD (!(mAt r.mirrors (ns.getD 0 ⟨#[]⟩)).2.2.2.2.1) 22
 | .aim=>QK [QD (!r.filled) 30,QD r.tripped 29,QD (mAt r.mirrors (ns.getD 0 ⟨#[]⟩)).2.2.2.2.1 21,QD (mAt r.mirrors (ns.getD 0 ⟨#[]⟩)).2.2.2.2.2 9]
 | .park=>QD (!(mAt r.mirrors (ns.getD 0 ⟨#[]⟩)).2.2.2.2.2) 22
 | .sun=>inR (vs.getD 1 0) 0 1000
 | .fill=>QD r.filled 9
 | .drain=>QK [QD (!r.filled) 22,QD (r.mirrors.any isA) 31]
 | .trip=>QD r.tripped 9
 | .reset=>QD (!r.tripped) 22
 | .offer=>QK [Qhs vs,inR (vs.getD 3 0) 1 1000,inR (vs.getD 4 0) 0 1000,QD ((r.offers.length:Int)==32) 5]
 | .deliver=>if QK [QD (oAt r.offers (ns.getD 0 ⟨#[]⟩)).2.2.2.2.2.2 23,if vs.getD 0 0<(oAt r.offers (ns.getD 0 ⟨#[]⟩)).2.1 then 14 else QD (decide (vs.getD 0 0>=(oAt r.offers (ns.getD 0 ⟨#[]⟩)).2.2.1)) 14,QD (vs.getD 1 0==0) 3,QD (decide (vs.getD 1 0>WC (oAt r.offers (ns.getD 0 ⟨#[]⟩)))) 20]=0
   then QD (decide (vs.getD 1 0*1000000>r.heat+WP r (vs.getD 0 0))) 16
   else QK [QD (oAt r.offers (ns.getD 0 ⟨#[]⟩)).2.2.2.2.2.2 23,if vs.getD 0 0<(oAt r.offers (ns.getD 0 ⟨#[]⟩)).2.1 then 14 else QD (decide (vs.getD 0 0>=(oAt r.offers (ns.getD 0 ⟨#[]⟩)).2.2.1)) 14,QD (vs.getD 1 0==0) 3,QD (decide (vs.getD 1 0>WC (oAt r.offers (ns.getD 0 ⟨#[]⟩)))) 20]
 | .bill=>QK [QD (oAt r.offers (ns.getD 0 ⟨#[]⟩)).2.2.2.2.2.2 23,QD (decide (vs.getD 0 0<(oAt r.offers (ns.getD 0 ⟨#[]⟩)).2.2.1)) 32]
 | _=>0
def acc (k:Ki)(r:Reg)(ns:List jSj)(vs:List Int):Int:=if vs.getD 0 0<r.tick then 22 else QK [Gq r (vs.getD 0 0),known k r ns,spec k r ns vs]
theorem Y5 {S E:Type}{step:S->Option (S⊕E)}{k:Nat}{s s' : S}(a:0<k)(h:step s=some (.inl s')):QU step k s=QU step (k - 1) s':=by
 obtain⟨j,rfl⟩:∃j,k=j+1:=⟨k - 1,by omega⟩
 exact W8 h
theorem W7 {S E:Type}{step:S->Option (S⊕E)}{k:Nat}{s:S}{e:E}(a:0<k)(h:step s=some (.inr e)):QU step k s=some e:=by
 obtain⟨j,rfl⟩:∃j,k=j+1:=⟨k - 1,by omega⟩
 exact ZP h
theorem Xq {n:Nat}(x:1700<=n){s:jVj}{l:Int}{m o:FnD}{p:Int}{r:jSj}{t:jVj}{u:jSj}{v a:jVj}{b c:Int}{d e:Bool}{f g h:Int}{i:jVj}{j:jVj}{k:jVj}:Ql n (⟨#[]⟩) l m o p r s t u v a b c d e f g h i j k=some (0):=by
 unfold Ql;have q:Qh n (⟨#[]⟩) l m o p r s t u v a b c d e f g h i j k (false,0)=some (.inr (.inr false)):=by unfold Qh;dsimp only;rw[jFj (by decide)]
 rw[W7 (by omega) q,jBj];dsimp only;rw[QR,jBj];rfl
theorem Qjb {n:Nat}(y:1700<=n){m:Int}{o p:FnD}{r:Int}{s:jSj}{t:jVj}{u:jSj}{v c:jVj}{d e:Int}{f g:Bool}{h i j:Int}{k:jVj}{l:jVj}(b:List jSj)(z:b.length<=992)(a:jSj):Ql n (⟨#[83]⟩) m o p r s [Sd a] t u v c d e f g h i j (b.map Sd) k l=some (QD (ZG b a) 9):=by
 unfold Ql;have q:Qh n (⟨#[83]⟩) m o p r s [Sd a] t u v c d e f g h i j (b.map Sd) k l (false,0)=some (.inl (ZG b a,1)):=by unfold Qh;dsimp only;rw[jTj (by decide),show UY ⟨#[83]⟩ 0=some 83 from rfl,jBj,jTj (by decide),jTj (by decide),gs0,Wp b a (by omega) (by omega),jBj,jFj (by decide),jTj (by decide)];rfl
 have x:Qh n (⟨#[83]⟩) m o p r s [Sd a] t u v c d e f g h i j (b.map Sd) k l (ZG b a,1)=some (.inr (.inr (ZG b a))):=by unfold Qh;dsimp only;rw[jFj (show ¬(1:Int)<((⟨#[83]⟩:jSj).size:Int) by decide)]
 rw[Y5 (by omega) q,W7 (by omega) x,jBj];dsimp only;rw[QR,jBj]
theorem Qjc {n:Nat}(x:1700<=n){l:Int}{m o:FnD}{p:Int}{r:jSj}{s:jVj}{t:jSj}{u b:jVj}{c d:Int}{e f:Bool}{g h i:Int}{j:jVj}{k:jVj}(os:List Off)(y:os.length<=992)(a:jSj):Ql n (⟨#[79]⟩) l m o p r [Sd a] s t u b c d e f g h i j k (os.map Zs)=some (QD (ZG (nmO os) a) 9):=by
 unfold Ql;have q:Qh n (⟨#[79]⟩) l m o p r [Sd a] s t u b c d e f g h i j k (os.map Zs) (false,0)=some (.inl (ZG (nmO os) a,1)):=by unfold Qh;dsimp only;rw[jTj (by decide),show UY ⟨#[79]⟩ 0=some 79 from rfl,jBj,jTj (by decide),jFj (by decide),show IntKind.wrap .u8 (79+32)=111 from by decide,X8 os (by omega) (by omega),jBj,gs0,Wp (nmO os) a (by rw[Wy];omega) (by rw[Wy];omega),jBj,jFj (by decide),jTj (by decide)];rfl
 have v:Qh n (⟨#[79]⟩) l m o p r [Sd a] s t u b c d e f g h i j k (os.map Zs) (ZG (nmO os) a,1)=some (.inr (.inr (ZG (nmO os) a))):=by unfold Qh;dsimp only;rw[jFj (show ¬(1:Int)<((⟨#[79]⟩:jSj).size:Int) by decide)]
 rw[Y5 (by omega) q,W7 (by omega) v,jBj];dsimp only;rw[QR,jBj]
theorem Qja {n:Nat}(z:1700<=n){o:Int}{p r:FnD}{s:Int}{t:jSj}{u:jVj}{v:jSj}{x b:jVj}{c d:Int}{e f:Bool}{g i j:Int}{k:jVj}{l:jVj}(m:List jSj)(A:m.length<=992)(a:jSj):Ql n (⟨#[115]⟩) o p r s t [Sd a] u v x b c d e f g i j (m.map Sd) k l=some (QD (!ZG m a) 10):=by
 unfold Ql;by_cases h:ZG m a=true
 ·have q:Qh n (⟨#[115]⟩) o p r s t [Sd a] u v x b c d e f g i j (m.map Sd) k l (false,0)=some (.inl (false,1)):=by unfold Qh;dsimp only;rw[jTj (by decide),show UY ⟨#[115]⟩ 0=some 115 from rfl,jBj,jFj (by decide),jTj (by decide),gs0,Wp m a (by omega) (by omega),jBj,jTj h,jFj (by decide),jTj (by decide)];rfl
  have y:Qh n (⟨#[115]⟩) o p r s t [Sd a] u v x b c d e f g i j (m.map Sd) k l (false,1)=some (.inr (.inr false)):=by unfold Qh;dsimp only;rw[jFj (show ¬(1:Int)<((⟨#[115]⟩:jSj).size:Int) by decide)]
  rw[Y5 (by omega) q,W7 (by omega) y,jBj,h];dsimp only;rw[QR,jBj];rfl
 ·have q:Qh n (⟨#[115]⟩) o p r s t [Sd a] u v x b c d e f g i j (m.map Sd) k l (false,0)=some (.inr (.inl ())):=by unfold Qh;dsimp only;rw[jTj (by decide),show UY ⟨#[115]⟩ 0=some 115 from rfl,jBj,jFj (by decide),jTj (by decide),gs0,Wp m a (by omega) (by omega),jBj,jFj h]
  rw[W7 (by omega) q,jBj];simp only[Bool.not_eq_true] at h;rw[h];rfl
theorem qW {n:Nat}(z:1700<=n){m:Int}{o p:FnD}{r:Int}{s:jSj}{t:jVj}{u:jSj}{v b:jVj}{c d:Int}{e f:Bool}{g i j:Int}{k:jVj}{l:jVj}(ms:List Mir)(y:ms.length<=992)(a:jSj):Ql n (⟨#[109]⟩) m o p r s [Sd a] t u v b c d e f g i j k (ms.map Q1) l=some (QD (!ZG (nmM ms) a) 10):=by
 unfold Ql;by_cases h:ZG (nmM ms) a=true
 ·have q:Qh n (⟨#[109]⟩) m o p r s [Sd a] t u v b c d e f g i j k (ms.map Q1) l (false,0)=some (.inl (false,1)):=by unfold Qh;dsimp only;rw[jTj (by decide),show UY ⟨#[109]⟩ 0=some 109 from rfl,jBj,jFj (by decide),jFj (by decide),UE ms (by omega) (by omega),jBj,gs0,Wp (nmM ms) a (by rw[Zh];omega) (by rw[Zh];omega),jBj,jTj h,jFj (by decide),jTj (by decide)];rfl
  have x:Qh n (⟨#[109]⟩) m o p r s [Sd a] t u v b c d e f g i j k (ms.map Q1) l (false,1)=some (.inr (.inr false)):=by unfold Qh;dsimp only;rw[jFj (show ¬(1:Int)<((⟨#[109]⟩:jSj).size:Int) by decide)]
  rw[Y5 (by omega) q,W7 (by omega) x,jBj,h];dsimp only;rw[QR,jBj];rfl
 ·have q:Qh n (⟨#[109]⟩) m o p r s [Sd a] t u v b c d e f g i j k (ms.map Q1) l (false,0)=some (.inr (.inl ())):=by unfold Qh;dsimp only;rw[jTj (by decide),show UY ⟨#[109]⟩ 0=some 109 from rfl,jBj,jFj (by decide),jFj (by decide),UE ms (by omega) (by omega),jBj,gs0,Wp (nmM ms) a (by rw[Zh];omega) (by rw[Zh];omega),jBj,jFj h]
  rw[W7 (by omega) q,jBj];simp only[Bool.not_eq_true] at h;rw[h];rfl
theorem QfT {n:Nat}(y:1700<=n){m:Int}{o p:FnD}{r:Int}{s:jSj}{t:jVj}{u:jSj}{v b:jVj}{c d:Int}{e f:Bool}{g i j:Int}{k:jVj}{l:jVj}(os:List Off)(z:os.length<=992)(a:jSj):Ql n (⟨#[111]⟩) m o p r s [Sd a] t u v b c d e f g i j k l (os.map Zs)=some (QD (!ZG (nmO os) a) 10):=by
 unfold Ql;by_cases h:ZG (nmO os) a=true
 ·have q:Qh n (⟨#[111]⟩) m o p r s [Sd a] t u v b c d e f g i j k l (os.map Zs) (false,0)=some (.inl (false,1)):=by unfold Qh;dsimp only;rw[jTj (by decide),show UY ⟨#[111]⟩ 0=some 111 from rfl,jBj,jFj (by decide),jFj (by decide),X8 os (by omega) (by omega),jBj,gs0,Wp (nmO os) a (by rw[Wy];omega) (by rw[Wy];omega),jBj,jTj h,jFj (by decide),jTj (by decide)];rfl
  have x:Qh n (⟨#[111]⟩) m o p r s [Sd a] t u v b c d e f g i j k l (os.map Zs) (false,1)=some (.inr (.inr false)):=by unfold Qh;dsimp only;rw[jFj (show ¬(1:Int)<((⟨#[111]⟩:jSj).size:Int) by decide)]
  rw[Y5 (by omega) q,W7 (by omega) x,jBj,h];dsimp only;rw[QR,jBj];rfl
 ·have q:Qh n (⟨#[111]⟩) m o p r s [Sd a] t u v b c d e f g i j k l (os.map Zs) (false,0)=some (.inr (.inl ())):=by unfold Qh;dsimp only;rw[jTj (by decide),show UY ⟨#[111]⟩ 0=some 111 from rfl,jBj,jFj (by decide),jFj (by decide),X8 os (by omega) (by omega),jBj,gs0,Wp (nmO os) a (by rw[Wy];omega) (by rw[Wy];omega),jBj,jFj h]
  rw[W7 (by omega) q,jBj];simp only[Bool.not_eq_true] at h;rw[h];rfl
theorem Qh2 {n:Nat}(E:1700<=n){p:Int}{r s:FnD}{t:Int}{u:jSj}{v:jVj}{x:jSj}{y c:jVj}{d e:Int}{f i:Bool}{j k l:Int}{m:jVj}(o:List jSj)(F:o.length<=992)(ms:List Mir)(C:ms.length<=992)(a b:jSj):Ql n (⟨#[77,115]⟩) p r s t u [Sd a,Sd b] v x y c d e f i j k l (o.map Sd) (ms.map Q1) m=some (if ZG o b=true then QD (ZG (nmM ms) a) 9 else 10):=by
 unfold Ql;have q:Qh n (⟨#[77,115]⟩) p r s t u [Sd a,Sd b] v x y c d e f i j k l (o.map Sd) (ms.map Q1) m (false,0)=some (.inl (ZG (nmM ms) a,1)):=by unfold Qh;dsimp only;rw[jTj (by decide),show UY ⟨#[77,115]⟩ 0=some 77 from rfl,jBj,jTj (by decide),jFj (by decide),show IntKind.wrap .u8 (77+32)=109 from by decide,UE ms (by omega) (by omega),jBj,gs0,Wp (nmM ms) a (by rw[Zh];omega) (by rw[Zh];omega),jBj,jFj (by decide),jTj (by decide)];rfl
 rw[Y5 (by omega) q];by_cases h:ZG o b=true
 ·have z:Qh n (⟨#[77,115]⟩) p r s t u [Sd a,Sd b] v x y c d e f i j k l (o.map Sd) (ms.map Q1) m (ZG (nmM ms) a,1)=some (.inl (ZG (nmM ms) a,2)):=by
   unfold Qh;dsimp only;rw[jTj (show(1:Int)<((⟨#[77,115]⟩:jSj).size:Int) by decide),show UY ⟨#[77,115]⟩ 1=some 115 from rfl,jBj,jFj (by decide),jTj rfl,gs1,Wp o b (by omega) (by omega),jBj,jTj h];by_cases g:ZG (nmM ms) a=true
   ·rw[jTj g,jTj (by decide),g];rfl
   ·rw[jFj g,jTj (by decide)];simp only[Bool.not_eq_true] at g;rw[g];rfl
  have A:Qh n (⟨#[77,115]⟩) p r s t u [Sd a,Sd b] v x y c d e f i j k l (o.map Sd) (ms.map Q1) m (ZG (nmM ms) a,2)=some (.inr (.inr (ZG (nmM ms) a))):=by unfold Qh;dsimp only;rw[jFj (show ¬(2:Int)<((⟨#[77,115]⟩:jSj).size:Int) by decide)]
  rw[Y5 (by omega) z,W7 (by omega) A,jBj,jTj h];dsimp only;rw[QR,jBj]
 ·have z:Qh n (⟨#[77,115]⟩) p r s t u [Sd a,Sd b] v x y c d e f i j k l (o.map Sd) (ms.map Q1) m (ZG (nmM ms) a,1)=some (.inr (.inl ())):=by unfold Qh;dsimp only;rw[jTj (show(1:Int)<((⟨#[77,115]⟩:jSj).size:Int) by decide),show UY ⟨#[77,115]⟩ 1=some 115 from rfl,jBj,jFj (by decide),jTj rfl,gs1,Wp o b (by omega) (by omega),jBj,jFj h]
  rw[W7 (by omega) z,jBj,jFj h]
theorem qg {a b c:Int}{x:Option Int}(h:QK [a,b]=0->x=some c):(if QK [a,b]=0 then x else some (QK [a,b]))=some (QK [a,b,c]):=by
 by_cases d:QK [a,b]=0
 ·rw[jTj d,h d];have g:=Zl d a (by simp);have i:=Zl d b (by simp);subst g i;simp only[QK,if_true];by_cases hc:c=0
  ·rw[jTj hc,hc]
  ·rw[jFj hc]
 ·rw[jFj d];simp only[QK] at d ⊢;by_cases e:a=0
  ·subst e;simp only[if_true] at d ⊢;by_cases f:b=0
   ·subst f;exact absurd rfl d
   ·rw[jFj f,jFj f]
  ·rw[jFj e,jFj e]
theorem jO {a b:Int}(h:QK [a,b]=0):b=0:=Zl h b (by simp)
theorem Ub {b:Bool}{e:Int}(a:e≠0)(h:QD b e=0):b=false:=by
 unfold QD at h;cases b
 ·rfl
 ·exact absurd h a
theorem WN {b:Bool}(h:QD (!b) 10=0):b=true:=by have:=Ub (by decide) h;simpa using this
theorem QeM {a b:Type}(f:a->b)(l:List a)(n:Int):(((l.map f).length:Int)==n)=((l.length:Int)==n):=by rw[jlj]
theorem Qfj {n c:Nat}(j:1700<=n){r:Reg}(i:Inv c r)(hc:c<=992){num:Int}{kind x:jSj}{names:List jSj}{vals:List Int}{evs C:jVj}(Q:evs.length<=5000) :
  ∀{k:Ki},k≠.undo->Good (num,kind,names,vals,x) k->Qq n num kind (names.map Sd) (vals.map I) x evs C r.tick r.level r.filled r.tripped r.light r.heat r.money (r.sectors.map Sd) (r.mirrors.map Q1) (r.offers.map Zs)=some (if num=(evs.length:Int)+1 then acc k r names vals else 11)
 | .sector,_,hg=>by
  have f:=hg.kind;dsimp only[kw] at f;obtain⟨a,t,rfl,rfl,g⟩:=hg.d11 rfl rfl;simp only[jCj,jnj];unfold Qq;rw[jTj (by unfold Qg;omega)];by_cases d:num=(evs.length:Int)+1
  ·rw[jTj d,jTj d,jFj (kne f (by decide))];unfold acc;rw[gi0];by_cases e:t<r.tick
   ·rw[jTj e,jTj (g0 e)]
   rw[jFj e,jFj (g0n e)];have l:okT r t:=okt e g;rw[jTj f,Zd i hc j l,jBj];rw[Qjb j r.sectors (by have:=i.secs;omega) a,jBj,W4 (by omega),jBj];refine qg fun p=>?_;rw[QR,QeM];rfl
  ·rw[jFj d,jFj d]
 | .mirror,_,hg=>by
  have f:=hg.kind;dsimp only[kw] at f;obtain⟨a,b,t,m,rfl,rfl,g⟩:=hg.d22 rfl rfl;simp only[jCj,jnj];unfold Qq;rw[jTj (by unfold Qg;omega)];by_cases d:num=(evs.length:Int)+1
  ·rw[jTj d,jTj d,jFj (kne f (by decide))];unfold acc;rw[gi0];by_cases e:t<r.tick
   ·rw[jTj e,jTj (g0 e)]
   rw[jFj e,jFj (g0n e)];have l:okT r t:=okt e g;(iterate 1 rw[jFj (dne f (by decide))])
   rw[jTj f,Zd i hc j l,jBj];rw[Qh2 j r.sectors (by have:=i.secs;omega) r.mirrors (by have:=i.lenM;omega) a b,jBj,W4 (by omega),jBj];refine qg fun p=>?_;rw[gi1,YR,jBj,QR,jBj,W4 (by omega),QeM];rfl
  ·rw[jFj d,jFj d]
 | .soil,_,hg=>by
  have f:=hg.kind;dsimp only[kw] at f;obtain⟨a,t,m,rfl,rfl,g⟩:=hg.d12 rfl rfl;simp only[jCj,jnj];unfold Qq;rw[jTj (by unfold Qg;omega)];by_cases d:num=(evs.length:Int)+1
  ·rw[jTj d,jTj d,jFj (kne f (by decide))];unfold acc;rw[gi0];by_cases e:t<r.tick
   ·rw[jTj e,jTj (g0 e)]
   rw[jFj e,jFj (g0n e)];have l:okT r t:=okt e g;(iterate 2 rw[jFj (dne f (by decide))])
   rw[jTj f,Zd i hc j l,jBj];rw[qW j r.mirrors (by have:=i.lenM;omega) a,jBj,W4 (by omega),jBj];refine qg fun p=>?_;rw[gi1,YR];rfl
  ·rw[jFj d,jFj d]
 | .clean,_,hg=>by
  have f:=hg.kind;dsimp only[kw] at f;obtain⟨a,t,rfl,rfl,g⟩:=hg.d11 rfl rfl;simp only[jCj,jnj];unfold Qq;rw[jTj (by unfold Qg;omega)];by_cases d:num=(evs.length:Int)+1
  ·rw[jTj d,jTj d,jFj (kne f (by decide))];unfold acc;rw[gi0];by_cases e:t<r.tick
   ·rw[jTj e,jTj (g0 e)]
   rw[jFj e,jFj (g0n e)];have l:okT r t:=okt e g;(iterate 3 rw[jFj (dne f (by decide))])
   rw[jTj f,Zd i hc j l,jBj];rw[qW j r.mirrors (by have:=i.lenM;omega) a,jBj,W4 (by omega),jBj];refine qg fun p=>?_;rfl
  ·rw[jFj d,jFj d]
 | .defect,_,hg=>by
  have f:=hg.kind;dsimp only[kw] at f;obtain⟨a,t,rfl,rfl,g⟩:=hg.d11 rfl rfl;simp only[jCj,jnj];unfold Qq;rw[jTj (by unfold Qg;omega)];by_cases d:num=(evs.length:Int)+1
  ·rw[jTj d,jTj d,jFj (kne f (by decide))];unfold acc;rw[gi0];by_cases e:t<r.tick
   ·rw[jTj e,jTj (g0 e)]
   rw[jFj e,jFj (g0n e)];have l:okT r t:=okt e g;(iterate 4 rw[jFj (dne f (by decide))])
   rw[jTj f,Zd i hc j l,jBj];rw[qW j r.mirrors (by have:=i.lenM;omega) a,jBj,W4 (by omega),jBj];refine qg fun p=>?_;have u:=WN (jO p);obtain⟨q,v,s⟩:=VM u;have o:=zm q v;rw[gs0,UE _ (by have:=i.lenM;omega) (by have:=i.lenM;omega),jBj,ZQ _ _ (by rw[Zh];have:=i.lenM;omega) (by rw[Zh];have:=i.lenM;omega),jBj,jTj o,q,Zc unM s,jBj];rw[QR,jBj,QR,jBj,W4 (by omega)];rfl
  ·rw[jFj d,jFj d]
 | .repair,_,hg=>by
  have f:=hg.kind;dsimp only[kw] at f;obtain⟨a,t,rfl,rfl,g⟩:=hg.d11 rfl rfl;simp only[jCj,jnj];unfold Qq;rw[jTj (by unfold Qg;omega)];by_cases d:num=(evs.length:Int)+1
  ·rw[jTj d,jTj d,jFj (kne f (by decide))];unfold acc;rw[gi0];by_cases e:t<r.tick
   ·rw[jTj e,jTj (g0 e)]
   rw[jFj e,jFj (g0n e)];have l:okT r t:=okt e g;(iterate 5 rw[jFj (dne f (by decide))])
   rw[jTj f,Zd i hc j l,jBj];rw[qW j r.mirrors (by have:=i.lenM;omega) a,jBj,W4 (by omega),jBj];refine qg fun p=>?_;have u:=WN (jO p);obtain⟨q,v,s⟩:=VM u;have o:=zm q v;rw[gs0,UE _ (by have:=i.lenM;omega) (by have:=i.lenM;omega),jBj,ZQ _ _ (by rw[Zh];have:=i.lenM;omega) (by rw[Zh];have:=i.lenM;omega),jBj,jTj o,q,Zc unM s,jBj];rw[QR];rfl
  ·rw[jFj d,jFj d]
 | .aim,_,hg=>by
  have f:=hg.kind;dsimp only[kw] at f;obtain⟨a,t,rfl,rfl,g⟩:=hg.d11 rfl rfl;simp only[jCj,jnj];unfold Qq;rw[jTj (by unfold Qg;omega)];by_cases d:num=(evs.length:Int)+1
  ·rw[jTj d,jTj d,jFj (kne f (by decide))];unfold acc;rw[gi0];by_cases e:t<r.tick
   ·rw[jTj e,jTj (g0 e)]
   rw[jFj e,jFj (g0n e)];have l:okT r t:=okt e g;(iterate 6 rw[jFj (dne f (by decide))])
   rw[jTj f,Zd i hc j l,jBj];rw[qW j r.mirrors (by have:=i.lenM;omega) a,jBj,W4 (by omega),jBj];refine qg fun p=>?_;have u:=WN (jO p);obtain⟨q,v,s⟩:=VM u;have o:=zm q v;rw[gs0,UE _ (by have:=i.lenM;omega) (by have:=i.lenM;omega),jBj,ZQ _ _ (by rw[Zh];have:=i.lenM;omega) (by rw[Zh];have:=i.lenM;omega),jBj,jTj o,q];rw[QR,jBj,QR,jBj,Zc unM s,jBj,QR,jBj,QR,jBj,QeV (by omega)];rfl
  ·rw[jFj d,jFj d]
 | .park,_,hg=>by
  have f:=hg.kind;dsimp only[kw] at f;obtain⟨a,t,rfl,rfl,g⟩:=hg.d11 rfl rfl;simp only[jCj,jnj];unfold Qq;rw[jTj (by unfold Qg;omega)];by_cases d:num=(evs.length:Int)+1
  ·rw[jTj d,jTj d,jFj (kne f (by decide))];unfold acc;rw[gi0];by_cases e:t<r.tick
   ·rw[jTj e,jTj (g0 e)]
   rw[jFj e,jFj (g0n e)];have l:okT r t:=okt e g;(iterate 7 rw[jFj (dne f (by decide))])
   rw[jTj f,Zd i hc j l,jBj];rw[qW j r.mirrors (by have:=i.lenM;omega) a,jBj,W4 (by omega),jBj];refine qg fun p=>?_;have u:=WN (jO p);obtain⟨q,v,s⟩:=VM u;have o:=zm q v;rw[gs0,UE _ (by have:=i.lenM;omega) (by have:=i.lenM;omega),jBj,ZQ _ _ (by rw[Zh];have:=i.lenM;omega) (by rw[Zh];have:=i.lenM;omega),jBj,jTj o,q,Zc unM s,jBj];rw[QR];rfl
  ·rw[jFj d,jFj d]
 | .dim,_,hg=>by
  have f:=hg.kind;dsimp only[kw] at f;obtain⟨a,t,rfl,rfl,g⟩:=hg.d11 rfl rfl;simp only[jCj,jnj];unfold Qq;rw[jTj (by unfold Qg;omega)];by_cases d:num=(evs.length:Int)+1
  ·rw[jTj d,jTj d,jFj (kne f (by decide))];unfold acc;rw[gi0];by_cases e:t<r.tick
   ·rw[jTj e,jTj (g0 e)]
   rw[jFj e,jFj (g0n e)];have l:okT r t:=okt e g;(iterate 8 rw[jFj (dne f (by decide))])
   rw[jTj f,Zd i hc j l,jBj];rw[Qja j r.sectors (by have:=i.secs;omega) a,jBj,W4 (by omega),jBj];refine qg fun p=>?_;rfl
  ·rw[jFj d,jFj d]
 | .sun,_,hg=>by
  have f:=hg.kind;dsimp only[kw] at f;obtain⟨t,m,rfl,rfl,g⟩:=hg.d02 rfl rfl;simp only[jCj,jnj];unfold Qq;rw[jTj (by unfold Qg;omega)];by_cases d:num=(evs.length:Int)+1
  ·rw[jTj d,jTj d,jFj (kne f (by decide))];unfold acc;rw[gi0];by_cases e:t<r.tick
   ·rw[jTj e,jTj (g0 e)]
   rw[jFj e,jFj (g0n e)];have l:okT r t:=okt e g;(iterate 9 rw[jFj (dne f (by decide))])
   rw[jTj f,Zd i hc j l,jBj];rw[Xq j,jBj,W4 (by omega),jBj];refine qg fun p=>?_;rw[gi1,YR];rfl
  ·rw[jFj d,jFj d]
 | .fill,_,hg=>by
  have f:=hg.kind;dsimp only[kw] at f;obtain⟨t,rfl,rfl,g⟩:=hg.d01 rfl rfl;simp only[jCj,jnj];unfold Qq;rw[jTj (by unfold Qg;omega)];by_cases d:num=(evs.length:Int)+1
  ·rw[jTj d,jTj d,jFj (kne f (by decide))];unfold acc;rw[gi0];by_cases e:t<r.tick
   ·rw[jTj e,jTj (g0 e)]
   rw[jFj e,jFj (g0n e)];have l:okT r t:=okt e g;(iterate 10 rw[jFj (dne f (by decide))])
   rw[jTj f,Zd i hc j l,jBj];rw[Xq j,jBj,W4 (by omega),jBj];refine qg fun p=>?_;rw[QR];rfl
  ·rw[jFj d,jFj d]
 | .drain,_,hg=>by
  have f:=hg.kind;dsimp only[kw] at f;obtain⟨t,rfl,rfl,g⟩:=hg.d01 rfl rfl;simp only[jCj,jnj];unfold Qq;rw[jTj (by unfold Qg;omega)];by_cases d:num=(evs.length:Int)+1
  ·rw[jTj d,jTj d,jFj (kne f (by decide))];unfold acc;rw[gi0];by_cases e:t<r.tick
   ·rw[jTj e,jTj (g0 e)]
   rw[jFj e,jFj (g0n e)];have l:okT r t:=okt e g;(iterate 11 rw[jFj (dne f (by decide))])
   rw[jTj f,Zd i hc j l,jBj];rw[Xq j,jBj,W4 (by omega),jBj];refine qg fun p=>?_;rw[QR,jBj,Qkl _ (by have:=i.lenM;omega) (by have:=i.lenM;omega),jBj,QR,jBj,W4 (by omega)];rfl
  ·rw[jFj d,jFj d]
 | .trip,_,hg=>by
  have f:=hg.kind;dsimp only[kw] at f;obtain⟨t,rfl,rfl,g⟩:=hg.d01 rfl rfl;simp only[jCj,jnj];unfold Qq;rw[jTj (by unfold Qg;omega)];by_cases d:num=(evs.length:Int)+1
  ·rw[jTj d,jTj d,jFj (kne f (by decide))];unfold acc;rw[gi0];by_cases e:t<r.tick
   ·rw[jTj e,jTj (g0 e)]
   rw[jFj e,jFj (g0n e)];have l:okT r t:=okt e g;(iterate 12 rw[jFj (dne f (by decide))])
   rw[jTj f,Zd i hc j l,jBj];rw[Xq j,jBj,W4 (by omega),jBj];refine qg fun p=>?_;rw[QR];rfl
  ·rw[jFj d,jFj d]
 | .reset,_,hg=>by
  have f:=hg.kind;dsimp only[kw] at f;obtain⟨t,rfl,rfl,g⟩:=hg.d01 rfl rfl;simp only[jCj,jnj];unfold Qq;rw[jTj (by unfold Qg;omega)];by_cases d:num=(evs.length:Int)+1
  ·rw[jTj d,jTj d,jFj (kne f (by decide))];unfold acc;rw[gi0];by_cases e:t<r.tick
   ·rw[jTj e,jTj (g0 e)]
   rw[jFj e,jFj (g0n e)];have l:okT r t:=okt e g;(iterate 13 rw[jFj (dne f (by decide))])
   rw[jTj f,Zd i hc j l,jBj];rw[Xq j,jBj,W4 (by omega),jBj];refine qg fun p=>?_;rw[QR];rfl
  ·rw[jFj d,jFj d]
 | .offer,_,hg=>by
  have f:=hg.kind;dsimp only[kw] at f;obtain⟨a,t,m,y,z,A,rfl,rfl,g⟩:=hg.d15 rfl rfl;simp only[jCj,jnj];unfold Qq;rw[jTj (by unfold Qg;omega)];by_cases d:num=(evs.length:Int)+1
  ·rw[jTj d,jTj d,jFj (kne f (by decide))];unfold acc;rw[gi0];by_cases e:t<r.tick
   ·rw[jTj e,jTj (g0 e)]
   rw[jFj e,jFj (g0n e)];have l:okT r t:=okt e g;(iterate 14 rw[jFj (dne f (by decide))])
   rw[jTj f,Zd i hc j l,jBj];rw[Qjc j r.offers (by have:=i.lenO;omega) a,jBj,W4 (by omega),jBj];refine qg fun p=>?_;have P:Vb n num kind [Sd a] [I t,I m,I y,I z,I A] x=some (m,y,Qhs [t,m,y,z,A]):=by
    unfold Vb;rw[gi1,gi2,gi0];unfold Qhs;by_cases h:m<t
    ·rw[jTj h,jTj (show[t,m,y,z,A].getD 1 0<[t,m,y,z,A].getD 0 0 from h)];rfl
    ·rw[jFj h,jFj (show ¬[t,m,y,z,A].getD 1 0<[t,m,y,z,A].getD 0 0 from h),QR];rfl
   rw[P,jBj,gi3,YR,jBj,gi4,YR,jBj,QR,jBj,QeV (by omega),QeM];rfl
  ·rw[jFj d,jFj d]
 | .deliver,_,hg=>by
  have f:=hg.kind;dsimp only[kw] at f;obtain⟨a,t,m,rfl,rfl,g⟩:=hg.d12 rfl rfl;simp only[jCj,jnj];unfold Qq;rw[jTj (by unfold Qg;omega)];by_cases d:num=(evs.length:Int)+1
  ·rw[jTj d,jTj d,jFj (kne f (by decide))];unfold acc;rw[gi0];by_cases e:t<r.tick
   ·rw[jTj e,jTj (g0 e)]
   rw[jFj e,jFj (g0n e)];have l:okT r t:=okt e g;(iterate 15 rw[jFj (dne f (by decide))])
   rw[jTj f,Zd i hc j l,jBj];rw[QfT j r.offers (by have:=i.lenO;omega) a,jBj,W4 (by omega),jBj];refine qg fun p=>?_;have u:=WN (jO p);obtain⟨q,v,s⟩:=J6 u;have E:=i.offs _ (jgj s);have o:=hltO q v;rw[gs0,X8 _ (by have:=i.lenO;omega) (by have:=i.lenO;omega),jBj,ZQ _ _ (by rw[Wy];have:=i.lenO;omega) (by rw[Wy];have:=i.lenO;omega),jBj,jTj o,q];rw[gi1,Zc unO s,jBj,QR,jBj];have O:∀w:Int,((Qm n (m==0) 3).bind fun J=>(Za n (oAt r.offers a).1 (oAt r.offers a).2.1 (oAt r.offers a).2.2.1 (oAt r.offers a).2.2.2.1 (oAt r.offers a).2.2.2.2.1 (oAt r.offers a).2.2.2.2.2.1 (oAt r.offers a).2.2.2.2.2.2).bind fun K =>
     (Qm n (decide (m>K)) 20).bind fun L=>(Qi n ([I (QD (oAt r.offers a).2.2.2.2.2.2 23),I w,I J,I L])).bind fun F =>
     if F=0 then(if Qg (m*1000000) then(Q9 n t evs C r.tick r.level r.filled r.tripped r.light r.heat r.money (r.sectors.map Sd) (r.mirrors.map Q1) (r.offers.map Zs)).bind fun M=>(Qm n (decide ((m*1000000)>M.2)) 16).bind fun N=>some N else none) else some F) =
     some (if QK [QD (oAt r.offers a).2.2.2.2.2.2 23,w,QD (m==0) 3,QD (decide (m>WC (oAt r.offers a))) 20]=0 then QD (decide (m*1000000>r.heat+WP r t)) 16 else QK [QD (oAt r.offers a).2.2.2.2.2.2 23,w,QD (m==0) 3,QD (decide (m>WC (oAt r.offers a))) 20]):=by
    intro w;rw[QR,jBj,jh n E,jBj,QR,jBj,QeV (by omega),jBj];by_cases H:QK [QD (oAt r.offers a).2.2.2.2.2.2 23,w,QD (m==0) 3,QD (decide (m>WC (oAt r.offers a))) 20]=0
    ·have S:=hg.val m (by simp);rw[jTj H,jTj H,jTj (by unfold Qg;omega),Wk i hc j l,jBj,QR,jBj]
    ·rw[jFj H,jFj H]
   unfold spec;simp only[List.getD_cons_zero,List.getD_cons_succ];by_cases G:t<(oAt r.offers a).2.1
   ·rw[jTj G];simp only[jTj G];exact O 14
   ·rw[jFj G,QR,jBj];simp only[jFj G];exact O _
  ·rw[jFj d,jFj d]
 | .bill,_,hg=>by
  have f:=hg.kind;dsimp only[kw] at f;obtain⟨a,t,rfl,rfl,g⟩:=hg.d11 rfl rfl;simp only[jCj,jnj];unfold Qq;rw[jTj (by unfold Qg;omega)];by_cases d:num=(evs.length:Int)+1
  ·rw[jTj d,jTj d,jFj (kne f (by decide))];unfold acc;rw[gi0];by_cases e:t<r.tick
   ·rw[jTj e,jTj (g0 e)]
   rw[jFj e,jFj (g0n e)];have l:okT r t:=okt e g;(iterate 16 rw[jFj (dne f (by decide))])
   rw[jTj f,Zd i hc j l,jBj];rw[QfT j r.offers (by have:=i.lenO;omega) a,jBj,W4 (by omega),jBj];refine qg fun p=>?_;have u:=WN (jO p);obtain⟨q,v,s⟩:=J6 u;have E:=i.offs _ (jgj s);have o:=hltO q v;rw[gs0,X8 _ (by have:=i.lenO;omega) (by have:=i.lenO;omega),jBj,ZQ _ _ (by rw[Wy];have:=i.lenO;omega) (by rw[Wy];have:=i.lenO;omega),jBj,jTj o,q,Zc unO s,jBj];rw[QR,jBj,QR,jBj,W4 (by omega)];rfl
  ·rw[jFj d,jFj d]
 | .undo,h,_=>absurd rfl h
def QcU (a:List Ev):Int:=match a.getLast? with
 | none=>12
 | some e=>if e.2.1.data.toList=kw .deliver\/e.2.1.data.toList=kw .bill then 21 else 0
theorem QcK {n:Nat}(r:Reg){num:Int}{kind c:jSj}{names:List jSj}{vals:List Int}{evs:jVj}(p:evs.length<=5000)(a:List Ev)(l:a.length<=5000)
  (m:Good (num,kind,names,vals,c) .undo):Qq n num kind (names.map Sd) (vals.map I) c evs (a.map Q5) r.tick r.level r.filled r.tripped r.light r.heat r.money (r.sectors.map Sd) (r.mirrors.map Q1) (r.offers.map Zs)=some (if num=(evs.length:Int)+1 then QcU a else 11):=by
 have j:=m.kind;dsimp only at j;unfold Qq;rw[jTj (by unfold Qg;omega)];by_cases b:num=(evs.length:Int)+1
 ·rw[jTj b,jTj b,jTj (keq j rfl)];unfold QcU;cases hl:a.getLast? with
  | none =>
   rw[List.getLast?_eq_none_iff.1 hl];rfl
  | some e =>
   have g:a≠[]:=fun h=>by rw[h] at hl;cases hl
   have k:=List.length_pos_iff.2 g;rw[List.getLast?_eq_getElem?] at hl;have o:(((a.map Q5).length:Int) - 1)=((a.length - 1:Nat):Int):=by rw[jlj];omega
   rw[jFj (by rw[jlj];omega),o,jTj (by unfold Qg;omega),jTj (by rw[jlj];omega),jtj,U4,List.getElem?_map,hl];show(if(e.2.1.toList==(⟨#[100,101,108,105,118,101,114]⟩:jSj).toList)=true then(Ko n).bind (fun i=>some i) else(Qm n (e.2.1.toList==(⟨#[98,105,108,108]⟩:jSj).toList) 21).bind fun i=>some i)=some (if e.2.1.data.toList=kw .deliver\/e.2.1.data.toList=kw .bill then 21 else 0);by_cases d:e.2.1.data.toList=kw .deliver
   ·rw[jTj (keq d rfl),jTj (.inl d)];rfl
   ·rw[jFj (fun h=>d (by rw[kq] at h;exact h)),QR,jBj];by_cases f:e.2.1.data.toList=kw .bill
    ·rw[jTj (.inr f)];unfold QD;rw[jTj (keq f rfl)]
    ·rw[jFj (by rintro(h|h);exact d h;exact f h)];unfold QD;rw[jFj (fun h=>f (by rw[kq] at h;exact h))]
 ·rw[jFj b,jFj b]
def bkd (r:Reg)(t:Int):Reg:={ r with tick:=t,light:=r.light+WP r t,heat:=r.heat+WP r t }
def chgM (r:Reg)(a:jSj)(m:Mir):Reg:={ r with mirrors:=r.mirrors.set (iM r.mirrors a) m }
def chgO (r:Reg)(a:jSj)(o:Off):Reg:={ r with offers:=r.offers.set (iO r.offers a) o }
def kO (m:Mir)(v:Int):Mir:=(m.1,m.2.1,m.2.2.1,v,m.2.2.2.2.1,m.2.2.2.2.2)
def defM (m:Mir)(b:Bool):Mir:=(m.1,m.2.1,m.2.2.1,m.2.2.2.1,b,m.2.2.2.2.2)
def aimM (m:Mir):Mir:=(m.1,m.2.1,m.2.2.1,m.2.2.2.1,m.2.2.2.2.1,true)
def delO (o:Off)(v:Int):Off:=(o.1,o.2.1,o.2.2.1,o.2.2.2.1,o.2.2.2.2.1,o.2.2.2.2.2.1+v,o.2.2.2.2.2.2)
def zp (o:Off):Off:=(o.1,o.2.1,o.2.2.1,o.2.2.2.1,o.2.2.2.2.1,o.2.2.2.2.2.1,true)
def act (k:Ki)(q:Reg)(ns:List jSj)(vs:List Int):Reg:=match k with
 | .sector=>{ q with sectors:=q.sectors++[ns.getD 0 ⟨#[]⟩] }
 | .mirror=>{ q with mirrors:=q.mirrors++[(ns.getD 0 ⟨#[]⟩,ns.getD 1 ⟨#[]⟩,vs.getD 1 0,0,false,false)] }
 | .soil=>chgM q (ns.getD 0 ⟨#[]⟩) (kO (mAt q.mirrors (ns.getD 0 ⟨#[]⟩)) (vs.getD 1 0))
 | .clean=>chgM q (ns.getD 0 ⟨#[]⟩) (kO (mAt q.mirrors (ns.getD 0 ⟨#[]⟩)) 0)
 | .defect=>chgM q (ns.getD 0 ⟨#[]⟩) (defM (mAt q.mirrors (ns.getD 0 ⟨#[]⟩)) true)
 | .repair=>chgM q (ns.getD 0 ⟨#[]⟩) (defM (mAt q.mirrors (ns.getD 0 ⟨#[]⟩)) false)
 | .aim=>chgM q (ns.getD 0 ⟨#[]⟩) (aimM (mAt q.mirrors (ns.getD 0 ⟨#[]⟩)))
 | .park=>chgM q (ns.getD 0 ⟨#[]⟩) (Xi (mAt q.mirrors (ns.getD 0 ⟨#[]⟩)))
 | .dim=>{ q with mirrors:=q.mirrors.map (kf (ns.getD 0 ⟨#[]⟩)) }
 | .sun=>{ q with level:=vs.getD 1 0 }
 | .fill=>{ q with filled:=true }
 | .drain=>{ q with filled:=false }
 | .trip=>{ q with tripped:=true,mirrors:=q.mirrors.map Xi }
 | .reset=>{ q with tripped:=false }
 | .offer=>{ q with offers:=q.offers++[(ns.getD 0 ⟨#[]⟩,vs.getD 1 0,vs.getD 2 0,vs.getD 3 0,vs.getD 4 0,0,false)] }
 | .deliver=>{ chgO q (ns.getD 0 ⟨#[]⟩) (delO (oAt q.offers (ns.getD 0 ⟨#[]⟩)) (vs.getD 1 0)) with heat:=q.heat - 1000000*vs.getD 1 0 }
 | .bill=>{ chgO q (ns.getD 0 ⟨#[]⟩) (zp (oAt q.offers (ns.getD 0 ⟨#[]⟩))) with money:=q.money+Gr (oAt q.offers (ns.getD 0 ⟨#[]⟩)) }
 | .undo=>q
def app (k:Ki)(r:Reg)(ns:List jSj)(vs:List Int):Reg:=act k (bkd r (vs.getD 0 0)) ns vs
abbrev wq:=Int×Int×Bool×Bool×Int×Int×Int×jVj×jVj×jVj
def Wd (r:Reg):wq:=(r.tick,r.level,r.filled,r.tripped,r.light,r.heat,r.money,r.sectors.map Sd,r.mirrors.map Q1,r.offers.map Zs)
theorem Xj {s:List Off}{i:Nat}{y:Off}:List.set (s.map Zs) i (Zs y)=(s.set i y).map Zs:=by rw[List.map_set]
theorem QS {k:Ki}{r:Reg}{ns:List jSj}{vs:List Int}(h:acc k r ns vs=0):¬vs.getD 0 0<r.tick/\Gq r (vs.getD 0 0)=0/\known k r ns=0/\spec k r ns vs=0:=by
 unfold acc at h;by_cases a:vs.getD 0 0<r.tick
 ·rw[jTj a] at h;cases h
 ·rw[jFj a] at h;exact⟨a,Zl h _ (by simp),Zl h _ (by simp),Zl h _ (by simp)⟩
theorem wi {r:Reg}{a:jSj}{t b:Int}(h:spec .deliver r [a] [t,b]=0):(oAt r.offers a).2.2.2.2.2.2=false/\b≠0/\b<=WC (oAt r.offers a)/\b*1000000<=r.heat+WP r t:=by
 have h:(if QK [QD (oAt r.offers a).2.2.2.2.2.2 23,(if t<(oAt r.offers a).2.1 then 14 else QD (decide (t>=(oAt r.offers a).2.2.1)) 14),QD (b==0) 3,QD (decide (b>WC (oAt r.offers a))) 20]=0 then QD (decide (b*1000000>r.heat+WP r t)) 16 else QK [QD (oAt r.offers a).2.2.2.2.2.2 23,(if t<(oAt r.offers a).2.1 then 14 else QD (decide (t>=(oAt r.offers a).2.2.1)) 14),QD (b==0) 3,QD (decide (b>WC (oAt r.offers a))) 20])=0:=h;by_cases c:QK [QD (oAt r.offers a).2.2.2.2.2.2 23,(if t<(oAt r.offers a).2.1 then 14 else QD (decide (t>=(oAt r.offers a).2.2.1)) 14),QD (b==0) 3,QD (decide (b>WC (oAt r.offers a))) 20]=0
 ·rw[jTj c] at h;have d:=Ub (e:=23) (by decide) (Zl c (QD (oAt r.offers a).2.2.2.2.2.2 23) (by simp));have f:=Ub (e:=3) (by decide) (Zl c (QD (b==0) 3) (by simp));have g:=Ub (e:=20) (by decide) (Zl c (QD (decide (b>WC (oAt r.offers a))) 20) (by simp));have j:=Ub (e:=16) (by decide) h;have i:=of_decide_eq_false g;have k:=of_decide_eq_false j;refine⟨d,by simpa using f,by omega,by omega⟩
 ·rw[jFj c] at h;exact absurd h c
theorem Qiy {n c:Nat}(v:1700<=n){r:Reg}(g:Inv c r)(hc:c<=992){num:Int}{kind E:jSj}{names:List jSj}{vals:List Int} :
  ∀{k:Ki},k≠.undo->Good (num,kind,names,vals,E) k->acc k r names vals=0->Qy n num kind (names.map Sd) (vals.map I) E r.tick r.level r.filled r.tripped r.light r.heat r.money (r.sectors.map Sd) (r.mirrors.map Q1) (r.offers.map Zs)=some (Wd (app k r names vals))
 | .sector,_,hg,ha=>by have f:=hg.kind;dsimp only[kw] at f;obtain⟨a,t,rfl,rfl,e⟩:=hg.d11 rfl rfl;obtain⟨d,p,j,m⟩:=QS ha;have o:okT r t:=okt d e;simp only[jCj,jnj];refine Eq.trans ?_ (show some (rtM r t ((r.sectors++[a]).map Sd) (r.mirrors.map Q1) (r.offers.map Zs))=some (Wd (app .sector r [a] [t])) from rfl);unfold Qy;rw[gi0,Wq g hc v o,jBj];rw[jTj f];rw[gs0,jTj (rmS g),List.map_append];rfl
 | .mirror,_,hg,ha=>by
  have f:=hg.kind;dsimp only[kw] at f;obtain⟨a,b,t,u,rfl,rfl,e⟩:=hg.d22 rfl rfl;obtain⟨d,p,j,m⟩:=QS ha;have o:okT r t:=okt d e;simp only[jCj,jnj];refine Eq.trans ?_ (show some (rtM r t (r.sectors.map Sd) ((r.mirrors++[((a,b,u,0,false,false):Mir)]).map Q1) (r.offers.map Zs))=some (Wd (app .mirror r [a,b] [t,u])) from rfl);unfold Qy;rw[gi0,Wq g hc v o,jBj];(iterate 1 rw[jFj (dne f (by decide))])
  rw[jTj f];rw[gs0,gs1,gi1,jTj (rmM g (by omega)),List.map_append];rfl
 | .soil,_,hg,ha=>by
  have f:=hg.kind;dsimp only[kw] at f;obtain⟨a,t,u,rfl,rfl,e⟩:=hg.d12 rfl rfl;obtain⟨d,p,j,m⟩:=QS ha;have o:okT r t:=okt d e;simp only[jCj,jnj];refine Eq.trans ?_ (show some (rtM r t (r.sectors.map Sd) ((r.mirrors.set (iM r.mirrors a) (kO (mAt r.mirrors a) u)).map Q1) (r.offers.map Zs))=some (Wd (app .soil r [a] [t,u])) from rfl);unfold Qy;rw[gi0,Wq g hc v o,jBj];(iterate 2 rw[jFj (dne f (by decide))])
  rw[jTj f];have A:ZG (nmM r.mirrors) a=true:=WN j;obtain⟨s,z,y⟩:=VM A;have q:=zm s z;rw[gs0,qT _ (by have:=g.lenM;omega) (by have:=g.lenM;omega),jBj,ZQ _ _ (by rw[Zh];have:=g.lenM;omega) (by rw[Zh];have:=g.lenM;omega),jBj,jTj q,s];rw[gi1];rw[Zc unM y,jBj,<-Yl,jtj];rfl
 | .clean,_,hg,ha=>by
  have f:=hg.kind;dsimp only[kw] at f;obtain⟨a,t,rfl,rfl,e⟩:=hg.d11 rfl rfl;obtain⟨d,p,j,m⟩:=QS ha;have o:okT r t:=okt d e;simp only[jCj,jnj];refine Eq.trans ?_ (show some (rtM r t (r.sectors.map Sd) ((r.mirrors.set (iM r.mirrors a) (kO (mAt r.mirrors a) 0)).map Q1) (r.offers.map Zs))=some (Wd (app .clean r [a] [t])) from rfl);unfold Qy;rw[gi0,Wq g hc v o,jBj];(iterate 3 rw[jFj (dne f (by decide))])
  rw[jTj f];have A:ZG (nmM r.mirrors) a=true:=WN j;obtain⟨s,z,y⟩:=VM A;have q:=zm s z;rw[gs0,qT _ (by have:=g.lenM;omega) (by have:=g.lenM;omega),jBj,ZQ _ _ (by rw[Zh];have:=g.lenM;omega) (by rw[Zh];have:=g.lenM;omega),jBj,jTj q,s];rw[Zc unM y,jBj,<-Yl,jtj];rfl
 | .defect,_,hg,ha=>by
  have f:=hg.kind;dsimp only[kw] at f;obtain⟨a,t,rfl,rfl,e⟩:=hg.d11 rfl rfl;obtain⟨d,p,j,m⟩:=QS ha;have o:okT r t:=okt d e;simp only[jCj,jnj];refine Eq.trans ?_ (show some (rtM r t (r.sectors.map Sd) ((r.mirrors.set (iM r.mirrors a) (defM (mAt r.mirrors a) true)).map Q1) (r.offers.map Zs))=some (Wd (app .defect r [a] [t])) from rfl);unfold Qy;rw[gi0,Wq g hc v o,jBj];(iterate 4 rw[jFj (dne f (by decide))])
  rw[jTj f];have A:ZG (nmM r.mirrors) a=true:=WN j;obtain⟨s,z,y⟩:=VM A;have q:=zm s z;rw[gs0,qT _ (by have:=g.lenM;omega) (by have:=g.lenM;omega),jBj,ZQ _ _ (by rw[Zh];have:=g.lenM;omega) (by rw[Zh];have:=g.lenM;omega),jBj,jTj q,s];rw[Zc unM y,jBj,<-Yl,jtj];rfl
 | .repair,_,hg,ha=>by
  have f:=hg.kind;dsimp only[kw] at f;obtain⟨a,t,rfl,rfl,e⟩:=hg.d11 rfl rfl;obtain⟨d,p,j,m⟩:=QS ha;have o:okT r t:=okt d e;simp only[jCj,jnj];refine Eq.trans ?_ (show some (rtM r t (r.sectors.map Sd) ((r.mirrors.set (iM r.mirrors a) (defM (mAt r.mirrors a) false)).map Q1) (r.offers.map Zs))=some (Wd (app .repair r [a] [t])) from rfl);unfold Qy;rw[gi0,Wq g hc v o,jBj];(iterate 5 rw[jFj (dne f (by decide))])
  rw[jTj f];have A:ZG (nmM r.mirrors) a=true:=WN j;obtain⟨s,z,y⟩:=VM A;have q:=zm s z;rw[gs0,qT _ (by have:=g.lenM;omega) (by have:=g.lenM;omega),jBj,ZQ _ _ (by rw[Zh];have:=g.lenM;omega) (by rw[Zh];have:=g.lenM;omega),jBj,jTj q,s];rw[Zc unM y,jBj,<-Yl,jtj];rfl
 | .aim,_,hg,ha=>by
  have f:=hg.kind;dsimp only[kw] at f;obtain⟨a,t,rfl,rfl,e⟩:=hg.d11 rfl rfl;obtain⟨d,p,j,m⟩:=QS ha;have o:okT r t:=okt d e;simp only[jCj,jnj];refine Eq.trans ?_ (show some (rtM r t (r.sectors.map Sd) ((r.mirrors.set (iM r.mirrors a) (aimM (mAt r.mirrors a))).map Q1) (r.offers.map Zs))=some (Wd (app .aim r [a] [t])) from rfl);unfold Qy;rw[gi0,Wq g hc v o,jBj];(iterate 6 rw[jFj (dne f (by decide))])
  rw[jTj f];have A:ZG (nmM r.mirrors) a=true:=WN j;obtain⟨s,z,y⟩:=VM A;have q:=zm s z;rw[gs0,qT _ (by have:=g.lenM;omega) (by have:=g.lenM;omega),jBj,ZQ _ _ (by rw[Zh];have:=g.lenM;omega) (by rw[Zh];have:=g.lenM;omega),jBj,jTj q,s];rw[Zc unM y,jBj,<-Yl,jtj];rfl
 | .park,_,hg,ha=>by
  have f:=hg.kind;dsimp only[kw] at f;obtain⟨a,t,rfl,rfl,e⟩:=hg.d11 rfl rfl;obtain⟨d,p,j,m⟩:=QS ha;have o:okT r t:=okt d e;simp only[jCj,jnj];refine Eq.trans ?_ (show some (rtM r t (r.sectors.map Sd) ((r.mirrors.set (iM r.mirrors a) (Xi (mAt r.mirrors a))).map Q1) (r.offers.map Zs))=some (Wd (app .park r [a] [t])) from rfl);unfold Qy;rw[gi0,Wq g hc v o,jBj];(iterate 7 rw[jFj (dne f (by decide))])
  rw[jTj f];have A:ZG (nmM r.mirrors) a=true:=WN j;obtain⟨s,z,y⟩:=VM A;have q:=zm s z;rw[gs0,qT _ (by have:=g.lenM;omega) (by have:=g.lenM;omega),jBj,ZQ _ _ (by rw[Zh];have:=g.lenM;omega) (by rw[Zh];have:=g.lenM;omega),jBj,jTj q,s];rw[Zc unM y,jBj,<-Yl,jtj];rfl
 | .dim,_,hg,ha=>by
  have f:=hg.kind;dsimp only[kw] at f;obtain⟨a,t,rfl,rfl,e⟩:=hg.d11 rfl rfl;obtain⟨d,p,j,m⟩:=QS ha;have o:okT r t:=okt d e;simp only[jCj,jnj];refine Eq.trans ?_ (show some (rtM r t (r.sectors.map Sd) ((r.mirrors.map (kf a)).map Q1) (r.offers.map Zs))=some (Wd (app .dim r [a] [t])) from rfl);unfold Qy;rw[gi0,Wq g hc v o,jBj];(iterate 8 rw[jFj (dne f (by decide))])
  rw[jTj f];rw[Qkw _ (by have:=g.lenM;omega) (by have:=g.lenM;omega),jBj]
 | .sun,_,hg,ha=>by
  have f:=hg.kind;dsimp only[kw] at f;obtain⟨t,u,rfl,rfl,e⟩:=hg.d02 rfl rfl;obtain⟨d,p,j,m⟩:=QS ha;have o:okT r t:=okt d e;simp only[jCj,jnj];refine Eq.trans ?_ (show some ((t,u,r.filled,r.tripped,r.light+WP r t,r.heat+WP r t,r.money,r.sectors.map Sd,r.mirrors.map Q1,r.offers.map Zs):wq)=some (Wd (app .sun r [] [t,u])) from rfl);unfold Qy;rw[gi0,Wq g hc v o,jBj];(iterate 9 rw[jFj (dne f (by decide))])
  rw[jTj f];rw[gi1]
 | .fill,_,hg,ha=>by
  have f:=hg.kind;dsimp only[kw] at f;obtain⟨t,rfl,rfl,e⟩:=hg.d01 rfl rfl;obtain⟨d,p,j,m⟩:=QS ha;have o:okT r t:=okt d e;simp only[jCj,jnj];refine Eq.trans ?_ (show some ((t,r.level,true,r.tripped,r.light+WP r t,r.heat+WP r t,r.money,r.sectors.map Sd,r.mirrors.map Q1,r.offers.map Zs):wq)=some (Wd (app .fill r [] [t])) from rfl);unfold Qy;rw[gi0,Wq g hc v o,jBj];(iterate 10 rw[jFj (dne f (by decide))])
  rw[jTj f]
 | .drain,_,hg,ha=>by
  have f:=hg.kind;dsimp only[kw] at f;obtain⟨t,rfl,rfl,e⟩:=hg.d01 rfl rfl;obtain⟨d,p,j,m⟩:=QS ha;have o:okT r t:=okt d e;simp only[jCj,jnj];refine Eq.trans ?_ (show some ((t,r.level,false,r.tripped,r.light+WP r t,r.heat+WP r t,r.money,r.sectors.map Sd,r.mirrors.map Q1,r.offers.map Zs):wq)=some (Wd (app .drain r [] [t])) from rfl);unfold Qy;rw[gi0,Wq g hc v o,jBj];(iterate 11 rw[jFj (dne f (by decide))])
  rw[jTj f]
 | .trip,_,hg,ha=>by
  have f:=hg.kind;dsimp only[kw] at f;obtain⟨t,rfl,rfl,e⟩:=hg.d01 rfl rfl;obtain⟨d,p,j,m⟩:=QS ha;have o:okT r t:=okt d e;simp only[jCj,jnj];refine Eq.trans ?_ (show some ((t,r.level,r.filled,true,r.light+WP r t,r.heat+WP r t,r.money,r.sectors.map Sd,(r.mirrors.map Xi).map Q1,r.offers.map Zs):wq)=some (Wd (app .trip r [] [t])) from rfl);unfold Qy;rw[gi0,Wq g hc v o,jBj];(iterate 12 rw[jFj (dne f (by decide))])
  rw[jTj f];rw[Qkv _ (by have:=g.lenM;omega) (by have:=g.lenM;omega),jBj]
 | .reset,_,hg,ha=>by
  have f:=hg.kind;dsimp only[kw] at f;obtain⟨t,rfl,rfl,e⟩:=hg.d01 rfl rfl;obtain⟨d,p,j,m⟩:=QS ha;have o:okT r t:=okt d e;simp only[jCj,jnj];refine Eq.trans ?_ (show some ((t,r.level,r.filled,false,r.light+WP r t,r.heat+WP r t,r.money,r.sectors.map Sd,r.mirrors.map Q1,r.offers.map Zs):wq)=some (Wd (app .reset r [] [t])) from rfl);unfold Qy;rw[gi0,Wq g hc v o,jBj];(iterate 13 rw[jFj (dne f (by decide))])
  rw[jTj f]
 | .offer,_,hg,ha=>by
  have f:=hg.kind;dsimp only[kw] at f;obtain⟨a,t,u,G,M,N,rfl,rfl,e⟩:=hg.d15 rfl rfl;obtain⟨d,p,j,m⟩:=QS ha;have o:okT r t:=okt d e;simp only[jCj,jnj];refine Eq.trans ?_ (show some (rtM r t (r.sectors.map Sd) (r.mirrors.map Q1) ((r.offers++[((a,u,G,M,N,0,false):Off)]).map Zs))=some (Wd (app .offer r [a] [t,u,G,M,N])) from rfl);unfold Qy;rw[gi0,Wq g hc v o,jBj];(iterate 14 rw[jFj (dne f (by decide))])
  rw[jTj f];have L:∃w,Vb n num kind [Sd a] [I t,I u,I G,I M,I N] E=some (u,G,w):=by
   unfold Vb;rw[gi1,gi2,gi0];by_cases h:u<t
   ·rw[jTj h];exact⟨14,rfl⟩
   ·rw[jFj h,QR];exact⟨_,rfl⟩
  obtain⟨w,L⟩:=L;rw[L,jBj,gs0,gi3,gi4,jTj (rmO g (by omega)),List.map_append];rfl
 | .deliver,_,hg,ha=>by
  have f:=hg.kind;dsimp only[kw] at f;obtain⟨a,t,u,rfl,rfl,e⟩:=hg.d12 rfl rfl;obtain⟨d,p,j,m⟩:=QS ha;have o:okT r t:=okt d e;simp only[jCj,jnj];refine Eq.trans ?_ (show some ((t,r.level,r.filled,r.tripped,r.light+WP r t,r.heat+WP r t - 1000000*u,r.money,r.sectors.map Sd,r.mirrors.map Q1,(r.offers.set (iO r.offers a) (delO (oAt r.offers a) u)).map Zs):wq)=some (Wd (app .deliver r [a] [t,u])) from rfl);unfold Qy;rw[gi0,Wq g hc v o,jBj];(iterate 15 rw[jFj (dne f (by decide))])
  rw[jTj f];have A:ZG (nmO r.offers) a=true:=WN j;obtain⟨s,z,y⟩:=J6 A;have C:=g.offs _ (jgj y);have q:=hltO s z;rw[gs0,QfK _ (by have:=g.lenO;omega) (by have:=g.lenO;omega),jBj,ZQ _ _ (by rw[Wy];have:=g.lenO;omega) (by rw[Wy];have:=g.lenO;omega),jBj,jTj q,s];have P:=wi m;have O:=Kg C;have V:=hg.val u (by simp);have S:=qe g hc o;have T:=g.heat;have J:=P.2.2.1;have Q:=C.2.2;unfold WC at J;rw[Zc unO y,jBj,gi1,jTj (by unfold Qg;have:=C.1;omega),jTj (by unfold Qg;omega),jTj (by unfold Qg;omega),<-Xj,jtj];rfl
 | .bill,_,hg,ha=>by
  have f:=hg.kind;dsimp only[kw] at f;obtain⟨a,t,rfl,rfl,e⟩:=hg.d11 rfl rfl;obtain⟨d,p,j,m⟩:=QS ha;have o:okT r t:=okt d e;simp only[jCj,jnj];refine Eq.trans ?_ (show some ((t,r.level,r.filled,r.tripped,r.light+WP r t,r.heat+WP r t,r.money+Gr (oAt r.offers a),r.sectors.map Sd,r.mirrors.map Q1,(r.offers.set (iO r.offers a) (zp (oAt r.offers a))).map Zs):wq)=some (Wd (app .bill r [a] [t])) from rfl);unfold Qy;rw[gi0,Wq g hc v o,jBj];(iterate 16 rw[jFj (dne f (by decide))])
  rw[jTj f];have A:ZG (nmO r.offers) a=true:=WN j;obtain⟨s,z,y⟩:=J6 A;have C:=g.offs _ (jgj y);have q:=hltO s z;rw[gs0,QfK _ (by have:=g.lenO;omega) (by have:=g.lenO;omega),jBj,ZQ _ _ (by rw[Wy];have:=g.lenO;omega) (by rw[Wy];have:=g.lenO;omega),jBj,jTj q,s];have O:=(Kg C).2.2.2;have U:=g.money;have K:(nth (List.set (r.offers.map Zs) (Int.toNat (iO r.offers a:Int)) (Zs (zp (oAt r.offers a))):jVj) (Int.toNat (iO r.offers a:Int))).bind Z4=some (zp (oAt r.offers a)):=by rw[jtj,Xj];have:=Zc (i:=iO r.offers a) (l:=r.offers.set (iO r.offers a) (zp (oAt r.offers a))) (x:=zp (oAt r.offers a)) unO (by rw[List.getElem?_set_self z]);rwa [jtj] at this
  have F:okO (zp (oAt r.offers a)):=C;have H:Gr (zp (oAt r.offers a))=Gr (oAt r.offers a):=rfl;rw[Zc unO y,jBj];refine Eq.trans (congrArg (fun x:Option Off=>x.bind _) K) ?_;rw[jBj,QcA n F,jBj,H,jTj (by unfold Qg;omega),<-Xj,jtj];rfl
 | .undo,h,_,_=>absurd rfl h
theorem Qg8 {n c:Nat}(v:1700<=n){r:Reg}(g:Inv c r)(hc:c<=992){num:Int}{kind E:jSj}{names:List jSj}{vals:List Int}{evs H:jVj} :
  ∀{k:Ki},k≠.undo->Good (num,kind,names,vals,E) k->acc k r names vals=0->Qw n num kind (names.map Sd) (vals.map I) E evs H r.tick r.level r.filled r.tripped r.light r.heat r.money (r.sectors.map Sd) (r.mirrors.map Q1) (r.offers.map Zs)=some (Wd (app k r names vals))
 | .sector,_,hg,ha=>by have f:=hg.kind;dsimp only[kw] at f;obtain⟨a,t,rfl,rfl,e⟩:=hg.d11 rfl rfl;obtain⟨d,p,j,m⟩:=QS ha;have o:okT r t:=okt d e;simp only[jCj,jnj];refine Eq.trans ?_ (show some (rtM r t ((r.sectors++[a]).map Sd) (r.mirrors.map Q1) (r.offers.map Zs))=some (Wd (app .sector r [a] [t])) from rfl);unfold Qw;rw[gi0,Wk g hc v o,jBj];rw[jTj f];rw[gs0,jTj (rmS g),List.map_append];rfl
 | .mirror,_,hg,ha=>by
  have f:=hg.kind;dsimp only[kw] at f;obtain⟨a,b,t,u,rfl,rfl,e⟩:=hg.d22 rfl rfl;obtain⟨d,p,j,m⟩:=QS ha;have o:okT r t:=okt d e;simp only[jCj,jnj];refine Eq.trans ?_ (show some (rtM r t (r.sectors.map Sd) ((r.mirrors++[((a,b,u,0,false,false):Mir)]).map Q1) (r.offers.map Zs))=some (Wd (app .mirror r [a,b] [t,u])) from rfl);unfold Qw;rw[gi0,Wk g hc v o,jBj];(iterate 1 rw[jFj (dne f (by decide))])
  rw[jTj f];rw[gs0,gs1,gi1,jTj (rmM g (by omega)),List.map_append];rfl
 | .soil,_,hg,ha=>by
  have f:=hg.kind;dsimp only[kw] at f;obtain⟨a,t,u,rfl,rfl,e⟩:=hg.d12 rfl rfl;obtain⟨d,p,j,m⟩:=QS ha;have o:okT r t:=okt d e;simp only[jCj,jnj];refine Eq.trans ?_ (show some (rtM r t (r.sectors.map Sd) ((r.mirrors.set (iM r.mirrors a) (kO (mAt r.mirrors a) u)).map Q1) (r.offers.map Zs))=some (Wd (app .soil r [a] [t,u])) from rfl);unfold Qw;rw[gi0,Wk g hc v o,jBj];(iterate 2 rw[jFj (dne f (by decide))])
  rw[jTj f];have A:ZG (nmM r.mirrors) a=true:=WN j;obtain⟨s,z,y⟩:=VM A;have q:=zm s z;rw[gs0,UE _ (by have:=g.lenM;omega) (by have:=g.lenM;omega),jBj,ZQ _ _ (by rw[Zh];have:=g.lenM;omega) (by rw[Zh];have:=g.lenM;omega),jBj,jTj q,s];rw[gi1];rw[Zc unM y,jBj,<-Yl,jtj];rfl
 | .clean,_,hg,ha=>by
  have f:=hg.kind;dsimp only[kw] at f;obtain⟨a,t,rfl,rfl,e⟩:=hg.d11 rfl rfl;obtain⟨d,p,j,m⟩:=QS ha;have o:okT r t:=okt d e;simp only[jCj,jnj];refine Eq.trans ?_ (show some (rtM r t (r.sectors.map Sd) ((r.mirrors.set (iM r.mirrors a) (kO (mAt r.mirrors a) 0)).map Q1) (r.offers.map Zs))=some (Wd (app .clean r [a] [t])) from rfl);unfold Qw;rw[gi0,Wk g hc v o,jBj];(iterate 3 rw[jFj (dne f (by decide))])
  rw[jTj f];have A:ZG (nmM r.mirrors) a=true:=WN j;obtain⟨s,z,y⟩:=VM A;have q:=zm s z;rw[gs0,UE _ (by have:=g.lenM;omega) (by have:=g.lenM;omega),jBj,ZQ _ _ (by rw[Zh];have:=g.lenM;omega) (by rw[Zh];have:=g.lenM;omega),jBj,jTj q,s];rw[Zc unM y,jBj,<-Yl,jtj];rfl
 | .defect,_,hg,ha=>by
  have f:=hg.kind;dsimp only[kw] at f;obtain⟨a,t,rfl,rfl,e⟩:=hg.d11 rfl rfl;obtain⟨d,p,j,m⟩:=QS ha;have o:okT r t:=okt d e;simp only[jCj,jnj];refine Eq.trans ?_ (show some (rtM r t (r.sectors.map Sd) ((r.mirrors.set (iM r.mirrors a) (defM (mAt r.mirrors a) true)).map Q1) (r.offers.map Zs))=some (Wd (app .defect r [a] [t])) from rfl);unfold Qw;rw[gi0,Wk g hc v o,jBj];(iterate 4 rw[jFj (dne f (by decide))])
  rw[jTj f];have A:ZG (nmM r.mirrors) a=true:=WN j;obtain⟨s,z,y⟩:=VM A;have q:=zm s z;rw[gs0,UE _ (by have:=g.lenM;omega) (by have:=g.lenM;omega),jBj,ZQ _ _ (by rw[Zh];have:=g.lenM;omega) (by rw[Zh];have:=g.lenM;omega),jBj,jTj q,s];rw[Zc unM y,jBj,<-Yl,jtj];rfl
 | .repair,_,hg,ha=>by
  have f:=hg.kind;dsimp only[kw] at f;obtain⟨a,t,rfl,rfl,e⟩:=hg.d11 rfl rfl;obtain⟨d,p,j,m⟩:=QS ha;have o:okT r t:=okt d e;simp only[jCj,jnj];refine Eq.trans ?_ (show some (rtM r t (r.sectors.map Sd) ((r.mirrors.set (iM r.mirrors a) (defM (mAt r.mirrors a) false)).map Q1) (r.offers.map Zs))=some (Wd (app .repair r [a] [t])) from rfl);unfold Qw;rw[gi0,Wk g hc v o,jBj];(iterate 5 rw[jFj (dne f (by decide))])
  rw[jTj f];have A:ZG (nmM r.mirrors) a=true:=WN j;obtain⟨s,z,y⟩:=VM A;have q:=zm s z;rw[gs0,UE _ (by have:=g.lenM;omega) (by have:=g.lenM;omega),jBj,ZQ _ _ (by rw[Zh];have:=g.lenM;omega) (by rw[Zh];have:=g.lenM;omega),jBj,jTj q,s];rw[Zc unM y,jBj,<-Yl,jtj];rfl
 | .aim,_,hg,ha=>by
  have f:=hg.kind;dsimp only[kw] at f;obtain⟨a,t,rfl,rfl,e⟩:=hg.d11 rfl rfl;obtain⟨d,p,j,m⟩:=QS ha;have o:okT r t:=okt d e;simp only[jCj,jnj];refine Eq.trans ?_ (show some (rtM r t (r.sectors.map Sd) ((r.mirrors.set (iM r.mirrors a) (aimM (mAt r.mirrors a))).map Q1) (r.offers.map Zs))=some (Wd (app .aim r [a] [t])) from rfl);unfold Qw;rw[gi0,Wk g hc v o,jBj];(iterate 6 rw[jFj (dne f (by decide))])
  rw[jTj f];have A:ZG (nmM r.mirrors) a=true:=WN j;obtain⟨s,z,y⟩:=VM A;have q:=zm s z;rw[gs0,UE _ (by have:=g.lenM;omega) (by have:=g.lenM;omega),jBj,ZQ _ _ (by rw[Zh];have:=g.lenM;omega) (by rw[Zh];have:=g.lenM;omega),jBj,jTj q,s];rw[Zc unM y,jBj,<-Yl,jtj];rfl
 | .park,_,hg,ha=>by
  have f:=hg.kind;dsimp only[kw] at f;obtain⟨a,t,rfl,rfl,e⟩:=hg.d11 rfl rfl;obtain⟨d,p,j,m⟩:=QS ha;have o:okT r t:=okt d e;simp only[jCj,jnj];refine Eq.trans ?_ (show some (rtM r t (r.sectors.map Sd) ((r.mirrors.set (iM r.mirrors a) (Xi (mAt r.mirrors a))).map Q1) (r.offers.map Zs))=some (Wd (app .park r [a] [t])) from rfl);unfold Qw;rw[gi0,Wk g hc v o,jBj];(iterate 7 rw[jFj (dne f (by decide))])
  rw[jTj f];have A:ZG (nmM r.mirrors) a=true:=WN j;obtain⟨s,z,y⟩:=VM A;have q:=zm s z;rw[gs0,UE _ (by have:=g.lenM;omega) (by have:=g.lenM;omega),jBj,ZQ _ _ (by rw[Zh];have:=g.lenM;omega) (by rw[Zh];have:=g.lenM;omega),jBj,jTj q,s];rw[Zc unM y,jBj,<-Yl,jtj];rfl
 | .dim,_,hg,ha=>by
  have f:=hg.kind;dsimp only[kw] at f;obtain⟨a,t,rfl,rfl,e⟩:=hg.d11 rfl rfl;obtain⟨d,p,j,m⟩:=QS ha;have o:okT r t:=okt d e;simp only[jCj,jnj];refine Eq.trans ?_ (show some (rtM r t (r.sectors.map Sd) ((r.mirrors.map (kf a)).map Q1) (r.offers.map Zs))=some (Wd (app .dim r [a] [t])) from rfl);unfold Qw;rw[gi0,Wk g hc v o,jBj];(iterate 8 rw[jFj (dne f (by decide))])
  rw[jTj f];rw[QjY _ (by have:=g.lenM;omega) (by have:=g.lenM;omega),jBj]
 | .sun,_,hg,ha=>by
  have f:=hg.kind;dsimp only[kw] at f;obtain⟨t,u,rfl,rfl,e⟩:=hg.d02 rfl rfl;obtain⟨d,p,j,m⟩:=QS ha;have o:okT r t:=okt d e;simp only[jCj,jnj];refine Eq.trans ?_ (show some ((t,u,r.filled,r.tripped,r.light+WP r t,r.heat+WP r t,r.money,r.sectors.map Sd,r.mirrors.map Q1,r.offers.map Zs):wq)=some (Wd (app .sun r [] [t,u])) from rfl);unfold Qw;rw[gi0,Wk g hc v o,jBj];(iterate 9 rw[jFj (dne f (by decide))])
  rw[jTj f];rw[gi1]
 | .fill,_,hg,ha=>by
  have f:=hg.kind;dsimp only[kw] at f;obtain⟨t,rfl,rfl,e⟩:=hg.d01 rfl rfl;obtain⟨d,p,j,m⟩:=QS ha;have o:okT r t:=okt d e;simp only[jCj,jnj];refine Eq.trans ?_ (show some ((t,r.level,true,r.tripped,r.light+WP r t,r.heat+WP r t,r.money,r.sectors.map Sd,r.mirrors.map Q1,r.offers.map Zs):wq)=some (Wd (app .fill r [] [t])) from rfl);unfold Qw;rw[gi0,Wk g hc v o,jBj];(iterate 10 rw[jFj (dne f (by decide))])
  rw[jTj f]
 | .drain,_,hg,ha=>by
  have f:=hg.kind;dsimp only[kw] at f;obtain⟨t,rfl,rfl,e⟩:=hg.d01 rfl rfl;obtain⟨d,p,j,m⟩:=QS ha;have o:okT r t:=okt d e;simp only[jCj,jnj];refine Eq.trans ?_ (show some ((t,r.level,false,r.tripped,r.light+WP r t,r.heat+WP r t,r.money,r.sectors.map Sd,r.mirrors.map Q1,r.offers.map Zs):wq)=some (Wd (app .drain r [] [t])) from rfl);unfold Qw;rw[gi0,Wk g hc v o,jBj];(iterate 11 rw[jFj (dne f (by decide))])
  rw[jTj f]
 | .trip,_,hg,ha=>by
  have f:=hg.kind;dsimp only[kw] at f;obtain⟨t,rfl,rfl,e⟩:=hg.d01 rfl rfl;obtain⟨d,p,j,m⟩:=QS ha;have o:okT r t:=okt d e;simp only[jCj,jnj];refine Eq.trans ?_ (show some ((t,r.level,r.filled,true,r.light+WP r t,r.heat+WP r t,r.money,r.sectors.map Sd,(r.mirrors.map Xi).map Q1,r.offers.map Zs):wq)=some (Wd (app .trip r [] [t])) from rfl);unfold Qw;rw[gi0,Wk g hc v o,jBj];(iterate 12 rw[jFj (dne f (by decide))])
  rw[jTj f];rw[QjX _ (by have:=g.lenM;omega) (by have:=g.lenM;omega),jBj]
 | .reset,_,hg,ha=>by
  have f:=hg.kind;dsimp only[kw] at f;obtain⟨t,rfl,rfl,e⟩:=hg.d01 rfl rfl;obtain⟨d,p,j,m⟩:=QS ha;have o:okT r t:=okt d e;simp only[jCj,jnj];refine Eq.trans ?_ (show some ((t,r.level,r.filled,false,r.light+WP r t,r.heat+WP r t,r.money,r.sectors.map Sd,r.mirrors.map Q1,r.offers.map Zs):wq)=some (Wd (app .reset r [] [t])) from rfl);unfold Qw;rw[gi0,Wk g hc v o,jBj];(iterate 13 rw[jFj (dne f (by decide))])
  rw[jTj f]
 | .offer,_,hg,ha=>by
  have f:=hg.kind;dsimp only[kw] at f;obtain⟨a,t,u,G,N,O,rfl,rfl,e⟩:=hg.d15 rfl rfl;obtain⟨d,p,j,m⟩:=QS ha;have o:okT r t:=okt d e;simp only[jCj,jnj];refine Eq.trans ?_ (show some (rtM r t (r.sectors.map Sd) (r.mirrors.map Q1) ((r.offers++[((a,u,G,N,O,0,false):Off)]).map Zs))=some (Wd (app .offer r [a] [t,u,G,N,O])) from rfl);unfold Qw;rw[gi0,Wk g hc v o,jBj];(iterate 14 rw[jFj (dne f (by decide))])
  rw[jTj f];have M:∃w,Vb n num kind [Sd a] [I t,I u,I G,I N,I O] E=some (u,G,w):=by
   unfold Vb;rw[gi1,gi2,gi0];by_cases h:u<t
   ·rw[jTj h];exact⟨14,rfl⟩
   ·rw[jFj h,QR];exact⟨_,rfl⟩
  obtain⟨w,M⟩:=M;rw[M,jBj,gs0,gi3,gi4,jTj (rmO g (by omega)),List.map_append];rfl
 | .deliver,_,hg,ha=>by
  have f:=hg.kind;dsimp only[kw] at f;obtain⟨a,t,u,rfl,rfl,e⟩:=hg.d12 rfl rfl;obtain⟨d,p,j,m⟩:=QS ha;have o:okT r t:=okt d e;simp only[jCj,jnj];refine Eq.trans ?_ (show some ((t,r.level,r.filled,r.tripped,r.light+WP r t,r.heat+WP r t - 1000000*u,r.money,r.sectors.map Sd,r.mirrors.map Q1,(r.offers.set (iO r.offers a) (delO (oAt r.offers a) u)).map Zs):wq)=some (Wd (app .deliver r [a] [t,u])) from rfl);unfold Qw;rw[gi0,Wk g hc v o,jBj];(iterate 15 rw[jFj (dne f (by decide))])
  rw[jTj f];have A:ZG (nmO r.offers) a=true:=WN j;obtain⟨s,z,y⟩:=J6 A;have C:=g.offs _ (jgj y);have q:=hltO s z;rw[gs0,X8 _ (by have:=g.lenO;omega) (by have:=g.lenO;omega),jBj,ZQ _ _ (by rw[Wy];have:=g.lenO;omega) (by rw[Wy];have:=g.lenO;omega),jBj,jTj q,s];have Q:=wi m;have P:=Kg C;have W:=hg.val u (by simp);have T:=qe g hc o;have U:=g.heat;have K:=Q.2.2.1;have S:=C.2.2;unfold WC at K;rw[Zc unO y,jBj,gi1,jTj (by unfold Qg;have:=C.1;omega),jTj (by unfold Qg;omega),jTj (by unfold Qg;omega),<-Xj,jtj];rfl
 | .bill,_,hg,ha=>by
  have f:=hg.kind;dsimp only[kw] at f;obtain⟨a,t,rfl,rfl,e⟩:=hg.d11 rfl rfl;obtain⟨d,p,j,m⟩:=QS ha;have o:okT r t:=okt d e;simp only[jCj,jnj];refine Eq.trans ?_ (show some ((t,r.level,r.filled,r.tripped,r.light+WP r t,r.heat+WP r t,r.money+Gr (oAt r.offers a),r.sectors.map Sd,r.mirrors.map Q1,(r.offers.set (iO r.offers a) (zp (oAt r.offers a))).map Zs):wq)=some (Wd (app .bill r [a] [t])) from rfl);unfold Qw;rw[gi0,Wk g hc v o,jBj];(iterate 16 rw[jFj (dne f (by decide))])
  rw[jTj f];have A:ZG (nmO r.offers) a=true:=WN j;obtain⟨s,z,y⟩:=J6 A;have C:=g.offs _ (jgj y);have q:=hltO s z;rw[gs0,X8 _ (by have:=g.lenO;omega) (by have:=g.lenO;omega),jBj,ZQ _ _ (by rw[Wy];have:=g.lenO;omega) (by rw[Wy];have:=g.lenO;omega),jBj,jTj q,s];have P:=(Kg C).2.2.2;have V:=g.money;have L:(nth (List.set (r.offers.map Zs) (Int.toNat (iO r.offers a:Int)) (Zs (zp (oAt r.offers a))):jVj) (Int.toNat (iO r.offers a:Int))).bind Z4=some (zp (oAt r.offers a)):=by rw[jtj,Xj];have:=Zc (i:=iO r.offers a) (l:=r.offers.set (iO r.offers a) (zp (oAt r.offers a))) (x:=zp (oAt r.offers a)) unO (by rw[List.getElem?_set_self z]);rwa [jtj] at this
  have F:okO (zp (oAt r.offers a)):=C;have J:Gr (zp (oAt r.offers a))=Gr (oAt r.offers a):=rfl;rw[Zc unO y,jBj];refine Eq.trans (congrArg (fun x:Option Off=>x.bind _) L) ?_;rw[jBj,QcA n F,jBj,J,jTj (by unfold Qg;omega),<-Xj,jtj];rfl
 | .undo,h,_,_=>absurd rfl h
theorem Qcm {x b a:Int}(c:b<=x)(d:x<=a):inR x b a=0:=WS.2 ⟨c,d⟩
theorem uS {a:Int}(l:List Int)(h:a=0):QK (a::l)=QK l:=by unfold QK;rw[jTj h];cases l<;>rfl
theorem QgP {x:Int}:QK [x]=x:=by
 simp only[QK];split
 ·rename_i h;exact h.symm
 ·rfl
theorem Vt {c d:Nat}(h:c<=d){r:Reg}(a:Inv c r):Inv d r :=
 ⟨a.tick,a.level,a.light,a.heat,by have:=a.money;omega,a.secs,by have:=a.lenM;omega,by have:=a.lenO;omega,a.mirs,a.offs⟩
theorem Ya {c:Nat}{r:Reg}(a:Inv c r)(hc:c<=992){t:Int}(f:okT r t)(d:Gq r t=0):Inv c (bkd r t):=by
 have l:=(qe a hc f).2;have i:=a.light;have j:=a.heat;have k:=a.tick;have b : r.light+WP r t<=1000000000000000/\r.heat+WP r t<=1000000000000000:=by
  unfold Gq at d;split at d
  ·rename_i h;exact h
  ·cases d
 obtain⟨g,e⟩:=f;exact⟨⟨show 0<=t by omega,e⟩,a.level,⟨show 0<=r.light+WP r t by omega,b.1⟩,⟨show 0<=r.heat+WP r t by omega,b.2⟩,a.money,a.secs,a.lenM,a.lenO,a.mirs,a.offs⟩
theorem Xs {c:Nat}{q:Reg}(b:Inv c q)(a:jSj){m:Mir}(d:okM m):Inv c (chgM q a m) :=
 ⟨b.tick,b.level,b.light,b.heat,b.money,b.secs,by show(q.mirrors.set _ _).length<=min c 32;rw[List.length_set];exact b.lenM,b.lenO,fun x e=>by
  obtain h|h:=List.mem_or_eq_of_mem_set e
  ·exact b.mirs x h
  ·rw[h];exact d,b.offs⟩
theorem QdN {c:Nat}{q:Reg}(b:Inv c q)(a:jSj){o:Off}(d:okO o):Inv c (chgO q a o) :=
 ⟨b.tick,b.level,b.light,b.heat,b.money,b.secs,b.lenM,by show(q.offers.set _ _).length<=min c 32;rw[List.length_set];exact b.lenO,b.mirs,fun x e=>by
  obtain h|h:=List.mem_or_eq_of_mem_set e
  ·exact b.offs x h
  ·rw[h];exact d⟩
theorem QdO {c:Nat}{q:Reg}(a:Inv c q)(f:Mir->Mir)(b:∀m,okM m->okM (f m)):Inv c { q with mirrors:=q.mirrors.map f } :=
 ⟨a.tick,a.level,a.light,a.heat,a.money,a.secs,by show(q.mirrors.map f).length<=min c 32;rw[jlj];exact a.lenM,a.lenO,fun x d=>by obtain⟨y,e,rfl⟩:=List.mem_map.1 d;exact b y (a.mirs y e),a.offs⟩
theorem Qkk (s:jSj)(m:Mir)(h:okM m):okM (kf s m):=by
 unfold kf;split
 ·exact h
 ·exact h
theorem Qjf {c:Nat}{r:Reg}(p:Inv c r)(hc:c<=990){num:Int}{kind A:jSj}{names:List jSj}{vals:List Int} :
  ∀{k:Ki},k≠.undo->Good (num,kind,names,vals,A) k->acc k r names vals=0->Inv (c+1) (app k r names vals)
 | .sector,_,hg,ha=>by
  obtain⟨a,t,rfl,rfl,i⟩:=hg.d11 rfl rfl;obtain⟨g,f,l,j⟩:=QS ha;have n:okT r t:=okt g i;have d:=Vt (Nat.le_succ c) (Ya p (by omega) n f);have J:=Ub (e:=5) (b:=((r.sectors.length:Int)==8)) (by decide) j;have K : ¬(r.sectors.length:Int)=8:=by simpa using J
  have q:=p.secs;exact⟨d.tick,d.level,d.light,d.heat,d.money,by show(r.sectors++[a]).length<=8;simp;omega,d.lenM,d.lenO,d.mirs,d.offs⟩
 | .mirror,_,hg,ha=>by
  obtain⟨a,b,t,v,rfl,rfl,i⟩:=hg.d22 rfl rfl;obtain⟨g,f,l,j⟩:=QS ha;have n:okT r t:=okt g i;have d:=Vt (Nat.le_succ c) (Ya p (by omega) n f);have F:=WS.1 (Zl j (inR v 1 100) (by simp));have x:=Ub (e:=5) (b:=((r.mirrors.length:Int)==32)) (by decide) (Zl j (QD ((r.mirrors.length:Int)==32) 5) (by simp));have z : ¬(r.mirrors.length:Int)=32:=by simpa using x
  have N:=p.lenM;refine⟨d.tick,d.level,d.light,d.heat,d.money,d.secs,by show(r.mirrors++[_]).length<=min (c+1) 32;rw[jaj,List.length_singleton];omega,d.lenO,fun m u=>?_,d.offs⟩;obtain h|h:=List.mem_append.1 u
  ·exact p.mirs m h
  ·rw[List.mem_singleton.1 h];exact⟨F,⟨Int.le_refl 0,show(0:Int)<=1000 by decide⟩⟩
 | .soil,_,hg,ha=>by obtain⟨a,t,v,rfl,rfl,i⟩:=hg.d12 rfl rfl;obtain⟨g,f,l,j⟩:=QS ha;have n:okT r t:=okt g i;have d:=Vt (Nat.le_succ c) (Ya p (by omega) n f);have s:ZG (nmM r.mirrors) a=true:=WN l;have u:=p.mirs _ (jgj (VM s).2.2);exact Xs d a (m:=kO (mAt r.mirrors a) v) ⟨u.1,WS.1 j⟩
 | .clean,_,hg,ha=>by obtain⟨a,t,rfl,rfl,i⟩:=hg.d11 rfl rfl;obtain⟨g,f,l,j⟩:=QS ha;have n:okT r t:=okt g i;have d:=Vt (Nat.le_succ c) (Ya p (by omega) n f);have s:ZG (nmM r.mirrors) a=true:=WN l;have u:=p.mirs _ (jgj (VM s).2.2);exact Xs d a (m:=kO (mAt r.mirrors a) 0) ⟨u.1,⟨Int.le_refl 0,show(0:Int)<=1000 by decide⟩⟩
 | .defect,_,hg,ha=>by obtain⟨a,t,rfl,rfl,i⟩:=hg.d11 rfl rfl;obtain⟨g,f,l,j⟩:=QS ha;have n:okT r t:=okt g i;have d:=Vt (Nat.le_succ c) (Ya p (by omega) n f);have s:ZG (nmM r.mirrors) a=true:=WN l;have u:=p.mirs _ (jgj (VM s).2.2);exact Xs d a (m:=defM (mAt r.mirrors a) true) u
 | .repair,_,hg,ha=>by obtain⟨a,t,rfl,rfl,i⟩:=hg.d11 rfl rfl;obtain⟨g,f,l,j⟩:=QS ha;have n:okT r t:=okt g i;have d:=Vt (Nat.le_succ c) (Ya p (by omega) n f);have s:ZG (nmM r.mirrors) a=true:=WN l;have u:=p.mirs _ (jgj (VM s).2.2);exact Xs d a (m:=defM (mAt r.mirrors a) false) u
 | .aim,_,hg,ha=>by obtain⟨a,t,rfl,rfl,i⟩:=hg.d11 rfl rfl;obtain⟨g,f,l,j⟩:=QS ha;have n:okT r t:=okt g i;have d:=Vt (Nat.le_succ c) (Ya p (by omega) n f);have s:ZG (nmM r.mirrors) a=true:=WN l;have u:=p.mirs _ (jgj (VM s).2.2);exact Xs d a (m:=aimM (mAt r.mirrors a)) u
 | .park,_,hg,ha=>by obtain⟨a,t,rfl,rfl,i⟩:=hg.d11 rfl rfl;obtain⟨g,f,l,j⟩:=QS ha;have n:okT r t:=okt g i;have d:=Vt (Nat.le_succ c) (Ya p (by omega) n f);have s:ZG (nmM r.mirrors) a=true:=WN l;have u:=p.mirs _ (jgj (VM s).2.2);exact Xs d a (m:=Xi (mAt r.mirrors a)) u
 | .dim,_,hg,ha=>by obtain⟨a,t,rfl,rfl,i⟩:=hg.d11 rfl rfl;obtain⟨g,f,l,j⟩:=QS ha;have n:okT r t:=okt g i;have d:=Vt (Nat.le_succ c) (Ya p (by omega) n f);exact QdO d (kf a) (Qkk a)
 | .sun,_,hg,ha=>by obtain⟨t,v,rfl,rfl,i⟩:=hg.d02 rfl rfl;obtain⟨g,f,l,j⟩:=QS ha;have n:okT r t:=okt g i;have d:=Vt (Nat.le_succ c) (Ya p (by omega) n f);exact⟨d.tick,WS.1 j,d.light,d.heat,d.money,d.secs,d.lenM,d.lenO,d.mirs,d.offs⟩
 | .fill,_,hg,ha=>by obtain⟨t,rfl,rfl,i⟩:=hg.d01 rfl rfl;obtain⟨g,f,l,j⟩:=QS ha;have n:okT r t:=okt g i;have d:=Vt (Nat.le_succ c) (Ya p (by omega) n f);exact⟨d.tick,d.level,d.light,d.heat,d.money,d.secs,d.lenM,d.lenO,d.mirs,d.offs⟩
 | .drain,_,hg,ha=>by obtain⟨t,rfl,rfl,i⟩:=hg.d01 rfl rfl;obtain⟨g,f,l,j⟩:=QS ha;have n:okT r t:=okt g i;have d:=Vt (Nat.le_succ c) (Ya p (by omega) n f);exact⟨d.tick,d.level,d.light,d.heat,d.money,d.secs,d.lenM,d.lenO,d.mirs,d.offs⟩
 | .trip,_,hg,ha=>by obtain⟨t,rfl,rfl,i⟩:=hg.d01 rfl rfl;obtain⟨g,f,l,j⟩:=QS ha;have n:okT r t:=okt g i;have d:=Vt (Nat.le_succ c) (Ya p (by omega) n f);have:=QdO d Xi (fun m h=>h);exact⟨this.tick,this.level,this.light,this.heat,this.money,this.secs,this.lenM,this.lenO,this.mirs,this.offs⟩
 | .reset,_,hg,ha=>by obtain⟨t,rfl,rfl,i⟩:=hg.d01 rfl rfl;obtain⟨g,f,l,j⟩:=QS ha;have n:okT r t:=okt g i;have d:=Vt (Nat.le_succ c) (Ya p (by omega) n f);exact⟨d.tick,d.level,d.light,d.heat,d.money,d.secs,d.lenM,d.lenO,d.mirs,d.offs⟩
 | .offer,_,hg,ha=>by
  obtain⟨a,t,v,V,E,Q,rfl,rfl,i⟩:=hg.d15 rfl rfl;obtain⟨g,f,l,j⟩:=QS ha;have n:okT r t:=okt g i;have d:=Vt (Nat.le_succ c) (Ya p (by omega) n f);have G:=WS.1 (Zl j (inR E 1 1000) (by simp));have H:=WS.1 (Zl j (inR Q 0 1000) (by simp));have x:=Ub (e:=5) (b:=((r.offers.length:Int)==32)) (by decide) (Zl j (QD ((r.offers.length:Int)==32) 5) (by simp));have z : ¬(r.offers.length:Int)=32:=by simpa using x
  have N:=p.lenO;refine⟨d.tick,d.level,d.light,d.heat,d.money,d.secs,d.lenM,by show(r.offers++[_]).length<=min (c+1) 32;rw[jaj,List.length_singleton];omega,d.mirs,fun o y=>?_⟩;obtain h|h:=List.mem_append.1 y
  ·exact p.offs o h
  ·rw[List.mem_singleton.1 h];exact⟨G,H,⟨Int.le_refl 0,show(0:Int)<=E by omega⟩⟩
 | .deliver,_,hg,ha=>by obtain⟨a,t,v,rfl,rfl,i⟩:=hg.d12 rfl rfl;obtain⟨g,f,l,j⟩:=QS ha;have n:okT r t:=okt g i;have d:=Vt (Nat.le_succ c) (Ya p (by omega) n f);have s:ZG (nmO r.offers) a=true:=WN l;have y:=p.offs _ (jgj (J6 s).2.2);have L:=wi j;have T:=hg.val v (by simp);have C:=L.2.2.1;unfold WC at C;obtain⟨O,P,U⟩:=y;have q:=QdN d a (o:=delO (oAt r.offers a) v) ⟨O,P,⟨show 0<=(oAt r.offers a).2.2.2.2.2.1+v by omega,show(oAt r.offers a).2.2.2.2.2.1+v<=(oAt r.offers a).2.2.2.1 by omega⟩⟩;have s:=d.heat;have M:0<=r.heat+WP r t/\r.heat+WP r t<=1000000000000000:=s;exact⟨q.tick,q.level,q.light,⟨show 0<=r.heat+WP r t - 1000000*v by omega,show r.heat+WP r t - 1000000*v<=1000000000000000 by omega⟩,q.money,q.secs,q.lenM,q.lenO,q.mirs,q.offs⟩
 | .bill,_,hg,ha=>by obtain⟨a,t,rfl,rfl,i⟩:=hg.d11 rfl rfl;obtain⟨g,f,l,j⟩:=QS ha;have n:okT r t:=okt g i;have d:=Vt (Nat.le_succ c) (Ya p (by omega) n f);have s:ZG (nmO r.offers) a=true:=WN l;have y:=p.offs _ (jgj (J6 s).2.2);have q:=QdN d a (o:=zp (oAt r.offers a)) y;have S:=(Kg y).2.2.2;have u:=p.money;exact⟨q.tick,q.level,q.light,q.heat,⟨show -(2000000*((c+1:Nat):Int))<=r.money+Gr (oAt r.offers a) by omega,show r.money+Gr (oAt r.offers a)<=2000000*((c+1:Nat):Int) by omega⟩,q.secs,q.lenM,q.lenO,q.mirs,q.offs⟩
 | .undo,h,_,_=>absurd rfl h
theorem Qh8:Inv 0 Reg.zero:=⟨by decide,by decide,by decide,by decide,by decide,by decide,jLj _,jLj _,fun m a=>(List.not_mem_nil a).elim,fun o b=>(List.not_mem_nil b).elim⟩
def kdE (e:Ev):Option Ki:=zl e.2.1.data.toList
def appE (r:Reg)(e:Ev):Reg:=match kdE e with
 | some k=>app k r e.2.2.1 e.2.2.2.1
 | none=>r
def accE (r:Reg)(e:Ev):Int:=match kdE e with
 | some k=>acc k r e.2.2.1 e.2.2.2.1
 | none=>0
def QN (l:List Ev):Reg:=l.foldl appE Reg.zero
theorem Kx (l:List Ev)(e:Ev):QN (l++[e])=appE (QN l) e:=by unfold QN;rw[List.foldl_append];rfl
theorem Qcl {e:Ev}{k:Ki}(h:Good e k):kdE e=some k:=by unfold kdE;rw[h.kind,qZ]
theorem JX {e:Ev}{k:Ki}(h:Good e k)(r:Reg):appE r e=app k r e.2.2.1 e.2.2.2.1:=by unfold appE;rw[Qcl h]
theorem zh {e:Ev}{k:Ki}(h:Good e k)(r:Reg):accE r e=acc k r e.2.2.1 e.2.2.2.1:=by unfold accE;rw[Qcl h]
def OkL (l:List Ev):Prop:=∀(i:Nat) (e:Ev),l[i]?=some e->∃k,k≠.undo/\Good e k/\acc k (QN (l.take i)) e.2.2.1 e.2.2.2.1=0
theorem wD:OkL []:=fun i e h=>by simp at h
theorem Qdu {l:List Ev}(h:OkL l)(j:Nat):OkL (l.take j):=fun i e a=>by
 rw[List.getElem?_take] at a;split at a
 ·rename_i f;obtain⟨k,b,c,d⟩:=h i e a;refine⟨k,b,c,?_⟩;rw[List.take_take,Nat.min_eq_left (by omega)];exact d
 ·cases a
theorem Qdw {l:List Ev}(h:OkL l){e:Ev}{k:Ki}(j:k≠.undo)(f:Good e k)(d:acc k (QN l) e.2.2.1 e.2.2.2.1=0):OkL (l++[e]):=fun i x a=>by
 by_cases g:i<l.length
 ·rw[List.getElem?_append_left g] at a;rw[List.take_append_of_le_length (by omega)];exact h i x a
 ·rw[List.getElem?_append_right (by omega)] at a;have b:i - l.length=0:=by
   obtain c|c:=Nat.eq_zero_or_pos (i - l.length)
   ·exact c
   ·rw[List.getElem?_eq_none (by simp;omega)] at a;cases a
  rw[b] at a;cases a;have:i=l.length:=by omega
  subst this;rw[List.take_left];exact⟨k,j,f,d⟩
theorem Qb9 {l:List Ev}(h:OkL l)(d:l.length<=990):∀j,j<=l.length->Inv j (QN (l.take j))
 | 0,_=>by rw[List.take_zero];exact Qh8
 | j+1,hj=>by have f:=Qb9 h d j (by omega);have e:=jej (l:=l) (i:=j) (by omega);obtain⟨k,b,a,c⟩:=h j _ e;rw[List.take_succ_eq_append_getElem (by omega),Kx,JX a];exact Qjf f (by omega) b a c
theorem qR {l:List Ev}(h:OkL l)(a:l.length<=990):Inv l.length (QN l):=by have:=Qb9 h a l.length (jLj _);rwa [List.take_length] at this
def isU (e:Ev):Bool:=decide (kdE e=some .undo)
def Uk (i:Nat)(a:List Ev)(e:Ev):Int:=if chk e=0 then(if e.1=(i:Int)+1 then(if isU e=true then QcU a else accE (QN a) e) else 11) else chk e
def YV (a:List Ev)(e:Ev):List Ev:=if isU e=true then a.dropLast else a++[e]
def rep:Nat->List Ev->List Ev->(Int×Int)⊕List Ev
 | _,cnt,[]=>.inr cnt
 | i,cnt,e::l=>if Uk i cnt e=0 then rep (i+1) (YV cnt e) l else .inl ((i:Int)+1,Uk i cnt e)
theorem Xr {e:Ev}{k:Ki}(h:Good e k):isU e=decide (k=.undo):=by
 unfold isU;rw[Qcl h];by_cases a:k=.undo
 ·simp[a]
 ·simp[a]
theorem jY {i:Nat}{a:List Ev}{e:Ev}(h:Uk i a e=0):∃k,Good e k/\e.1=(i:Int)+1/\(if isU e=true then QcU a else accE (QN a) e)=0:=by
 unfold Uk at h;by_cases hc:chk e=0
 ·rw[jTj hc] at h;obtain⟨k,c⟩:=Qec hc;by_cases b:e.1=(i:Int)+1
  ·rw[jTj b] at h;exact⟨k,c,b,h⟩
  ·rw[jFj b] at h;cases h
 ·rw[jFj hc] at h;exact absurd h hc
theorem Qen {a:List Ev}(h:QcU a=0):a≠[]:=by intro e;subst e;cases h
theorem Qdv {i:Nat}{a:List Ev}(f:OkL a)(hc:a.length<=i){e:Ev}(h:Uk i a e=0):OkL (YV a e)/\(YV a e).length<=i+1:=by
 obtain⟨k,d,_,c⟩:=jY h;unfold YV;by_cases b:isU e=true
 ·rw[jTj b];rw[List.dropLast_eq_take];exact⟨Qdu f _,by simp;omega⟩
 ·rw[jFj b] at c ⊢;rw[Xr d] at b;rw[zh d] at c;exact⟨Qdw f (by simpa using b) d c,by simp;omega⟩
theorem wC {x:D}(l:jVj):l.take ((List.replicate (Int.toNat ((l.length:Nat):Int)) (x:D)):jVj).length++(List.replicate (Int.toNat ((l.length:Nat):Int)) (x:D)).drop l.length=l:=by rw[List.length_replicate,jtj,List.take_length,List.drop_eq_nil_of_le (by rw[List.length_replicate];exact jLj _),List.append_nil]
theorem jl {n:Nat}(j:1700<=n){a:List Ev}(i:OkL a)(hc:a.length<=990){evs:jVj}(f:evs.length<=5000){e:Ev}(g:chk e=0) :
  Qq n e.1 e.2.1 (e.2.2.1.map Sd) (e.2.2.2.1.map I) e.2.2.2.2 evs (a.map Q5) (QN a).tick (QN a).level (QN a).filled (QN a).tripped (QN a).light (QN a).heat (QN a).money ((QN a).sectors.map Sd) ((QN a).mirrors.map Q1) ((QN a).offers.map Zs)=some (Uk evs.length a e):=by
 obtain⟨k,c⟩:=Qec g;unfold Uk;rw[jTj g];by_cases d:isU e=true
 ·have b:k=.undo:=by rw[Xr c] at d;exact of_decide_eq_true d
  subst b;rw[QcK (QN a) f a (by omega) c,jTj d]
 ·have b:k≠.undo:=fun h=>d (by rw[Xr c];exact jDj h);rw[Qfj j (qR i hc) (by omega) f b c,jFj d,zh c]
abbrev AddT:=jVj×jVj×Int×Int×Bool×Bool×Int×Int×Int×jVj×jVj×jVj
def VJ (evs a:jVj)(r:Reg):AddT:=(evs,a,Wd r)
theorem unEs (e:Ev):(Option.map Q5 (some e)).bind Wc=some (e.1,e.2.1,e.2.2.1.map Sd,e.2.2.2.1.map I,e.2.2.2.2):=rfl
theorem Qi9 {n:Nat}(Q:1700<=n){a0:Int}{E:jSj}{F G:jVj}{H:jSj}{J:jVj}{a:List Ev}{K L:Int}{M d:Bool}{f g h:Int}{j o p:jVj}(A:OkL a)(hc:a.length<=990)(C:a≠[]) :
  QU (Zn n a0 E F G H J (a.map Q5) K L M d f g h j o p) n (.inl ())=some (if a.dropLast=[] then .inl () else .inr (Wd (QN a.dropLast))):=by
 have b:((a.map Q5).take (Int.toNat (((a.map Q5).length:Int) - 1)))=a.dropLast.map Q5:=by
  rw[jlj,List.dropLast_eq_take,List.map_take];congr 1
  have:=List.length_pos_iff.2 C;omega
 have z:OkL a.dropLast:=by rw[List.dropLast_eq_take];exact Qdu A _
 have q:a.dropLast.length<=990:=by simp;omega
 generalize a.dropLast=l at b z q ⊢;have step:∀(i:Nat) (e:Ev),l[i]?=some e->Qy n e.1 e.2.1 (e.2.2.1.map Sd) (e.2.2.2.1.map I) e.2.2.2.2 (QN (l.take i)).tick (QN (l.take i)).level (QN (l.take i)).filled (QN (l.take i)).tripped (QN (l.take i)).light (QN (l.take i)).heat (QN (l.take i)).money ((QN (l.take i)).sectors.map Sd) ((QN (l.take i)).mirrors.map Q1) ((QN (l.take i)).offers.map Zs)=some (Wd (QN (l.take (i+1)))):=by
  intro i e c;have v:=(jGj c).1;obtain⟨k,O,N,P⟩:=z i e c;have r:=Qb9 z q i (by omega);rw[Qiy Q r (by omega) O N P];have:l.take (i+1)=l.take i++[e]:=by rw[List.take_succ_eq_append_getElem v];rw[jej v] at c;rw[Option.some.inj c]
  rw[this,Kx,JX N]
 have t:∀(m i k:Nat),0<i->i+m=l.length->m<k->QU (Zn n a0 E F G H J (a.map Q5) K L M d f g h j o p) k (.inr ((i:Int),Wd (QN (l.take i))))=some (.inr (Wd (QN l))):=by
  intro m;induction m with
  | zero =>
   intro i k u v A;have:i=l.length:=by omega
   subst this;rw[List.take_length];rw[W7 (by omega)];unfold Zn;dsimp only;rw[b,jFj (by simp)]
  | succ m ih =>
   intro i k u v A;have c:=jej (l:=l) (i:=i) (by omega);rw[Y5 (s':=.inr (((i+1:Nat):Int),Wd (QN (l.take (i+1))))) (by omega) ?_]
   ·exact ih (i+1) (k - 1) (by omega) (by omega) (by omega)
   ·unfold Zn;dsimp only;rw[b,jTj (ZF c),jTj ⟨Int.natCast_nonneg i,ZF c⟩,jtj,U4,List.getElem?_map,c,unEs,jBj];refine Eq.trans (congrArg (fun x=>Option.bind x _) (step i _ c)) ?_;rw[jBj,jTj (by unfold Qg;omega)];rfl
 by_cases y:l=[]
 ·rw[jTj y];refine W7 (by omega) ?_;unfold Zn;dsimp only;rw[b,y,jFj (by decide)]
 ·rw[jFj y];have s:=List.length_pos_iff.2 y;have c:=jej (l:=l) (i:=0) s;rw[Y5 (s':=.inr (((1:Nat):Int),Wd (QN (l.take 1)))) (by omega) ?_]
  ·exact t (l.length - 1) 1 (n - 1) (by omega) (by omega) (by omega)
  ·unfold Zn;dsimp only;rw[b,jTj (by simp;omega),jTj (by simp;omega),U4,List.getElem?_map,c,unEs,jBj];have u:=step 0 _ c;rw[List.take_zero] at u;refine Eq.trans (congrArg (fun x=>Option.bind x _) u) ?_;rfl
theorem addE {n:Nat}(m:1700<=n){a:List Ev}(l:OkL a)(hc:a.length<=990){evs:jVj}(r:evs.length<=4000){e:Ev}(q:Shw n e)(h:Uk evs.length a e=0) :
  WF n e.1 e.2.1 (e.2.2.1.map Sd) (e.2.2.2.1.map I) e.2.2.2.2 evs (a.map Q5) (QN a).tick (QN a).level (QN a).filled (QN a).tripped (QN a).light (QN a).heat (QN a).money ((QN a).sectors.map Sd) ((QN a).mirrors.map Q1) ((QN a).offers.map Zs)=some (VJ (evs++[Q5 e]) ((YV a e).map Q5) (QN (YV a e))):=by
 obtain⟨k,d,o,i⟩:=jY h;obtain⟨s,t,u⟩:=q;unfold WF;rw[jTj (by rw[jlj];omega),jTj (by rw[jlj];omega),jTj (UO (by decide) (by omega)),wC,wC];unfold YV;by_cases f:isU e=true
 ·have b:k=.undo:=by rw[Xr d] at f;exact of_decide_eq_true f
  subst b;rw[jTj f] at i;have g:=Qen i;have p:=List.length_pos_iff.2 g;have c:((a.map Q5).take (Int.toNat (((a.map Q5).length:Int) - 1)))=a.dropLast.map Q5:=by
   rw[jlj,List.dropLast_eq_take,List.map_take];congr 1
   omega
  rw[jTj (keq d.kind rfl),jTj (by rw[jlj];unfold Qg;omega),jTj (by rw[jlj];omega),Qi9 m l hc g,jBj,jTj f];by_cases j:a.dropLast=[]
  ·rw[jTj j,c,j];rfl
  ·rw[jFj j,c];rfl
 ·have b:k≠.undo:=fun h=>f (by rw[Xr d];exact jDj h);rw[jFj f,zh d] at i;rw[jFj (by rw[kq,d.kind];intro h;exact b (by have:=qZ k;rw[h] at this;exact(Option.some.inj this).symm)),jTj (UO (by decide) (by rw[jlj];omega)),Qg8 m (qR l hc) (by omega) b d i,jBj,jFj f,Kx,JX d,List.map_append];rfl
abbrev StT:=Int×Int×Bool×Bool×Int×Int×Int×jVj×jVj×jVj×jVj×jVj
def stS (evs a:jVj)(r:Reg):StT:=(r.tick,r.level,r.filled,r.tripped,r.light,r.heat,r.money,evs,a,r.sectors.map Sd,r.mirrors.map Q1,r.offers.map Zs)
theorem el_E {l:List Ev}{i:Nat}{e:Ev}(h:l[i]?=some e):el Wc (l.map Q5) (i:Int)=some (e.1,e.2.1,e.2.2.1.map Sd,e.2.2.2.1.map I,e.2.2.2.2):=by unfold el;rw[jTj (Int.natCast_nonneg i),jtj,U4,List.getElem?_map,h];rfl
theorem wS {i:Nat}{a:List Ev}{e:Ev}(h:¬chk e=0):Uk i a e=chk e:=by unfold Uk;rw[jFj h]
theorem Qdf {n:Nat}(p:1700<=n)(l:List Ev)(y:l.length<=990)(u:∀e,e∈l->Shw n e):∀(m pre a:List Ev) (k:Nat),l=pre++m->pre≠[]->OkL a->a.length<=pre.length->m.length<k ->
  (match rep pre.length a m with
   | .inr c=>QU (QP n (l.map Q5)) k (.inr ((pre.length:Int),stS (pre.map Q5) (a.map Q5) (QN a)))=some (.inr (.inr (.inr (stS (l.map Q5) (c.map Q5) (QN c)))))/\OkL c/\c.length<=l.length
   | .inl (i,err)=>err≠0/\∃w,QU (QP n (l.map Q5)) k (.inr ((pre.length:Int),stS (pre.map Q5) (a.map Q5) (QN a)))=some (.inl (i,err,w)))
 | [],pre,a,k,hl0,hne,hok,hc,hk=>by rw[List.append_nil] at hl0;subst hl0;unfold rep;refine⟨?_,hok,hc⟩;refine W7 (by omega) ?_;unfold QP;dsimp only;rw[jFj (by rw[jlj];omega)]
 | e::m,pre,a,k,hl0,hne,hok,hc,hk=>by
  have t:l.length=pre.length+(m.length+1):=by rw[hl0];simp
  have o:l[pre.length]?=some e:=by rw[hl0,List.getElem?_append_right (jLj _),Nat.sub_self];rfl
  have g:=u e (jgj o);have b:(pre.map Q5).length=pre.length:=jlj _;unfold rep;by_cases h:chk e=0
  ·have d:=jl p hok (by omega) (evs:=pre.map Q5) (by rw[b];omega) h;rw[b] at d;by_cases f:Uk pre.length a e=0
   ·rw[jTj f];obtain⟨r,s⟩:=Qdv hok hc f;have q:=addE p hok (by omega) (evs:=pre.map Q5) (by rw[b];omega) g (by rw[b];exact f);have j:QP n (l.map Q5) (.inr ((pre.length:Int),stS (pre.map Q5) (a.map Q5) (QN a)))=some (.inl (.inr (((pre++[e]).length:Int),stS ((pre++[e]).map Q5) ((YV a e).map Q5) (QN (YV a e))))):=by unfold QP;dsimp only;rw[jTj (ZF o),el_E o,jBj,VS p e g,jBj,jTj h];refine Eq.trans (congrArg (fun x=>Option.bind x _) d) ?_;rw[jBj,jTj f];refine Eq.trans (congrArg (fun x=>Option.bind x _) q) ?_;rw[jBj,jTj (by unfold Qg;omega),List.map_append,jaj];rfl
    rw[Y5 (by omega) j];have:=Qdf p l y u m (pre++[e]) (YV a e) (k - 1) (by rw[hl0];simp) (by simp) r (by rw[jaj];exact s) (by simp at hk;omega);have v:(pre++[e]).length=pre.length+1:=by simp
    rw[v] at this ⊢;exact this
   ·rw[jFj f];refine⟨f,stS (pre.map Q5) (a.map Q5) (QN a),?_⟩;refine W7 (by omega) ?_;unfold QP;dsimp only;rw[jTj (ZF o),el_E o,jBj,VS p e g,jBj,jTj h];refine Eq.trans (congrArg (fun x=>Option.bind x _) d) ?_;rw[jBj,jFj f,jTj (by unfold Qg;omega)];try rfl
  ·have f:¬Uk pre.length a e=0:=by rw[wS h];exact h
   rw[jFj f,wS h];refine⟨h,stS (pre.map Q5) (a.map Q5) (QN a),?_⟩;refine W7 (by omega) ?_;unfold QP;dsimp only;rw[jTj (ZF o),el_E o,jBj,VS p e g,jBj,jFj h,jTj (by unfold Qg;omega)];try rfl
theorem EZ {n:Nat}(s:1700<=n)(l:List Ev)(C:l.length<=990)(E:∀e,e∈l->Shw n e) :
  (match rep 0 [] l with
   | .inr c=>ZK n (l.map Q5)=some (0,0,l.map Q5,c.map Q5,Wd (QN c))/\OkL c/\c.length<=l.length
   | .inl (i,err)=>err≠0/\∃w,ZK n (l.map Q5)=some (i,err,w)):=by
 have g:¬(((l.map Q5).length:Int)>1000):=by rw[jlj];omega
 cases l with
 | nil =>
  unfold rep ZK;refine⟨?_,wD,jLj _⟩;rw[jFj g];have:QU (QP n (([]:List Ev).map Q5)) n (.inl ())=some (.inr (.inr (.inl ()))):=by refine W7 (by omega) ?_;unfold QP;dsimp only;rw[jFj (by decide)]
  rw[this];rfl
 | cons e m =>
  have A:(e::m)[0]?=some e:=rfl;have h:=E e jMj;have d:(0:Int)<(((e::m).map Q5).length:Int):=by simp only[jCj,List.length_cons];omega
  unfold rep;by_cases o:chk e=0
  ·have j:=jl s wD (by simp) (evs:=[]) (by simp) o;by_cases f:Uk 0 [] e=0
   ·rw[jTj f];obtain⟨y,z⟩:=Qdv wD (jLj _) f;have t:=addE s wD (by simp) (evs:=[]) (by simp) h f;have r:QP n ((e::m).map Q5) (.inl ())=some (.inl (.inr ((([e]:List Ev).length:Int),stS ([e].map Q5) ((YV [] e).map Q5) (QN (YV [] e))))):=by unfold QP;dsimp only;rw[jTj d,show el Wc ((e::m).map Q5) 0=_ from el_E A,jBj,VS s e h,jBj,jTj o];refine Eq.trans (congrArg (fun x=>Option.bind x _) j) ?_;rw[jBj,jTj (show Uk ([]:jVj).length [] e=0 from f)];refine Eq.trans (congrArg (fun x=>Option.bind x _) t) ?_;rfl
    have a:=Qdf s (e::m) C E m [e] (YV [] e) (n - 1) rfl (by simp) y (by simpa using z) (by simp at C;omega);have b:=Y5 (k:=n) (by omega) r;have q:([e]:List Ev).length=0+1:=rfl;rw[q] at a b;unfold ZK;rw[jFj g,b];cases hr:rep (0+1) (YV [] e) m with
    | inr c =>
     rw[hr] at a;obtain⟨u,v,F⟩:=a;refine⟨?_,v,F⟩;rw[u];rfl
    | inl p =>
     obtain⟨i,err⟩:=p;rw[hr] at a;obtain⟨u,w,v⟩:=a;refine⟨u,?_⟩;rw[v];exact⟨_,rfl⟩
   ·rw[jFj f];refine⟨f,?_⟩;unfold ZK;have:QU (QP n ((e::m).map Q5)) n (.inl ())=some (.inl (1,Uk 0 [] e,0,0,false,false,0,0,0,[],[],[],[],[])):=by refine W7 (by omega) ?_;unfold QP;dsimp only;rw[jTj d,show el Wc ((e::m).map Q5) 0=_ from el_E A,jBj,VS s e h,jBj,jTj o];refine Eq.trans (congrArg (fun x=>Option.bind x _) j) ?_;rw[jBj,jFj (show ¬Uk ([]:jVj).length [] e=0 from f)];rfl
    rw[jFj g,this];exact⟨_,rfl⟩
  ·have f:¬Uk 0 [] e=0:=by rw[wS o];exact o
   rw[jFj f,wS o];refine⟨o,?_⟩;unfold ZK;have:QU (QP n ((e::m).map Q5)) n (.inl ())=some (.inr (.inl (chk e))):=by refine W7 (by omega) ?_;unfold QP;dsimp only;rw[jTj d,show el Wc ((e::m).map Q5) 0=_ from el_E A,jBj,VS s e h,jBj,jFj o]
   rw[jFj g,this];exact⟨_,rfl⟩
def z0:D:=jZj
abbrev RepT:=Int×Int×Bool×Bool×Int×Int×Int×jVj×jVj×jVj×Int×Int
def outF (r:Reg)(a b:Int):RepT:=(r.tick,r.level,r.filled,r.tripped,r.light,r.heat,r.money,r.sectors.map Sd,r.mirrors.map Q1,r.offers.map Zs,a,b)
def repD:(Int×Int)⊕List Ev->RepT
 | .inr c=>outF (QN c) 0 0
 | .inl p=>outF Reg.zero p.1 p.2
instance (e:Ev):Decidable (Short e):=by unfold Short;infer_instance
theorem QhI {r:Reg}{c:Nat}(b:Inv c r){a:jSj}(h:ZG (nmO r.offers) a=true):okO (oAt r.offers a):=b.offs _ (jgj (J6 h).2.2)
theorem QdL {n:Nat}(q:1700<=n)(l:List Ev)(m:l.length<=990)(r:∀e,e∈l->Shw n e)(a:jSj):Wf n (l.map Q5) a=some (match rep 0 [] l with
  | .inr c=>if QD (!ZG (nmO (QN c).offers) a) 10=0 then(WC (oAt (QN c).offers a),0) else(0,QD (!ZG (nmO (QN c).offers) a) 10)
  | .inl p=>(0,p.2)):=by
 have h:=EZ q l m r;unfold Wf;cases hr:rep 0 [] l with
 | inl p =>
  obtain⟨i,err⟩:=p;rw[hr] at h;obtain⟨f,w,g⟩:=h;rw[g,jBj];dsimp only;rw[jFj f]
 | inr c =>
  rw[hr] at h;obtain⟨f,g,u⟩:=h;have b:=qR g (by omega);have o:=b.lenO;rw[f,jBj];dsimp only[Wd];rw[jTj rfl,X8 _ (by omega) (by omega),jBj,Wp _ _ (by rw[Wy];omega) (by rw[Wy];omega),jBj,QR,jBj];by_cases d:QD (!ZG (nmO (QN c).offers) a) 10=0
  ·have j:=WN d;obtain⟨k,s,t⟩:=J6 j;rw[jTj d,jTj d,ZQ _ _ (by rw[Wy];omega) (by rw[Wy];omega),jBj];refine Eq.trans (jTj (hltO k s)) ?_;rw[k,Zc unO t,jBj,jh n (QhI b j),jBj]
  ·rw[jFj d,jFj d]
theorem QeN {n:Nat}(q:1700<=n)(l:List Ev)(m:l.length<=990)(r:∀e,e∈l->Shw n e)(a:jSj):Vp n (l.map Q5) a=some (match rep 0 [] l with
  | .inr c=>if QD (!ZG (nmO (QN c).offers) a) 10=0 then(Gr (oAt (QN c).offers a),0) else(0,QD (!ZG (nmO (QN c).offers) a) 10)
  | .inl p=>(0,p.2)):=by
 have h:=EZ q l m r;unfold Vp;cases hr:rep 0 [] l with
 | inl p =>
  obtain⟨i,err⟩:=p;rw[hr] at h;obtain⟨f,w,g⟩:=h;rw[g,jBj];dsimp only;rw[jFj f]
 | inr c =>
  rw[hr] at h;obtain⟨f,g,u⟩:=h;have b:=qR g (by omega);have o:=b.lenO;rw[f,jBj];dsimp only[Wd];rw[jTj rfl,X8 _ (by omega) (by omega),jBj,Wp _ _ (by rw[Wy];omega) (by rw[Wy];omega),jBj,QR,jBj];by_cases d:QD (!ZG (nmO (QN c).offers) a) 10=0
  ·have j:=WN d;obtain⟨k,s,t⟩:=J6 j;rw[jTj d,jTj d,ZQ _ _ (by rw[Wy];omega) (by rw[Wy];omega),jBj];refine Eq.trans (jTj (hltO k s)) ?_;rw[k,Zc unO t,jBj,QcA n (QhI b j),jBj]
  ·rw[jFj d,jFj d]
theorem QkA {l:List Ev}{i:Nat}{e:Ev}(h:l[i]?=some e):(nth (l.map Q5) (Int.toNat (i:Int))).bind Wc=some (e.1,e.2.1,e.2.2.1.map Sd,e.2.2.2.1.map I,e.2.2.2.2):=by rw[jtj,U4,List.getElem?_map,h];rfl
theorem QkD (k:Ki):kn k<=60:=by cases k<;>decide
theorem QkC (k:Ki):kv k<=60:=by cases k<;>decide
theorem Qi2 {c:List Ev}(a:OkL c):∀e,e∈c->e.2.2.1.length<=60/\e.2.2.2.1.length<=60:=fun e d=>by obtain⟨i,f⟩:=List.getElem?_of_mem d;obtain⟨k,_,b,_⟩:=a i e f;rw[b.names,b.vals];exact⟨QkD k,QkC k⟩
theorem QlW {n:Nat}(f:1700<=n)(l:List Ev)(d:l.length<=990)(g:∀e,e∈l->Shw n e):QkT n (l.map Q5)=some (repD (rep 0 [] l)):=by
 have h:=EZ f l d g;unfold QkT;cases hr:rep 0 [] l with
 | inl p =>
  obtain⟨i,err⟩:=p;rw[hr] at h;obtain⟨a,w,b⟩:=h;rw[b,jBj];dsimp only;rw[jFj a];rfl
 | inr c =>
  rw[hr] at h;obtain⟨a,b,j⟩:=h;rw[a,jBj,jTj rfl];rfl
theorem Qfx (e:Ev):∀(l a:List Ev) (i:Nat),rep i a (l++[e])=(match rep i a l with
  | .inr c=>if Uk (i+l.length) c e=0 then .inr (YV c e) else .inl (((i+l.length:Nat):Int)+1,Uk (i+l.length) c e)
  | .inl p=>.inl p)
 | [],a,i=>by
  show rep i a [e]=_;show(if Uk i a e=0 then rep (i+1) (YV a e) [] else .inl ((i:Int)+1,Uk i a e))=(if Uk i a e=0 then .inr (YV a e) else .inl (((i:Nat):Int)+1,Uk i a e))
  by_cases h:Uk i a e=0
  ·rw[jTj h,jTj h];rfl
  ·rw[jFj h,jFj h]
 | x::l,a,i=>by
  rw[List.cons_append];unfold rep;by_cases h:Uk i a x=0
  ·rw[jTj h,jTj h,Qfx e l,show i+1+l.length=i+(x::l).length by rw[List.length_cons];omega]
  ·rw[jFj h,jFj h]
theorem Qbc (s:jSj):∀(m p:Nat),E4 s m p=true->∀i,p<=i->i<p+m->yG i (Kf s i)
 | 0,p,_,i,h1,h2=>absurd h2 (by omega)
 | m+1,p,h,i,h1,h2=>by
  unfold E4 at h;simp only[jAj,decide_eq_true_eq] at h;by_cases a:i=p
  ·subst a;exact h.1
  ·exact Qbc s m (p+1) h.2 i (by omega) (by omega)
theorem QeJ {s:jSj}(h:Yw s=true):∀c,c∈dat s->48<=c.toNat:=fun c hc=>by
 unfold Yw at h;simp only[jAj,decide_eq_true_eq] at h;obtain⟨i,f,e⟩:=List.mem_iff_getElem.1 hc;have d:(dat s)[i]?=some c:=by rw[jej f,e]
 have a:=kx d;rw[show mkS (dat s)=s from UA s] at a;have b:=Qbc s s.size 0 h.2 i (Nat.zero_le _) (by rw[<-dlen s];show i<0+(dat s).length;omega);rw[a] at b;unfold yG at b;omega
theorem Qh0 (k:Ki):∀c,c∈kw k->48<=c.toNat:=by cases k<;>decide
theorem QcQ {e:Ev}{k:Ki}(a:Good e k):∀w,w∈VX e->∀c,c∈w->48<=c.toNat:=fun w b c hc=>by
 unfold VX at b;obtain h|h:=List.mem_cons.1 b
 ·rw[h] at hc;exact(QdM (by have:=a.num;omega) c hc).1
 obtain h|h:=List.mem_cons.1 h
 ·rw[h,show dat e.2.1=kw k from a.kind] at hc;exact Qh0 k c hc
 obtain h|h:=List.mem_append.1 h
 ·obtain⟨s,d,rfl⟩:=List.mem_map.1 h;exact QeJ (a.name s d) c hc
 ·obtain⟨v,f,rfl⟩:=List.mem_map.1 h;exact(QdM (a.val v f).1 c hc).1
theorem QlU {e:Ev}{k:Ki}(a:Good e k):spl 32 (Qf5 e)=VX e:=by unfold Qf5;rw[<-Qbp];exact Qc6 32 _ (by unfold VX;simp) fun w b hc=>absurd (QcQ a w b 32 hc) (by decide)
theorem QlL:∀(L:List Wrd),(∀w,w∈L->∀c,c∈w->48<=c.toNat)->∀c,c∈Lib.join L [32]->c=32\/48<=c.toNat
 | [],_,c,hc=>by cases hc
 | w::L,h,c,hc=>by
  rw[Lib.join_cons] at hc;obtain hc|hc:=List.mem_append.1 hc
  ·exact .inr (h w jMj c hc)
  ·have b:∀(L:List Wrd),(∀w,w∈L->∀c,c∈w->48<=c.toNat)->c∈Lib.joinTail [32] L->c=32\/48<=c.toNat:=by
    intro L;induction L with
    | nil=>intro _ hc;simp[Lib.joinTail] at hc
    | cons w L ih =>
     intro h hc;rw[show Lib.joinTail [32] (w::L)=32::w++Lib.joinTail [32] L by simp[Lib.joinTail]] at hc;obtain hc|hc:=List.mem_append.1 hc
     ·obtain hc|hc:=List.mem_cons.1 hc
      ·exact .inl hc
      ·exact .inr (h w jMj c hc)
     ·exact ih (fun w a=>h w (jmj _ a)) hc
   exact b L (fun w a=>h w (jmj _ a)) hc
def QkV (e:Ev):Wrd:=Qf5 e++35::dig7 (Qf5 e)
theorem Qlw (e:Ev):recL e=QkV e++[10]:=rfl
theorem Ql8 (e:Ev):(QkV e).length=(Qf5 e).length+8:=by unfold QkV;simp[Qli]
theorem QlX {e:Ev}{k:Ki}(a:Good e k):(10:UInt8)∉QkV e:=fun h=>by
 unfold QkV at h;obtain h|h:=List.mem_append.1 h
 ·obtain h|h:=QlL _ (QcQ a) 10 h
  ·cases h
  ·exact absurd h (by decide)
 ·obtain h|h:=List.mem_cons.1 h
  ·cases h
  ·exact absurd (Qlq 7 _ 10 h).1 (by decide)
theorem Qi8 {l:List jSj}(h:∀s,s∈l->Yw s=true):(l.map dat).mapM nmG=some (l.map dat):=by
 induction l with
 | nil=>rfl
 | cons s l ih =>
  have a:=h s jMj;have b:¬dat s=[]:=fun e=>by unfold Yw at a;simp only[jAj,decide_eq_true_eq] at a;exact a.1.1 (by rw[<-dlen s];show(dat s).length=0;rw[e];rfl)
  rw[jCj,List.mapM_cons,ih fun s a=>h s (jmj _ a),show nmG (dat s)=some (dat s) by unfold nmG;rw[jFj b]];rfl
theorem QhV {l:List Int}(h:∀v,v∈l->0<=v/\v<=999999999):(l.map Lib.itoa).mapM num=some l:=by
 induction l with
 | nil=>rfl
 | cons v l ih =>
  have b:=h v jMj;rw[jCj,List.mapM_cons,ih fun s a=>h s (jmj _ a),uv b.1 (by omega)];rfl
theorem ur {e:Ev}{k:Ki}(a:Good e k):Jl (VX e).tail=some (k,e.2.2.1.map dat,e.2.2.2.1):=by unfold VX;show Jl (dat e.2.1::(e.2.2.1.map dat++e.2.2.2.1.map Lib.itoa))=_;unfold Jl;dsimp only;rw[show zl (dat e.2.1)=some k by rw[show dat e.2.1=kw k from a.kind];exact qZ k];dsimp only;have b:=a.names;have c:=a.vals;rw[jTj (by simp;omega),List.take_left' (by simp;exact b),List.drop_left' (by simp;exact b),Qi8 a.name,jBj,QhV a.val,jBj]
theorem Qe8 {e:Ev}{k:Ki}(a:Good e k):chk e=0:=by unfold chk;rw[jTj (WS.2 a.num),a.kind,qZ];dsimp only;rw[jTj ⟨a.names,a.vals⟩,jTj (List.all_eq_true.2 a.name),jTj (show e.2.2.2.1.all valB=true from List.all_eq_true.2 fun v b=>jDj (WS.2 (a.val v b))),jTj a.text]
theorem QgT {e:Ev}{k:Ki}(c:Good e k):evOf e.1 (k,e.2.2.1.map dat,e.2.2.2.1)=e:=by
 obtain⟨m,d,ns,vs,a⟩:=e;have f:d=mkS (kw k):=by rw[<-UA d];exact congrArg mkS c.kind
 have g:a=⟨#[]⟩:=by have h:a.size=0:=c.text;have b:a.data.toList=[]:=List.eq_nil_of_length_eq_zero (by rw[dlen];exact h);rw[<-UA a,b];rfl
 unfold evOf;dsimp only;have b:(ns.map dat).map mkS=ns:=by
  rw[List.map_map];conv=>rhs;rw[<-List.map_id ns]
  exact List.map_congr_left fun s _=>UA s
 rw[f,g,b]
theorem Ql0 {e:Ev}{k:Ki}(a:Good e k):recX (QkV e)=.inl e:=by
 have g:=Ql8 e;have b:(QkV e).length - 8=(Qf5 e).length:=by omega
 have d:(QkV e).take ((QkV e).length - 8)=Qf5 e:=by rw[b];unfold QkV;simp
 have f:(QkV e)[(QkV e).length - 8]?=some 35:=by rw[b];unfold QkV;simp
 have c:(QkV e).drop ((QkV e).length - 8+1)=dig7 (Qf5 e):=by rw[b];unfold QkV;simp
 have h:=a.num;unfold recX;rw[jFj (by omega),f,c,d,jTj ⟨rfl,Qlq 7 _⟩,jTj rfl,QlU a];have hp:=ur a;unfold VX at hp ⊢;dsimp only;rw[uv (by omega) (by omega)];rw[show Jl (dat e.2.1::(e.2.2.1.map dat++e.2.2.2.1.map Lib.itoa))=_ from hp];dsimp only;rw[QgT a,jTj (Qe8 a)]
def AllG (l:List Ev):Prop:=∀e,e∈l->∃k,Good e k
def Numd:Nat->List Ev->Prop
 | _,[]=>True
 | k,e::l=>e.1=(k:Int)+1/\Numd (k+1) l
theorem Qlv:∀(l:List Ev) (t:Wrd),AllG l->spl 10 (l.flatMap recL++t)=l.map QkV++spl 10 t
 | [],_,_=>rfl
 | e::l,t,h=>by obtain⟨k,a⟩:=h e jMj;rw[List.flatMap_cons,Qlw,List.append_assoc,List.append_assoc];show spl 10 (QkV e++10::(l.flatMap recL++t))=_;rw[Qfr 10 _ _ (QlX a),Qlv l t fun x b=>h x (jmj _ b)];rfl
theorem QlG:∀(l:List Ev) (R:List Wrd) (k:Nat),AllG l->Numd k l->R≠[]->recP (l.map QkV++R) k=(l++(recP R (k+l.length)).1,(l.flatMap recL).length+(recP R (k+l.length)).2.1,(recP R (k+l.length)).2.2)
 | [],R,k,_,_,_=>by simp
 | e::l,R,k,hg,hn,hR=>by
  obtain⟨j,c⟩:=hg e jMj;have f:=QlG l R (k+1) (fun x d=>hg x (jmj _ d)) hn.2 hR;obtain⟨q,L,a⟩:∃q L,l.map QkV++R=q::L:=by
   cases h:l.map QkV++R with
   | nil=>exact absurd (List.append_eq_nil_iff.1 h).2 hR
   | cons q L=>exact⟨q,L,rfl⟩
  have b:recP (QkV e::q::L) k=(e::(recP (q::L) (k+1)).1,(QkV e).length+1+(recP (q::L) (k+1)).2.1,(recP (q::L) (k+1)).2.2):=by
   conv=>lhs;unfold recP
   rw[Ql0 c];dsimp only;rw[jTj hn.1]
  rw[jCj,List.cons_append,a,b,<-a,f,show k+1+l.length=k+(e::l).length by simp;omega];simp only[List.cons_append,List.flatMap_cons,jaj,Qlw,List.length_singleton,jPj,true_and,and_true];omega
theorem Ql1 {l:List Ev}(a:AllG l)(b:Numd 0 l){t:Wrd}(c:(10:UInt8)∉t):recP (spl 10 (l.flatMap recL++t)) 0=(l,(l.flatMap recL).length,if t=[] then 0 else 28):=by rw[Qlv l t a,Qc5 10 t c,QlG l [t] 0 a b (by simp)];simp[recP]
def cmdL (e:Ev):Wrd:=Lib.join (VX e).tail [32]
theorem Qiw (e:Ev):Qf5 e=Lib.itoa e.1++32::cmdL e:=by unfold Qf5 cmdL VX;rw[Lib.join_cons,List.tail_cons,Lib.join_cons];simp[Lib.joinTail]
theorem Qf3 {e:Ev}{k:Ki}(a:Good e k):spl 32 (cmdL e)=(VX e).tail:=by unfold cmdL;rw[<-Qbp];exact Qc6 32 _ (by unfold VX;simp) fun w b hc=>absurd (QcQ a w (List.mem_of_mem_tail b) 32 hc) (by decide)
def UP:List Wrd:=[[115,116,97,116,101],[114,97,116,101],[97,105,109,101,100],[98,111,111,107,115],[111,102,102,101,114,115],[100,105,114,116],[99,111,117,110,116]]
theorem QhY (k:Ki):∀q,q∈UP->kw k≠q:=by cases k<;>decide
theorem QiM (k:Ki):¬(W5 (.string (mkS (kw k))) tab2).isSome=true:=by cases k<;>(show ¬(none:Option D).isSome=true;decide)
theorem wc {e:Ev}{k:Ki}(a:Good e k):Short e:=by
 have h:=jN k;have c:=a.names;have d:=a.vals;have f:=QhZ k;have g:=a.text;refine⟨?_,by omega,by omega,by omega,fun s b=>?_⟩
 ·rw[<-dlen];show e.2.1.data.toList.length<=40;rw[a.kind];omega
 ·have:=a.name s b;unfold Yw at this;simp only[jAj,decide_eq_true_eq] at this;omega
theorem Qf4 {e:Ev}{k:Ki}(b:Good e k):0<(cmdL e).length/\(cmdL e).length<=300:=by
 have a:=Qiv b;rw[Qiw] at a;simp only[jaj,List.length_cons] at a;refine⟨?_,by omega⟩;unfold cmdL VX;rw[List.tail_cons,Lib.join_cons,jaj];have:0<(dat e.2.1).length:=by rw[show dat e.2.1=kw k from b.kind];cases k<;>decide
 omega
theorem Qcu {n:Nat}(c:3000<=n){l:Wrd}(a:0<l.length)(b:l.length<=2000):QD (decide (((mkS l).size:Int)>4096)) 26=0/\QD ((mkS l).toList==(⟨#[]⟩:jSj).toList) 25=0:=by
 refine⟨?_,?_⟩
 ·rw[Qp,jEj (by omega)];rfl
 ·rw[zf,jEj (fun e=>by rw[e] at a;simp at a)];rfl
theorem Qiq {n:Nat}(q:3000<=n){evs:jVj}(G:evs.length<=900){b:List Ev}(s:OkL b)(hc:b.length<=990){e:Ev}{k:Ki}(c:Good e k)(h:Uk evs.length b e=0) :
  Qj n (mkS (cmdL e)) evs (b.map Q5) (QN b).tick (QN b).level (QN b).filled (QN b).tripped (QN b).light (QN b).heat (QN b).money ((QN b).sectors.map Sd) ((QN b).mirrors.map Q1) ((QN b).offers.map Zs) =
   some (mkS ([100,111,110,101,32]++Lib.itoa e.1),0,VJ (evs++[Q5 e]) ((YV b e).map Q5) (QN (YV b e))):=by
 obtain⟨_,_,l,_⟩:=jY h;obtain⟨C,l2⟩:=Qf4 c;obtain⟨E,F⟩:=Qcu q C (by omega);have m:=Qf3 c;have j:=Qb8 (p:=cmdL e) (by omega);rw[m] at j;have z:(VX e).tail=kw k::(e.2.2.1.map dat++e.2.2.2.1.map Lib.itoa):=by unfold VX;rw[List.tail_cons,show dat e.2.1=kw k from c.kind]
 have o:el Vg (((VX e).tail).map eS) 0=some (mkS (kw k)):=by rw[z];exact Qby (i:=0) rfl
 obtain⟨t1,f,g,t2⟩:=yM (a:=mkS (kw k)) (k:=k) (VN _);have d:=QhY k;have A:=(Qaa (VX e).tail).1 k _ _ (ur c);have hev:Yj n ((evs.length:Int)+1) ((VX e).tail.map eS)=some (e.1,e.2.1,e.2.2.1.map Sd,e.2.2.2.1.map I,e.2.2.2.2,true):=by have r:=QgT c;have u:mkS (kw k)=e.2.1:=congrArg (fun x:Ev=>x.2.1) r;have v:(⟨#[]⟩:jSj)=e.2.2.2.2:=congrArg (fun x:Ev=>x.2.2.2.2) r;rw[uZ q _ j,A];dsimp only;rw[u,v,map_dat,l]
 unfold Qj;rw[QR,jBj,QR,jBj,E,F,W4 (by omega),jBj,jTj (by rfl),ue q (by omega),m,jBj,o,jBj,VN];rw[jFj (d _ (by simp[UP])),jFj (d _ (by simp[UP])),jFj (d _ (by simp[UP])),jFj (d _ (by simp[UP])),jFj (d _ (by simp[UP])),jFj (d _ (by simp[UP])),jFj (d _ (by simp[UP]))];rw[jTj (QiM k),jTj t1,t2,jBj,jTj (i64 (by omega) (by omega)),hev,jBj];dsimp only;rw[QR,jBj,QR,jBj,show QD (!true) 25=0 from rfl,show QD (decide ((evs.length:Int)>=1000)) 5=0 by rw[jEj (by omega)];rfl,W4 (by omega),jBj,jTj (by rfl),VS (by omega) e ((wc c).w (by omega)),Qe8 c,jBj,jTj rfl,jl (by omega) s hc (by omega) (Qe8 c),h,jBj,jTj rfl,addE (by omega) s hc (by omega) ((wc c).w (by omega)) h,jBj,uH n (i64 (by omega) (by omega)),jBj];have t:(⟨#[100,111,110,101,32]⟩:jSj)=mkS [100,111,110,101,32]:=rfl;have y:=qa (n:=e.1) (by omega) (by have:=c.num;omega);rw[t,jTj (by rw[Qp,Qp];simp;omega),Qat]
theorem Qme {n:Nat}(G:3000<=n)(l:List Ev)(K:l.length<=1000)(F:AllG l)(r:jVj)(s t:Int)(u v:Bool)(y z A:Int)(C b c:jVj):QkL n (l.map Q5) r s t u v y z A C b c=some (mkS (l.flatMap recL)):=by
 unfold QkL;have q:=Y4 (step:=QkK n (l.map Q5) r s t u v y z A C b c) (E:=jVj) (fun out=>out) l (fun e=>[eS (recL e)]) (fun _=>jLj _)
  (fun i out e a M=>by have J:=(jGj a).1;obtain⟨k,o⟩:=F e (jgj a);unfold QkK;dsimp only;rw[jTj (ZF a),jTj ⟨Int.natCast_nonneg i,ZF a⟩,QkA a,jBj,QlE G o,jBj,jTj (UO (by decide) (by omega)),jTj (by unfold Qg;omega)];rfl)
  (fun out _=>by unfold QkK;dsimp only;rw[jFj (by simp)]) (k:=n) (by omega)
 have f:∀m:List Ev,AllG m->(m.flatMap recL).length<=310*m.length:=by
  intro m;induction m with
  | nil=>intro _;simp
  | cons e m ih =>
   intro h;obtain⟨k,o⟩:=h e jMj;have:=Qmf o;have:=ih fun x a=>h x (jmj _ a);rw[List.flatMap_cons,jaj,List.length_cons];omega
 have d:∀L:List Wrd,Lib.join L []=L.flatten:=by
  intro L;induction L with
  | nil=>rfl
  | cons p L ih =>
   cases L with
   | nil=>simp[Lib.join,List.intercalate]
   | cons q L =>
    rw[Lib.join_cons,Lib.joinTail];simp
 have H:=f l F;have g:=Qje n (l.map recL) [] (by rw[jlj];omega) (by rw[d,<-List.flatMap_def];omega);rw[d,<-List.flatMap_def] at g;rw[q,jBj,wQ];have j : ZI n (l.map fun e=>eS (recL e)) ⟨#[]⟩=some (mkS (l.flatMap recL)):=by rw[List.map_map] at g;exact g
 rw[j];rfl
theorem yY (n:Nat)(a:Int):∀(k u:Nat) (t:Wrd),u<10 ^ k->u<1000000000000000000->t.length+k<=100 ->
  QU (Zw n a) (k+1) (mkS t,(u:Int))=some (mkS (zn u++t))
 | 0,u,t,hu,_,_=>by
  have:u=0:=by simpa using hu
  subst this;refine ZP ?_;unfold Zw;rfl
 | k+1,u,t,hu,hb,ht=>by
  by_cases e:u=0
  ·subst e;refine ZP ?_;unfold Zw;rfl
  ·have h:u % 10<10:=Nat.mod_lt _ (by decide);have i:=yY n a k (u / 10) (UInt8.ofNat (48+u % 10)::t) (by rw[Nat.pow_succ] at hu;omega) (by omega) (by simp;omega);have c:zn u++t=zn (u / 10)++(UInt8.ofNat (48+u % 10)::t):=by rw[kg e];simp
   rw[c,<-i];refine W8 ?_;have d:(mkS [UInt8.ofNat (48+u % 10)]).size+(mkS t).size<=9223372036854775807:=by rw[Qp,Qp];simp;omega
   have b:mkS [UInt8.ofNat (48+u % 10)]++mkS t=mkS (UInt8.ofNat (48+u % 10)::t):=Qat _ _;unfold Zw;have f:Int.tmod (u:Int) 10=((u % 10:Nat):Int):=rfl;have g:Int.tdiv (u:Int) 10=((u / 10:Nat):Int):=rfl;dsimp only;rw[jFj (by omega),f,g,jFj (by omega),Qac h,jTj (by unfold Qg;omega),jTj d,jTj (by unfold Qg;omega),b]
theorem yZ (n:Nat)(a:Int):∀(k u:Nat) (t:Wrd),u<10 ^ k->u<1000000000000000000->t.length+k<=100 ->
  QU (Zw n a) (k+1) (mkS t,-(u:Int))=some (mkS (zn u++t))
 | 0,u,t,hu,_,_=>by
  have:u=0:=by simpa using hu
  subst this;refine ZP ?_;unfold Zw;rfl
 | k+1,u,t,hu,hb,ht=>by
  by_cases f:u=0
  ·subst f;refine ZP ?_;unfold Zw;rfl
  ·have g:u % 10<10:=Nat.mod_lt _ (by decide);have j:=yZ n a k (u / 10) (UInt8.ofNat (48+u % 10)::t) (by rw[Nat.pow_succ] at hu;omega) (by omega) (by simp;omega);have c:zn u++t=zn (u / 10)++(UInt8.ofNat (48+u % 10)::t):=by rw[kg f];simp
   rw[c,<-j];refine W8 ?_;have d:(mkS [UInt8.ofNat (48+u % 10)]).size+(mkS t).size<=9223372036854775807:=by rw[Qp,Qp];simp;omega
   have b:mkS [UInt8.ofNat (48+u % 10)]++mkS t=mkS (UInt8.ofNat (48+u % 10)::t):=Qat _ _;unfold Zw;have h:Int.tmod (-(u:Int)) 10=-((u % 10:Nat):Int):=by rw[Int.neg_tmod];rfl
   have i:Int.tdiv (-(u:Int)) 10=-((u / 10:Nat):Int):=by rw[Int.neg_tdiv];rfl
   dsimp only;rw[jFj (by omega),h,i];by_cases l:u % 10=0
   ·have e:(48:Int)+-((u % 10:Nat):Int)=48+((u % 10:Nat):Int):=by omega
    rw[jFj (by omega),e,Qac g,jTj (by unfold Qg;omega),jTj d,jTj (by unfold Qg;omega),b]
   ·have e:(0:Int) - -((u % 10:Nat):Int)=((u % 10:Nat):Int):=by omega
    rw[jTj (by omega),e,Qac g,jTj (by unfold Qg;omega),jTj (by unfold Qg;omega),jTj d,jTj (by unfold Qg;omega),b]
theorem Qh6 {n:Int}(h:n<0):Lib.itoa n=45::Lib.decDigits (-n).toNat:=by unfold Lib.itoa;rw[jTj h,show n.natAbs=(-n).toNat by omega]
theorem Qd5 (u:Nat):∀k,u<10 ^ k->(zn u).length<=k
 | 0,h=>by
  have:u=0:=by simpa using h
  subst this;simp[zn]
 | k+1,h=>by
  by_cases a:u=0
  ·subst a;simp[zn]
  ·rw[kg a,jaj];have:=Qd5 (u / 10) k (by rw[Nat.pow_succ] at h;omega);simp;omega
theorem Qhn {n:Nat}(p:3000<=n){a:Int}(m : -1000000000000000000<a)(o:a<1000000000000000000):QT n a=some (mkS (Lib.itoa a)):=by
 unfold QT;by_cases i:a=0
 ·subst i;have g:Lib.itoa 0=[48]:=by rw[Ed (by decide)];show Lib.decDigits 0=_;rw[Lib.decDigits,dif_pos (by decide)];rfl
  rw[jTj rfl,g];rfl
 ·rw[jFj i];obtain⟨k,j⟩:∃k,n=19+k:=⟨n - 19,by omega⟩
  by_cases c:a<0
  ·have e:=yZ n a 18 (-a).toNat [] (by simp;omega) (by omega) (by simp);rw[show -((-a).toNat:Int)=a by omega] at e;have b:=zY _ _ e k;rw[<-j] at b;have f:zn (-a).toNat=Lib.decDigits (-a).toNat:=by unfold zn;rw[jFj (by omega)]
   have h:=Qd5 (-a).toNat 18 (by simp;omega);rw[List.append_nil,f] at b;rw[f] at h;have d:QU (Zw n a) n (⟨#[]⟩,a)=_:=b;have l:(⟨#[45]⟩:jSj)=mkS [45]:=rfl;rw[d,jBj,jTj c,Qh6 c,l,jTj (by rw[Qp,Qp];simp;omega),Qat];rfl
  ·have e:=yY n a 18 a.toNat [] (by simp;omega) (by omega) (by simp);rw[show(a.toNat:Int)=a by omega] at e;have b:=zY _ _ e k;rw[<-j] at b;have f:zn a.toNat=Lib.decDigits a.toNat:=by unfold zn;rw[jFj (by omega)]
   rw[List.append_nil,f] at b;have d:QU (Zw n a) n (⟨#[]⟩,a)=_:=b;rw[d,jBj,jFj (by omega),Ed (by omega)]
theorem Qa7:∀(l s:List Ev),Kw (E:=jVj) (fun(s:List Ev) (e:Ev)=>.inl (s++[e])) (fun s=>s.map Q5) l s=(s++l).map Q5
 | [],s=>by simp[Kw]
 | e::l,s=>by show Kw _ _ l (s++[e])=_;rw[Qa7 l (s++[e])];simp
theorem Qgp {n:Nat}(A:3000<=n)(l:List Ev)(v:∀e,e∈l->e.2.2.1.length<=60/\e.2.2.2.1.length<=60)(z:l.length<=990)(d:jVj)(f g:Int)(h j:Bool)(m o p:Int)(r a b:jVj) :
  QW n (l.map Q5) d f g h j m o p r a b=some (l.map Q5):=by
 have q:=Vr (step:=ZS n (l.map Q5) d f g h j m o p r a b) (E:=jVj) (fun(s:List Ev) (e:Ev)=>.inl (s++[e])) (fun s=>s.map Q5) (fun i s=>((i:Int),s.map Q5)) l (fun i s=>s.length=i)
  (fun i s e c t=>by have u:=(jGj c).1;obtain⟨b1,y⟩:=v e (jgj c);refine⟨?_,by show(s++[e]).length=i+1;rw[jaj,t];rfl⟩;unfold ZS;dsimp only;rw[jTj (ZF c),jTj ⟨Int.natCast_nonneg i,ZF c⟩,QkA c,jBj];dsimp only;rw[jTj (by rw[jlj];omega),jTj (by rw[jlj];omega),jTj (UO (by decide) (by rw[jlj];omega)),jTj (by unfold Qg;omega),wC,wC,List.map_append];rfl)
  (fun s _=>by unfold ZS;dsimp only;rw[jFj (by simp)]) (s:=[]) rfl (k:=n) (by omega)
 rw[Qa7] at q;unfold QW;exact(congrArg (fun x:Option (jVj)=>x.bind fun t1=>some t1) q)
def SmE (e:Ev):Prop:=(∀s,s∈e.2.2.1->s.size<=4)/\∀v,v∈e.2.2.2.1->0<=v/\v<=9999
structure Jrn (c:List Ev) (r:Reg):Prop where
 ok:OkL c
 reg:QN c=r
 rep:rep 0 [] c=.inr c
 good:AllG c
 sml:∀e,e∈c->SmE e
theorem Qjd:Jrn [] Reg.zero:=⟨wD,rfl,rfl,fun e h=>(by cases h),fun e h=>(by cases h)⟩
def evK (i:Nat)(k:Ki)(ns:List Wrd)(vs:List Int):Ev:=((i:Int)+1,mkS (kw k),ns.map mkS,vs,⟨#[]⟩)
def Vs (k:Ki)(ns:List Wrd)(vs:List Int):Wrd:=Lib.join (kw k::(ns++vs.map Lib.itoa)) [32]
structure OkV (k:Ki) (ns:List Wrd) (vs:List Int):Prop where
 ln:ns.length=kn k
 lv:vs.length=kv k
 nm:∀w,w∈ns->Yw (mkS w)=true/\w.length<=4
 vl:∀v,v∈vs->0<=v/\v<=9999
theorem Qco {i:Nat}(d:i<1000){k:Ki}{ns:List Wrd}{vs:List Int}(h:OkV k ns vs):Good (evK i k ns vs) k :=
  ⟨by show 1<=(i:Int)+1/\(i:Int)+1<=1000;omega,VN _,by show(ns.map mkS).length=_;rw[jlj,h.ln],h.lv,
   fun s a=>by obtain⟨w,c,rfl⟩:=List.mem_map.1 (show s∈ns.map mkS from a);exact(h.nm w c).1,fun v b=>(by have:=h.vl v b;omega),rfl⟩
theorem QjJ (i:Nat)(k:Ki)(ns:List Wrd)(vs:List Int):cmdL (evK i k ns vs)=Vs k ns vs:=by unfold cmdL Vs VX evK;dsimp only;rw[List.tail_cons,qV];show Lib.join ((mkS (kw k)).data.toList::_) _=_;rw[VN]
theorem QfU {n:Nat}(d:3000<=n){c:List Ev}{r:Reg}(h:Jrn c r):∀e,e∈c->Shw n e:=fun e a=>by obtain⟨k,b⟩:=h.good e a;exact(wc b).w (by omega)
theorem errK {c:List Ev}{r:Reg}(h:Jrn c r)(f:c.length<=90){k:Ki}(d:k≠.undo){ns:List Wrd}{vs:List Int}(e:OkV k ns vs):Uk c.length c (evK c.length k ns vs)=acc k r (ns.map mkS) vs/\isU (evK c.length k ns vs)=false:=by
 have a:=Qco (i:=c.length) (by omega) e;have b:isU (evK c.length k ns vs)=false:=by rw[Xr a];exact jEj d
 refine⟨?_,b⟩;unfold Uk;rw[jTj (Qe8 a),jTj (show(evK c.length k ns vs).1=(c.length:Int)+1 from rfl),jFj (by rw[b];decide),zh a,h.reg];rfl
theorem QkI (i:Nat){k:Ki}{ns:List Wrd}{vs:List Int}(h:OkV k ns vs):SmE (evK i k ns vs):=⟨fun s a=>by obtain⟨w,b,rfl⟩:=List.mem_map.1 (show s∈ns.map mkS from a);rw[Qp];exact(h.nm w b).2,h.vl⟩
theorem wL {c:List Ev}{r:Reg}(h:Jrn c r)(m:c.length<=90){k:Ki}(g:k≠.undo){ns:List Wrd}{vs:List Int}(d:OkV k ns vs)(f:acc k r (ns.map mkS) vs=0):Jrn (c++[evK c.length k ns vs]) (app k r (ns.map mkS) vs):=by
 have b:=Qco (i:=c.length) (by omega) d;obtain⟨j,l⟩:=errK h m g d;refine⟨Qdw h.ok g b (by rw[h.reg];exact f),by rw[Kx,JX b,h.reg];rfl,?_,fun e a=>?_,fun e a=>?_⟩
 ·rw[Qfx,h.rep];dsimp only;rw[Nat.zero_add,jTj (by rw[j];exact f)];unfold YV;rw[jFj (by rw[l];decide)]
 ·obtain a|a:=List.mem_append.1 a
  ·exact h.good e a
  ·rw[List.mem_singleton.1 a];exact⟨k,b⟩
 ·obtain a|a:=List.mem_append.1 a
  ·exact h.sml e a
  ·rw[List.mem_singleton.1 a];exact QkI _ d
theorem Qj8 {n:Nat}(p:3000<=n){c:List Ev}{r:Reg}(h:Jrn c r)(o:c.length<=90){k:Ki}(l:k≠.undo){ns:List Wrd}{vs:List Int}(d:OkV k ns vs)(g:acc k r (ns.map mkS) vs=0){s:jSj}(t:s=mkS (Vs k ns vs)) :
  ∃m:jSj,Qj n s (c.map Q5) (c.map Q5) r.tick r.level r.filled r.tripped r.light r.heat r.money (r.sectors.map Sd) (r.mirrors.map Q1) (r.offers.map Zs)=some (m,0,VJ ((c++[evK c.length k ns vs]).map Q5) ((c++[evK c.length k ns vs]).map Q5) (app k r (ns.map mkS) vs)):=by
 have b:=Qco (i:=c.length) (by omega) d;obtain⟨e,f⟩:=errK h o l d;have j:(c.map Q5).length=c.length:=jlj _;have q:=Qiq (n:=n) p (evs:=c.map Q5) (by omega) h.ok (by omega) b (by rw[j,e];exact g);have a:YV c (evK c.length k ns vs)=c++[evK c.length k ns vs]:=by unfold YV;rw[jFj (by rw[f];decide)]
 rw[QjJ,a,h.reg,Kx,JX b,h.reg] at q;rw[show(c.map Q5)++[Q5 (evK c.length k ns vs)]=(c++[evK c.length k ns vs]).map Q5 by rw[List.map_append];rfl] at q;rw[t];exact⟨_,q⟩
theorem uF {n:Nat}(o:3000<=n){c:List Ev}{r:Reg}(h:Jrn c r)(p:c.length<=90)(d:jVj)(e f:Int)(g i:Bool)(j k l:Int)(m a b:jVj) :
  QW n (c.map Q5) d e f g i j k l m a b=some (c.map Q5) :=
 Qgp o c (Qi2 h.ok) (by omega) d e f g i j k l m a b
theorem Qdr:∀{l:List jSj} {s:jSj},s∉l->pos (l++[s]) s=some l.length
 | [],s,_=>by rw[List.nil_append];unfold pos;rw[jTj rfl];rfl
 | x::l,s,h=>by have a:¬x=s:=fun e=>h (by rw[e];exact jMj);have c:=Qdr (l:=l) (s:=s) fun b=>h (jmj _ b);rw[List.cons_append];unfold pos;rw[jFj a,c];rfl
theorem Qdy (os:List Off)(o:Off):nmO (os++[o])=nmO os++[o.1]:=by unfold nmO;rw[List.map_append];rfl
theorem Qdx {os:List Off}{o:Off}(h:o.1∉nmO os):ZG (nmO (os++[o])) o.1=true/\iO (os++[o]) o.1=os.length/\oAt (os++[o]) o.1=o:=by
 have hp:pos (nmO (os++[o])) o.1=some os.length:=by rw[Qdy,Qdr h,Wy]
 have a:iO (os++[o]) o.1=os.length:=by unfold iO;rw[hp];rfl
 refine⟨by unfold ZG;rw[hp];rfl,a,?_⟩;unfold oAt;rw[a,List.getD_eq_getElem?_getD,List.getElem?_append_right (jLj _),Nat.sub_self];rfl
theorem Qjg {l:List jSj}{s:jSj}(h:s∉l):ZG l s=false:=by
 cases hh:ZG l s with
 | false=>rfl
 | true=>exact absurd (pos_mem.1 hh) h
def G5 (t l:Int)(c d:Bool)(b a mo:Int)(os:List Off):Reg:=⟨t,l,true,d,b,a,mo,[mkS [110]],[(mkS [97],mkS [110],100,0,false,c)],os⟩
def gnD (a:Bool)(l d:Int):Int:=if a=true then 100000*l*d else 0
theorem uM (t l:Int)(a d:Bool)(c b mo:Int)(os:List Off)(t' : Int):WP (G5 t l a d c b mo os) t'=gnD a l (t' - t):=by
 cases a
 ·show(0+0)*(t' - t)=0;simp
 ·show(100*(1000 - 0)*l+0)*(t' - t)=100000*l*(t' - t);rw[Int.add_zero];rfl
theorem Ui (l d:Int):gnD false l d=0:=rfl
theorem Qji (l:Int):gnD true l 10=1000000*l:=by show 100000*l*10=_;omega
theorem Xu (a:Bool)(l:Int):gnD a l 0=0:=by cases a<;>simp[gnD]
theorem QkE (t l:Int)(a d:Bool)(c b mo:Int)(os:List Off)(t' : Int):bkd (G5 t l a d c b mo os) t'=G5 t' l a d (c+gnD a l (t' - t)) (b+gnD a l (t' - t)) mo os:=by unfold bkd;rw[uM];rfl
def BkD (a:Bool)(l d c b:Int):Prop:=c+gnD a l d<=1000000000000000/\b+gnD a l d<=1000000000000000
theorem QjL {t l:Int}{c d:Bool}{b a mo:Int}{os:List Off}{k:Ki}{ns:List jSj}{t' : Int}{vs:List Int}(h:t<=t')(f:BkD c l (t' - t) b a)(g:known k (G5 t l c d b a mo os) ns=0):acc k (G5 t l c d b a mo os) ns (t'::vs)=spec k (G5 t l c d b a mo os) ns (t'::vs):=by
 have e:Gq (G5 t l c d b a mo os) t'=0:=by unfold Gq;rw[uM];exact jTj f
 unfold acc;show(if t'<t then 22 else QK [Gq (G5 t l c d b a mo os) t',_,_])=_;rw[jFj (by omega),e,g,uS _ rfl,uS _ rfl,QgP]
theorem vl_2 {a b:Int}(c:0<=a/\a<=9999)(d:0<=b/\b<=9999):∀v,v∈[a,b]->0<=v/\v<=9999:=fun v e=>by
 obtain h|h:=List.mem_cons.1 e
 ·rw[h];exact c
 ·rw[List.mem_singleton.1 h];exact d
theorem vl_1 {a:Int}(b:0<=a/\a<=9999):∀v,v∈[a]->0<=v/\v<=9999:=fun v c=>by rw[List.mem_singleton.1 c];exact b
theorem nm_1 {w:Wrd}(h:Yw (mkS w)=true/\w.length<=4):∀x,x∈[w]->Yw (mkS x)=true/\x.length<=4:=fun x a=>by rw[List.mem_singleton.1 a];exact h
def zx (n:Nat)(s:jSj)(c:List Ev)(r:Reg)(b:Int)(a : List Ev)(d : Reg):Prop :=
 ∃m:jSj,Qj n s (c.map Q5) (c.map Q5) r.tick r.level r.filled r.tripped r.light r.heat r.money (r.sectors.map Sd) (r.mirrors.map Q1) (r.offers.map Zs)=some (m,b,VJ (a.map Q5) (a.map Q5) d)
def JD (c:List Ev)(r:Reg)(z:Nat)(t l:Int)(d e:Bool)(b a mo:Int)(os:List Off):Prop:=Jrn c r/\c.length=z/\r=G5 t l d e b a mo os
theorem QbW {n:Nat}(C:3000<=n){c:List Ev}{r:Reg}{z:Nat}{t l:Int}{a e:Bool}{d b mo:Int}{os:List Off}(h:JD c r z t l a e d b mo os)(H:z<=90){k:Ki}(u:k≠.undo){ns:List Wrd}{t' : Int}{vs:List Int}(v:OkV k ns (t'::vs))(G:t<=t')(y:BkD a l (t' - t) d b)
  (g:known k (G5 t l a e d b mo os) (ns.map mkS)=0) (i:spec k (G5 t l a e d b mo os) (ns.map mkS) (t'::vs)=0) {t2 l2:Int} {on2 tr2:Bool} {li2 he2 mo2:Int} {os2:List Off}
  (E:act k (G5 t' l a e (d+gnD a l (t' - t)) (b+gnD a l (t' - t)) mo os) (ns.map mkS) (t'::vs)=G5 t2 l2 on2 tr2 li2 he2 mo2 os2) {s:jSj} (F:s=mkS (Vs k ns (t'::vs))) :
  ∃j x,JD j x (z+1) t2 l2 on2 tr2 li2 he2 mo2 os2/\zx n s c r 0 j x:=by
 obtain⟨q,A,rfl⟩:=h;have p:acc k (G5 t l a e d b mo os) (ns.map mkS) (t'::vs)=0:=(QjL G y g).trans i;have f:app k (G5 t l a e d b mo os) (ns.map mkS) (t'::vs)=G5 t2 l2 on2 tr2 li2 he2 mo2 os2:=by unfold app;show act k (bkd _ t') _ _=_;rw[QkE];exact E
 have m:=wL q (by omega) u v p;have o:=Qj8 C q (by omega) u v p F;rw[f] at m o;exact⟨_,_,⟨m,by rw[jaj,A];rfl,rfl⟩,o⟩
theorem Qhr {n:Nat}(k:3000<=n){c:List Ev}{r:Reg}{z:Nat}{t l:Int}{a e:Bool}{d b mo:Int}{os:List Off}(h:JD c r z t l a e d b mo os)(q:z<=90){t' v:Int}(o:t<=t')(u:0<=t'/\t'<=9999)(g:0<=v/\v<=1000)(j:BkD a l (t' - t) d b){s:jSj}(m:s=mkS (Vs .sun [] [t',v])) :
  ∃f i,JD f i (z+1) t' v a e (d+gnD a l (t' - t)) (b+gnD a l (t' - t)) mo os/\zx n s c r 0 f i :=
 QbW k h q (by decide) ⟨rfl,rfl,fun w p=>(by cases p),vl_2 (by omega) (by omega)⟩ o j rfl (show spec .sun (G5 t l a e d b mo os) [] [t',v]=0 from Qcm g.1 g.2) rfl m
theorem Qc4 {n:Nat}(q:3000<=n){c:List Ev}{r:Reg}{z:Nat}{t l:Int}{b m:Bool}{g d mo:Int}{os:List Off}(h:JD c r z t l b m g d mo os)(E:z<=90){w:Wrd}(C:Yw (mkS w)=true/\w.length<=4)(a:mkS w∉nmO os)(x:os.length<=20){t' f u e p:Int}(A:t<=t')(F:0<=t')(G:t'<=f)(H:f<u/\u<=9999)(he2:1<=e/\e<=1000)(hp:0<=p/\p<=1000)(o:BkD b l (t' - t) g d){s:jSj}(y:s=mkS (Vs .offer [w] [t',f,u,e,p])) :
  ∃i k,JD i k (z+1) t' l b m (g+gnD b l (t' - t)) (d+gnD b l (t' - t)) mo (os++[(mkS w,f,u,e,p,0,false)])/\zx n s c r 0 i k:=by
 refine QbW q h E (by decide) ⟨rfl,rfl,nm_1 C,fun v j=>?_⟩ A o ?_ ?_ rfl y
 ·simp only[List.mem_cons,List.not_mem_nil,or_false] at j;obtain rfl|rfl|rfl|rfl|rfl:=j<;>omega
 ·show QD (ZG (nmO os) (mkS w)) 9=0;rw[Qjg a];rfl
 ·show QK [(if f<t' then 14 else QD (decide (f>=u)) 14),inR e 1 1000,inR p 0 1000,QD ((os.length:Int)==32) 5]=0;rw[jFj (by omega),jEj (by omega),Qcm he2.1 he2.2,Qcm hp.1 hp.2,show((os.length:Int)==32)=false by rw[beq_eq_false_iff_ne];omega];rfl
theorem ud {n:Nat}(F:3000<=n){c:List Ev}{r:Reg}{z:Nat}{t l:Int}{a k:Bool}{j b mo:Int}{os:List Off}{f u e p d:Int}{w:Wrd}(h:JD c r z t l a k j b mo (os++[(mkS w,f,u,e,p,d,false)]))(K:z<=90)(J:Yw (mkS w)=true/\w.length<=4)(g:mkS w∉nmO os){t' v:Int}(H:t<=t')(N:0<=t'/\t'<=9999)(O:f<=t'/\t'<u)(Q:1<=v/\v<=e - d/\v<=1000)(C:BkD a l (t' - t) j b)(P:1000000*v<=b+gnD a l (t' - t)){s:jSj}(G:s=mkS (Vs .deliver [w] [t',v])) :
  ∃m A,JD m A (z+1) t' l a k (j+gnD a l (t' - t)) (b+gnD a l (t' - t) - 1000000*v) mo (os++[(mkS w,f,u,e,p,d+v,false)])/\zx n s c r 0 m A:=by
 obtain⟨L,M,y⟩:=Qdx (os:=os) (o:=(mkS w,f,u,e,p,d,false)) g;refine QbW F h K (by decide) ⟨rfl,rfl,nm_1 J,vl_2 (by omega) (by omega)⟩ H C ?_ ?_ ?_ G
 ·show QD (!ZG (nmO (os++[(mkS w,f,u,e,p,d,false)])) (mkS w)) 10=0;rw[L];rfl
 ·have E:=uM t l a k j b mo (os++[(mkS w,f,u,e,p,d,false)]) t';have q:QK [QD (oAt (os++[(mkS w,f,u,e,p,d,false)]) (mkS w)).2.2.2.2.2.2 23,if t'<(oAt (os++[(mkS w,f,u,e,p,d,false)]) (mkS w)).2.1 then 14 else QD (decide (t'>=(oAt (os++[(mkS w,f,u,e,p,d,false)]) (mkS w)).2.2.1)) 14,QD (v==0) 3,QD (decide (v>WC (oAt (os++[(mkS w,f,u,e,p,d,false)]) (mkS w)))) 20]=0:=by rw[y];show QK [0,if t'<f then 14 else QD (decide (t'>=u)) 14,QD (v==0) 3,QD (decide (v>e - d)) 20]=0;rw[jFj (by omega),jEj (by omega),jEj (by omega),show(v==0)=false by rw[beq_eq_false_iff_ne];omega];rfl
  refine Eq.trans (jTj q) ?_;show QD (decide (v*1000000>b+WP _ t')) 16=0;rw[E,jEj (by omega)];rfl
 ·have i:∀x:Off,(os++[(mkS w,f,u,e,p,d,false)]).set os.length x=os++[x]:=fun x=>by rw[List.set_append_right _ _ (jLj _),Nat.sub_self];rfl
  show G5 t' l a k _ _ mo (List.set (os++[(mkS w,f,u,e,p,d,false)]) (iO (os++[(mkS w,f,u,e,p,d,false)]) (mkS w)) (delO (oAt (os++[(mkS w,f,u,e,p,d,false)]) (mkS w)) v))=_;rw[y,M,i];rfl
abbrev Bst:=List Int×Int×Int×Int
abbrev Qr:=Int×Int
def Vf (x:Qr):D:=Ux x
def encB (b:Bst):D:=.agg [.lst false 1 (b.1.map I),I b.2.1,I b.2.2.1,I b.2.2.2]
theorem unQ (x:Qr):UX (Vf x)=some x:=rfl
def betB (a b:Bst):Bool:=decide (a.2.1>b.2.1) || (decide (a.2.1=b.2.1)&&decide (a.2.2.1>b.2.2.1))
def Vv (S:Int)(a:Int->Bst)(x:Qr)(lv u:Int):Bst :=
 (u::(a (Zv (lv+x.2 - u) S)).1,x.1*u+(a (Zv (lv+x.2 - u) S)).2.1,(a (Zv (lv+x.2 - u) S)).2.2.1,(lv+x.2 - u - Zv (lv+x.2 - u) S)+(a (Zv (lv+x.2 - u) S)).2.2.2)
def goB (f:Int->Bst):Nat->Int->Bst->Bst
 | 0,_,o=>o
 | j+1,i,o=>goB f j (i+1) (if betB (f i) o=true then f i else o)
def bst (S m:Int):List Qr->Int->Bst
 | [],lv=>([],0,lv,0)
 | x::r,lv=>goB (Vv S (bst S m r) x lv) (Zv m (lv+x.2)).toNat 1 (Vv S (bst S m r) x lv 0)
theorem wP {P:Bst->Prop}{f:Int->Bst}:∀(j:Nat) (i:Int) (o:Bst),P o->(∀u,i<=u->u<i+(j:Int)->P (f u))->P (goB f j i o)
 | 0,i,o,h,_=>h
 | j+1,i,o,h,hf=>by
  unfold goB;refine wP j (i+1) _ ?_ fun u a b=>hf u (by omega) (by omega);split
  ·exact hf i (by omega) (by omega)
  ·exact h
def OkQ (qs:List Qr):Prop:=∀x,x∈qs->(-100000<=x.1/\x.1<=100000)/\(0<=x.2/\x.2<=30)
theorem uu {x:Qr}{r:List Qr}(h:OkQ (x::r)):((-100000<=x.1/\x.1<=100000)/\(0<=x.2/\x.2<=30))/\OkQ r:=⟨h x jMj,fun y a=>h y (jmj _ a)⟩
theorem UB (a b:Int):(Zv a b<=a/\Zv a b<=b)/\(Zv a b=a\/Zv a b=b):=by rw[GS];omega
structure SzB (k:Nat) (b:Bst):Prop where
 len:b.1.length=k
 inc : -(3000000*(k:Int))<=b.2.1/\b.2.1<=3000000*(k:Int)
 left:0<=b.2.2.1/\b.2.2.1<=60
 spill:0<=b.2.2.2/\b.2.2.2<=90*(k:Int)
theorem QfL {p u:Int}(hp : -100000<=p/\p<=100000)(a:0<=u/\u<=30) : -3000000<=p*u/\p*u<=3000000:=by
 have b : -(100000*u)<=p*u:=by have:=Int.mul_le_mul_of_nonneg_right hp.1 a.1;rw[Int.neg_mul] at this;exact this
 have c:p*u<=100000*u:=Int.mul_le_mul_of_nonneg_right hp.2 a.1;omega
theorem Qcx {S m:Int}(i:0<=S/\S<=60)(l:0<=m/\m<=30){x:Qr}(d:(-100000<=x.1/\x.1<=100000)/\(0<=x.2/\x.2<=30)){k:Nat}{a:Int->Bst}(c:∀lv,0<=lv->lv<=S->SzB k (a lv)){lv u:Int}(j:0<=lv/\lv<=S)(n:0<=u/\u<=Zv m (lv+x.2)):SzB (k+1) (Vv S a x lv u):=by
 obtain⟨⟨o,p⟩,_⟩:=UB m (lv+x.2);obtain⟨⟨q,e⟩,r⟩:=UB (lv+x.2 - u) S;have h:=c (Zv (lv+x.2 - u) S) (by omega) e;have hp:=QfL d.1 (u:=u) (by omega);have f:=h.inc;have b:=h.left;have g:=h.spill;refine⟨by show(_::_).length=_;rw[List.length_cons,h.len],?_,?_,?_⟩
 ·show -(3000000*((k+1:Nat):Int))<=x.1*u+_/\x.1*u+_<=3000000*((k+1:Nat):Int);omega
 ·show 0<=(a _).2.2.1/\(a _).2.2.1<=60;exact b
 ·show 0<=(lv+x.2 - u - Zv (lv+x.2 - u) S)+(a _).2.2.2/\(lv+x.2 - u - Zv (lv+x.2 - u) S)+(a _).2.2.2<=90*((k+1:Nat):Int);omega
theorem Qag {m lv:Int}{x:Qr}(b:0<=m)(a:0<=lv)(c:0<=x.2):0<=Zv m (lv+x.2):=by obtain⟨_,h⟩:=UB m (lv+x.2);omega
theorem wo {S m:Int}(d:0<=S/\S<=60)(c:0<=m/\m<=30):∀(qs:List Qr),OkQ qs->∀lv,0<=lv->lv<=S->SzB qs.length (bst S m qs lv)
 | [],_,lv,h1,h2=>⟨rfl,by show _<=(0:Int)/\(0:Int)<=_;simp,by show 0<=lv/\lv<=60;omega,by show 0<=(0:Int)/\(0:Int)<=_;simp⟩
 | x::r,hq,lv,h1,h2=>by obtain⟨f,g⟩:=uu hq;have hc:=Qag (x:=x) c.1 h1 f.2.1;have e:∀u,0<=u->u<=Zv m (lv+x.2)->SzB (r.length+1) (Vv S (bst S m r) x lv u):=fun u a b=>Qcx d c f (wo d c r g) ⟨h1,h2⟩ ⟨a,b⟩;show SzB (r.length+1) (goB _ _ _ _);exact wP _ _ _ (e 0 (by omega) hc) fun u a b=>e u (by omega) (by omega)
abbrev Kn:=(Int×Int)×Bst
def keyP (k:Int×Int):Value:=.agg #[.int .i64 k.1,.int .i64 k.2]
def qh (e:Kn):D:=.tup [.v (keyP e.1),encB e.2]
def Qbi (k:Int×Int):List Kn->Option Bst
 | []=>none
 | e::l=>if k=e.1 then some e.2 else Qbi k l
def putK (k:Int×Int)(b:Bst):List Kn->List Kn
 | []=>[(k,b)]
 | e::l=>if k=e.1 then(k,b)::l else e::putK k b l
theorem Qht (k j:Int×Int):Y1 (keyP k) (keyP j)=some (decide (k=j)):=by
 show some ((k.1==j.1)&&((k.2==j.2)&&true))=_;congr 1
 rw[Bool.eq_iff_iff];simp[Prod.ext_iff]
theorem entP (e:Kn):Go.SX.keyOf (qh e)=some (keyP e.1,encB e.2):=rfl
theorem mokP (k:Int×Int):∀l:List Kn,mok (keyP k) (l.map qh)=true
 | []=>rfl
 | e::l=>by rw[jCj];unfold mok;rw[entP];dsimp only;rw[Qht,mokP k l];rfl
theorem QhR (k:Int×Int):∀l:List Kn,W5 (keyP k) (l.map qh)=(Qbi k l).map encB
 | []=>rfl
 | e::l=>by
  rw[jCj];unfold W5 Qbi;rw[entP];dsimp only;rw[Qht];by_cases h:k=e.1
  ·rw[jTj h,jDj h];rfl
  ·rw[jFj h,jEj h];exact QhR k l
theorem QjC (k:Int×Int)(b:Bst):∀l:List Kn,E7 (keyP k) (encB b) (l.map qh)=(putK k b l).map qh
 | []=>rfl
 | e::l=>by
  rw[jCj];unfold E7 putK;rw[entP];dsimp only;rw[Qht];by_cases h:k=e.1
  ·rw[jTj h,jDj h];rfl
  ·rw[jFj h,jEj h];show qh e::E7 (keyP k) (encB b) (l.map qh)=_;rw[QjC k b l];rfl
def OkK (S m:Int)(qs:List Qr)(l:List Kn):Prop:=∀e,e∈l->e.2=bst S m (qs.drop e.1.1.toNat) e.1.2
theorem Qbh {k:Int×Int}:∀{l:List Kn} {b:Bst},Qbi k l=some b->(k,b)∈l
 | [],b,h=>by cases h
 | e::l,b,h=>by
  unfold Qbi at h;split at h
  ·rename_i a;cases h;rw[a];exact jMj
  ·exact jmj _ (Qbh h)
theorem Qdn {k:Int×Int}{b:Bst}:∀{l:List Kn} {e:Kn},e∈putK k b l->e=(k,b)\/e∈l
 | [],e,h=>Or.inl (List.mem_singleton.1 h)
 | x::l,e,h=>by
  unfold putK at h;split at h
  ·obtain h|h:=List.mem_cons.1 h
   ·exact Or.inl h
   ·exact Or.inr (jmj _ h)
  ·obtain h|h:=List.mem_cons.1 h
   ·exact Or.inr (by rw[h];exact jMj)
   ·obtain h|h:=Qdn h
    ·exact Or.inl h
    ·exact Or.inr (jmj _ h)
theorem Qi3 {S m:Int}{qs:List Qr}{l:List Kn}(h:OkK S m qs l){k:Int×Int}{b:Bst}(c:b=bst S m (qs.drop k.1.toNat) k.2):OkK S m qs (putK k b l):=fun e d=>by
 obtain a|a:=Qdn d
 ·rw[a];exact c
 ·exact h e a
theorem VU {x:Int}(h : -1000000000<=x/\x<=1000000000):Qg x:=by unfold Qg;omega
theorem Qbr {n:Nat}{S lv m:Int}{x:Qr}{u:Int}(b:0<=S/\S<=60)(d:m<=30)(a:(-100000<=x.1/\x.1<=100000)/\(0<=x.2/\x.2<=30))(c:0<=lv/\lv<=S)(e:0<=u/\u<=Zv m (lv+x.2)) :
  Vl n S lv m 0 0 0 x.1 x.2 u=some (S,Zv (lv+x.2 - u) S,m,x.1*u,Zv (lv+x.2 - u) S,lv+x.2 - u - Zv (lv+x.2 - u) S):=by
 obtain⟨⟨f,g⟩,_⟩:=UB m (lv+x.2);obtain⟨⟨h,i⟩,j⟩:=UB (lv+x.2 - u) S;have hp:=QfL a.1 (u:=u) (by omega);unfold Vl;rw[jTj (VU (by omega)),jTj (VU (by omega)),jTj (VU (by omega)),jTj (VU (by omega)),jTj (VU (by omega)),jTj (VU (by omega)),Int.zero_add,Int.zero_add]
theorem Qg2 (n:Nat)(a b:Bst):V0 n a.2.1 a.2.2.1 a.2.2.2 b.2.1 b.2.2.1 b.2.2.2=some (betB a b):=by
 unfold V0 betB;by_cases c:a.2.1>b.2.1
 ·rw[jTj c,jDj c];rfl
 ·rw[jFj c,jEj c];by_cases d:a.2.1=b.2.1
  ·rw[jTj d,jDj d];rfl
  ·rw[jFj d,jEj d];rfl
def Qgb (S m:Int)(qs:List Qr)(q:Nat)(R:Vd)(l0:Int):Prop:=∀(lv:Int) (l:List Kn),0<=lv->lv<=S->OkK S m qs l->∃a,OkK S m qs a/\R S l0 m (qs.map Vf) (q:Int) lv (l.map qh)=some ((bst S m (qs.drop q) lv).1.map I,(bst S m (qs.drop q) lv).2.1,(bst S m (qs.drop q) lv).2.2.1,(bst S m (qs.drop q) lv).2.2.2,a.map qh)
abbrev exB (x:jVj×jVj×Int×Int×Int):Unit⊕(jVj×jVj×Int×Int×Int):=Sum.inr x
abbrev stB (i:Int)(l:List Kn)(o:Bst):(Unit)⊕(Int×jVj×jVj×Int×Int×Int):=Sum.inr (i,l.map qh,o.1.map I,o.2.1,o.2.2.1,o.2.2.2)
theorem QjI (u:Int)(b:Bst){p:Prop}[Decidable p](hp:p↔Vk (b.1.map I)=true){X:Type}(f:jVj->X):(if p then f [I u] else f (I u::b.1.map I))=f ((u::b.1).map I):=by
 by_cases h:p
 ·rw[jTj h];have:=hp.1 h;cases hb:b.1 with
  | nil=>rfl
  | cons y z=>rw[hb] at this;cases this
 ·rw[jFj h];rfl
theorem QkH {l:jVj}(h:l≠[]):Vk l=false:=by
 cases l with
 | nil=>exact absurd rfl h
 | cons x l=>rfl
theorem Qfw {k:Nat}(h:k<=1000):Wi 8 k:=by unfold Wi;omega
theorem QgG {n:Nat}{S m l0:Int}{qs:List Qr}{q:Nat}{R:Vd}(d:0<=S/\S<=60)(g:0<=m/\m<=30)(u:OkQ qs)(V:qs.length<=100)(P:Qgb S m qs (q+1) R l0){x:Qr}(z:qs[q]?=some x){lv:Int}(s:0<=lv/\lv<=S)(es:jVj) :
  ∀(j:Nat) (i:Int) (l:List Kn) (o:Bst) (k:Nat),1<=i->i+(j:Int)=Zv m (lv+x.2)+1->OkK S m qs l->SzB (qs.drop q).length o->j<k ->
   ∃A,OkK S m qs A/\QU (W1 n S l0 m (qs.map Vf) q lv es R x (Zv m (lv+x.2))) k (stB i l o)=some (exB (A.map qh,(goB (Vv S (bst S m (qs.drop (q+1))) x lv) j i o).1.map I,(goB (Vv S (bst S m (qs.drop (q+1))) x lv) j i o).2)):=by
 have c:=u x (jgj z);have T:=(jGj z).1;have a:(qs.drop q).length=(qs.drop (q+1)).length+1:=by rw[List.length_drop,List.length_drop];omega
 obtain⟨⟨Y,Z⟩,_⟩:=UB m (lv+x.2);have b:OkQ (qs.drop (q+1)):=fun y W=>u y (List.mem_of_mem_drop W);intro j;induction j with
 | zero =>
  intro i l o k M N h r O;obtain⟨k,rfl⟩:∃t,k=t+1:=⟨k - 1,by omega⟩
  refine⟨l,h,ZP ?_⟩;unfold W1;dsimp only;rw[jFj (by omega)];rfl
 | succ j ih =>
  intro i l o k M N h r O;obtain⟨k,rfl⟩:∃t,k=t+1:=⟨k - 1,by omega⟩
  have v:0<=i/\i<=Zv m (lv+x.2):=by omega
  obtain⟨⟨m3,E⟩,m5⟩:=UB (lv+x.2 - i) S;obtain⟨C,k1,X⟩:=P (Zv (lv+x.2 - i) S) l (by omega) E h;have hc:SzB (qs.drop q).length (Vv S (bst S m (qs.drop (q+1))) x lv i):=by rw[a];exact Qcx d g c (wo d g _ b) s v
  have U:SzB (qs.drop q).length (if betB (Vv S (bst S m (qs.drop (q+1))) x lv i) o=true then Vv S (bst S m (qs.drop (q+1))) x lv i else o):=by split<;>assumption
  obtain⟨l2,J,K⟩:=ih (i+1) C _ k (by omega) (by omega) k1 U (by omega);refine⟨l2,J,?_⟩;show QU _ (k+1) _=some (exB (l2.map qh,(goB _ j (i+1) _).1.map I,(goB _ j (i+1) _).2));rw[<-K];refine W8 ?_;have p:=wo d g (qs.drop (q+1)) b (Zv (lv+x.2 - i) S) (by omega) E;have z1:=hc.inc;have z3:=hc.spill;have z0:(qs.drop q).length<=100:=by rw[List.length_drop];omega
  have one:o.1.map I≠[]:=fun e=>by have:=congrArg List.length e;rw[jlj,r.len,a] at this;simp at this
  unfold W1;dsimp only[stB];rw[jTj (by omega),Qbr d g.2 c s v,jBj,jTj (VU (by omega))];dsimp only;rw[show((q:Int)+1)=((q+1:Nat):Int) from rfl,X,jBj];dsimp only;have F:x.1*i+(bst S m (qs.drop (q+1)) (Zv (lv+x.2 - i) S)).2.1=(Vv S (bst S m (qs.drop (q+1))) x lv i).2.1:=rfl;have G:lv+x.2 - i - Zv (lv+x.2 - i) S+(bst S m (qs.drop (q+1)) (Zv (lv+x.2 - i) S)).2.2.2=(Vv S (bst S m (qs.drop (q+1))) x lv i).2.2.2:=rfl;have H:(bst S m (qs.drop (q+1)) (Zv (lv+x.2 - i) S)).2.2.1=(Vv S (bst S m (qs.drop (q+1))) x lv i).2.2.1:=rfl;rw[F,G,H,jTj (VU (by omega)),jTj (VU (by omega)),jTj (by rw[QkH one];decide),Qg2,jBj];by_cases f:betB (Vv S (bst S m (qs.drop (q+1))) x lv i) o=true
  ·rw[jTj f,jTj f,jTj (Qfw (by rw[jlj,p.len,List.length_drop];omega))];have Q:Qg (i+1):=VU (by omega);simp only[jTj Q];exact QjI i (bst S m (qs.drop (q+1)) (Zv (lv+x.2 - i) S)) Iff.rfl fun L=>some (Sum.inl (Sum.inr (i+1,C.map qh,L,(Vv S (bst S m (qs.drop (q+1))) x lv i).2.1,(Vv S (bst S m (qs.drop (q+1))) x lv i).2.2.1,(Vv S (bst S m (qs.drop (q+1))) x lv i).2.2.2)))
  ·rw[jFj f,jFj f,jTj (VU (by omega))]
theorem Qkf {n:Nat}(hn:200<=n){S m l0:Int}{qs:List Qr}{q:Nat}{R:Vd}(i:0<=S/\S<=60)(g:0<=m/\m<=30)(C:OkQ qs)(E:qs.length<=100)(Z:q<=qs.length)(J:q<qs.length->Qgb S m qs (q+1) R l0):Qgb S m qs q (fun a0 M N O P Q T=>Uz n a0 M N O P Q T R) l0:=by
 intro lv l c f t;dsimp only;unfold Uz;by_cases H:q=qs.length
 ·refine⟨l,t,?_⟩;rw[jTj (by rw[jlj,H]),H,List.drop_length];rfl
 ·have d:q<qs.length:=by omega
  have u:qs[q]?=some qs[q]:=jej d;have v:qs.drop q=qs[q]::qs.drop (q+1):=List.drop_eq_getElem_cons d;have e:=C _ (jgj u);have s:(Value.agg #[.int .i64 (q:Int),.int .i64 lv])=keyP ((q:Int),lv):=rfl;rw[jFj (by rw[jlj];omega)];simp only[s];rw[jTj (mokP _ l),QhR];cases hf:Qbi ((q:Int),lv) l with
  | some b =>
   refine⟨l,t,?_⟩;have j:=t _ (Qbh hf);dsimp only at j;rw[jtj] at j;rw[jTj (show(Option.map encB (some b)).isSome=true from rfl)];show some (b.1.map I,b.2.1,b.2.2.1,b.2.2.2,l.map qh)=_;rw[j]
  | none =>
   rw[jFj (fun h=>by cases h),UG unQ u,jBj];generalize qs[q]=x at u v e;have p:=Qag (x:=x) g.1 c e.2.1;obtain⟨⟨m1,m2⟩,_⟩:=UB m (lv+x.2);have o:Yu n S lv m 0 0 0 x.1 x.2=some (Zv m (lv+x.2)):=by unfold Yu;rw[jTj (VU (by omega))]
   rw[o,jBj,jTj (VU (by omega))];have r:OkQ (qs.drop (q+1)):=fun y hy=>C y (List.mem_of_mem_drop hy);obtain⟨⟨m3,K⟩,m5⟩:=UB (lv+x.2 - 0) S;obtain⟨G,k1,k2⟩:=J d (Zv (lv+x.2 - 0) S) l (by omega) K t;have z:(qs.drop q).length=(qs.drop (q+1)).length+1:=by rw[v,List.length_cons]
   have hc:SzB (qs.drop q).length (Vv S (bst S m (qs.drop (q+1))) x lv 0):=by rw[z];exact Qcx i g e (wo i g _ r) ⟨c,f⟩ ⟨Int.le_refl 0,p⟩
   obtain⟨l2,X,Y⟩:=QgG (n:=n) (l0:=l0) (R:=R) i g C E (J d) u ⟨c,f⟩ (l.map qh) (Zv m (lv+x.2)).toNat 1 G (Vv S (bst S m (qs.drop (q+1))) x lv 0) (n - 1) (by omega) (by omega) k1 hc (by omega);have F:=wo i g (qs.drop (q+1)) r (Zv (lv+x.2 - 0) S) (by omega) K;have z0:(qs.drop q).length<=100:=by rw[List.length_drop];omega
   have z1:=hc.inc;have z3:=hc.spill;have s1:W1 n S l0 m (qs.map Vf) q lv (l.map qh) R x (Zv m (lv+x.2)) (.inl ())=some (.inl (stB 1 G (Vv S (bst S m (qs.drop (q+1))) x lv 0))):=by unfold W1;dsimp only;rw[jTj (by omega),Qbr i g.2 e ⟨c,f⟩ ⟨Int.le_refl 0,p⟩,jBj,jTj (VU (by omega))];dsimp only;rw[show((q:Int)+1)=((q+1:Nat):Int) from rfl,k2,jBj];dsimp only;have U:x.1*0+(bst S m (qs.drop (q+1)) (Zv (lv+x.2 - 0) S)).2.1=(Vv S (bst S m (qs.drop (q+1))) x lv 0).2.1:=rfl;have V:lv+x.2 - 0 - Zv (lv+x.2 - 0) S+(bst S m (qs.drop (q+1)) (Zv (lv+x.2 - 0) S)).2.2.2=(Vv S (bst S m (qs.drop (q+1))) x lv 0).2.2.2:=rfl;have W:(bst S m (qs.drop (q+1)) (Zv (lv+x.2 - 0) S)).2.2.1=(Vv S (bst S m (qs.drop (q+1))) x lv 0).2.2.1:=rfl;rw[U,V,W,jTj (VU (by omega)),jTj (VU (by omega)),jTj (Qfw (by rw[jlj,F.len,List.length_drop];omega))];exact QjI 0 (bst S m (qs.drop (q+1)) (Zv (lv+x.2 - 0) S)) Iff.rfl fun L=>some (Sum.inl (Sum.inr (1,G.map qh,L,(Vv S (bst S m (qs.drop (q+1))) x lv 0).2.1,(Vv S (bst S m (qs.drop (q+1))) x lv 0).2.2.1,(Vv S (bst S m (qs.drop (q+1))) x lv 0).2.2.2)))
   have A:n=(n - 1)+1:=by omega
   have a:=W8 (k:=n - 1) s1;rw[<-A,Y] at a;have j:bst S m (qs.drop q) lv=goB (Vv S (bst S m (qs.drop (q+1))) x lv) (Zv m (lv+x.2)).toNat 1 (Vv S (bst S m (qs.drop (q+1))) x lv 0):=by rw[v];rfl
   refine⟨putK ((q:Int),lv) (bst S m (qs.drop q) lv) l2,Qi3 X (by dsimp only;rw[jtj]),?_⟩;rw[a,jBj,<-j];dsimp only;rw[jTj (mokP _ l2)];have:(D.agg [.lst false 1 ((bst S m (qs.drop q) lv).1.map I),I (bst S m (qs.drop q) lv).2.1,I (bst S m (qs.drop q) lv).2.2.1,I (bst S m (qs.drop q) lv).2.2.2])=encB (bst S m (qs.drop q) lv):=rfl;rw[this,QjC]
theorem Qih {n:Nat}(d:200<=n){S m l0:Int}{qs:List Qr}(b:0<=S/\S<=60)(c:0<=m/\m<=30)(e:OkQ qs)(a:qs.length<=100):∀(k q:Nat),q<=qs.length->qs.length - q<k->Qgb S m qs q (K0 n k) l0
 | 0,q,_,h=>by omega
 | k+1,q,h1,h2=>Qkf d b c e a h1 fun f=>Qih d b c e a k (q+1) (by omega) (by omega)
theorem Qjk {n:Nat}(g:200<=n){S m l0:Int}{qs:List Qr}(c:0<=S/\S<=60)(b:0<=l0/\l0<=S)(f:0<=m/\m<=30)(i:OkQ qs)(a:qs.length<=100) :
  ∃L:jVj,qI n S l0 m (qs.map Vf) 0 l0 []=some ((bst S m qs l0).1.map I,(bst S m qs l0).2.1,(bst S m qs l0).2.2.1,(bst S m qs l0).2.2.2,L):=by
 obtain⟨j,_,h⟩:=Qih (l0:=l0) g c f i a n 0 (Nat.zero_le _) (by omega) l0 [] b.1 b.2 (fun e d=>by cases d);exact⟨_,h⟩
theorem QdS (n:Nat)(b:Bool)(e:Int):Qm n b e=some (QD b e):=by unfold Qm QD;cases b<;>rfl
theorem UF (n:Nat)(x b a:Int):Zq n x b a=some (inR x b a):=by
 unfold Zq inR;rw[QdS,QdS,jBj,jBj];by_cases h:x<b
 ·simp[h,QD]
 ·by_cases c:x>a
  ·simp[h,c,QD]
  ·simp[h,c,QD]
theorem za {n:Nat}(ms:List Int)(d:ms.length<1000000)(b:ms.length<n):Qi n (ms.map I)=some (QK ms):=by
 unfold Qi;have:=Vr (step:=Q6 n (ms.map I)) fG (fun _=>.inr ()) (fun i _=>(i:Int)) ms (fun _ _=>True)
  (fun i s x a _=>by
   unfold fG Q6;have c:=(jGj a).1;by_cases h:x=0
   ·rw[jTj h];refine⟨?_,trivial⟩;rw[jTj (ZF a),Ei a,jBj,jTj h,jTj (by unfold Qg;omega)];rfl
   ·rw[jFj h];dsimp only;rw[jTj (ZF a),Ei a,jBj,jFj h])
  (fun s _=>by unfold Q6;rw[jFj (by simp)]) (s:=()) trivial b
 rw[show(0:Int)=((0:Nat):Int) from rfl,this,X1];by_cases h:QK ms=0
 ·rw[jTj h,h];rfl
 ·rw[jFj h];rfl
theorem QfW {n:Nat}(e:100<=n)(a b c d:Int)(h:a=0/\b=0/\c=0/\d=0):Qi n [I a,I b,I c,I d]=some 0:=by obtain⟨rfl,rfl,rfl,rfl⟩:=h;exact za (n:=n) [0,0,0,0] (by decide) (by show 4<n;omega)
theorem Qjh {n:Nat}(b:100<=n){x:Qr}(a:(-100000<=x.1/\x.1<=100000)/\(0<=x.2/\x.2<=30)):W2 n x.1 x.2=some 0:=by unfold W2;rw[UF,UF,jBj,jBj,WS.2 a.1,WS.2 a.2];have:=za (n:=n) [0,0] (by decide) (by show 2<n;omega);rw[show([I 0,I 0]:jVj)=[0,0].map I from rfl,this];rfl
theorem fnz0:∀k:Nat,QK (List.replicate k 0)=0
 | 0=>rfl
 | k+1=>by rw[List.replicate_succ];unfold QK;rw[jTj rfl];exact fnz0 k
theorem QjH {a:Type}:∀l:List a,(l.flatMap fun _=>[I 0])=(List.replicate l.length (0:Int)).map I
 | []=>rfl
 | x::l=>by rw[List.flatMap_cons,QjH l];rfl
theorem Qdd {b k:Nat}(a:b<=100)(h:k<=1000):Wi b k:=by unfold Wi;have c:k*b<=1000*100:=Nat.mul_le_mul h a;have d:b*k<=100*1000:=Nat.mul_le_mul a h;omega
theorem Qjj {n:Nat}(b:100<=n){qs:List Qr}(c:OkQ qs)(e:qs.length<=8):YQ n (qs.map Vf)=some ((List.replicate qs.length (0:Int)).map I):=by
 unfold YQ;have:=Y4 (step:=Vm n (qs.map Vf)) (E:=jVj) (fun out=>out) qs (fun _=>[I 0]) (fun _=>jLj _)
  (fun i out x a f=>by have d:=(jGj a).1;unfold Vm;dsimp only;rw[jTj (ZF a),UG unQ a,jBj,Qjh b (c x (jgj a)),jBj,jTj (Qdd (by decide) (by omega)),jTj (by unfold Qg;omega)];rfl)
  (fun out _=>by unfold Vm;dsimp only;rw[jFj (by simp)]) (k:=n) (by omega)
 rw[this,jBj,QjH]
theorem Qbq {n:Nat}(b:100<=n){qs:List Qr}(c:OkQ qs)(a:qs.length<=8):W3 n (qs.map Vf)=some 0:=by unfold W3;rw[jFj (by rw[jlj];omega),Qjj b c a,jBj,za _ (by rw[List.length_replicate];omega) (by rw[List.length_replicate];omega),fnz0];rfl
theorem QeU {n:Nat}(b:100<=n){S m lv:Int}(c:0<=S/\S<=60)(d:0<=lv/\lv<=S)(e:0<=m/\m<=30){qs:List Qr}(f:OkQ qs)(a:qs.length<=8):V1 n S lv m (qs.map Vf)=some 0:=by unfold V1;rw[UF,UF,UF,jBj,jBj,jBj,Qbq b f a,jBj,QfW b _ _ _ _ ⟨WS.2 c,WS.2 d,WS.2 e,rfl⟩];rfl
theorem yj {n:Nat}(j:200<=n){S m lv:Int}(b:0<=S/\S<=60)(a:0<=lv/\lv<=S)(d:0<=m/\m<=30){qs:List Qr}(f:OkQ qs)(c:qs.length<=8)(e:qs≠[]) :
  VH n S lv m (qs.map Vf)=some ((bst S m qs lv).1.map I,(bst S m qs lv).2.1,(bst S m qs lv).2.2.1,(bst S m qs lv).2.2.2,0):=by
 have g:=wo b d qs f lv a.1 a.2;obtain⟨L,i⟩:=Qjk j b a d f (by omega);have hp:=List.length_pos_iff.2 e;unfold VH;rw[QeU (by omega) b a d f c,jBj,jTj rfl,i,jBj];dsimp only;have:Ys n ((bst S m qs lv).1.map I)=some ((bst S m qs lv).1.map I):=by
  unfold Ys;rw[jFj (by
   cases h:(bst S m qs lv).1 with
   | nil=>have:=g.len;rw[h] at this;simp at this;omega
   | cons _ _=>simp[Vk]),jTj (Qfw (by rw[jlj,g.len];omega))]
 rw[this];rfl
theorem Qbo {n:Nat}(e:100<=n){x:Qr}{u:Int}(b:0<=u/\u<=30):VG n [Vf x] [I u]=some 0:=by
 have a:Yf n [I u]=some [I 0]:=by
  unfold Yf;obtain⟨k,rfl⟩:∃k,n=k+2:=⟨n - 2,by omega⟩
  have c:Ww (k+2) [I u] (0,[])=some (.inl (1,[I 0])):=by unfold Ww Yg;dsimp only;rw[jTj (by simp),show el V5 [I u] 0=some u from rfl,jBj,UF,jBj,jBj,WS.2 b,jTj (Qfw (by decide)),jTj (VU (by decide))];rfl
  have d:Ww (k+2) [I u] (1,[I 0])=some (.inr [I 0]):=by unfold Ww;dsimp only;rw[jFj (by simp)]
  rw[W8 c,ZP d];rfl
 unfold VG;rw[jTj (by rfl),a,jBj];have:=za (n:=n) [0] (by decide) (by show 1<n;omega);rw[show([I 0]:jVj)=[0].map I from rfl,this];rfl
theorem Qeq {n:Nat}(a:100<=n){x:Qr}(g:(-100000<=x.1/\x.1<=100000)/\(0<=x.2/\x.2<=30)){e d f:Int}(i:0<=e/\e<=30)(c:0<=d/\d<=30)(j:0<=f/\f<=100000) :
  WO n [Vf x] [I e] [I d] f=some (if e - d>0 then(x.1*d - f*(e - d),[.agg [I 0,I (e - d)]],0) else(x.1*d,[],0)):=by
 have m:OkQ [x]:=fun y o=>by rw[List.mem_singleton.1 o];exact g
 have q:=QfL g.1 c;unfold WO;rw[show[Vf x]=[x].map Vf from rfl,Qbq a m (by simp),jBj,show[x].map Vf=[Vf x] from rfl,Qbo a i,jBj,Qbo a c,jBj,UF,jBj,QfW a _ _ _ _ ⟨rfl,rfl,rfl,WS.2 j⟩,jBj,jTj rfl];obtain⟨k,rfl⟩:∃k,n=k+2:=⟨n - 2,by omega⟩
 have l:Wg (k+2) [Vf x] [I e] [I d] f (0,0,[])=some (.inl (if e - d>0 then(x.1*d - f*(e - d),1,[.agg [I 0,I (e - d)]]) else(x.1*d,1,[]))):=by
  unfold Wg;dsimp only;rw[jTj (by simp),show el UX [Vf x] 0=some x from rfl,jBj,show el V5 [I d] 0=some d from rfl,jBj,jTj (VU (by omega)),Int.zero_add,jTj (VU (by omega)),show el V5 [I e] 0=some e from rfl,jBj,jTj (VU (by omega))];by_cases h:e - d>0
  ·have r:=QfL (p:=f) (u:=e - d) (by omega) (by omega);rw[jTj h,jTj h,jTj (VU (by omega)),jTj (VU (by omega)),jTj (Qdd (by decide) (by simp)),jTj (VU (by decide))];rfl
  ·rw[jFj h,jFj h,jTj (VU (by decide))];rfl
 rw[W8 l];by_cases h:e - d>0
 ·rw[jTj h,jTj h];have b:Wg (k+2) [Vf x] [I e] [I d] f (x.1*d - f*(e - d),1,[.agg [I 0,I (e - d)]])=some (.inr (x.1*d - f*(e - d),[.agg [I 0,I (e - d)]])):=by unfold Wg;dsimp only;rw[jFj (by simp)]
  rw[ZP b];rfl
 ·rw[jFj h,jFj h];have b:Wg (k+2) [Vf x] [I e] [I d] f (x.1*d,1,[])=some (.inr (x.1*d,[])):=by unfold Wg;dsimp only;rw[jFj (by simp)]
  rw[ZP b];rfl
def KL:List Qr->Int
 | []=>0
 | x::r=>x.2+KL r
def Feas (m:Int):List Qr->Int->List Int->Int->Prop
 | [],lv,a,lf=>a=[]/\lf=lv
 | x::r,lv,a,lf=>∃u t,a=u::t/\0<=u/\u<=m/\u<=lv+x.2/\Feas m r (lv+x.2 - u) t lf
theorem yO:∀{qs:List Qr},OkQ qs->0<=KL qs
 | [],_=>Int.le_refl _
 | x::r,h=>by obtain⟨b,a⟩:=uu h;have:=yO a;unfold KL;omega
theorem Qeg {S m:Int}(d:0<=m):∀{qs:List Qr},OkQ qs->∀{lv:Int},0<=lv->lv+KL qs<=S->Feas m qs lv (bst S m qs lv).1 (bst S m qs lv).2.2.1/\(bst S m qs lv).2.2.2=0
 | [],_,lv,_,_=>⟨⟨rfl,rfl⟩,rfl⟩
 | x::r,hq,lv,h1,h2=>by
  obtain⟨i,f⟩:=uu hq;have j:=yO f;unfold KL at h2;have hc:=Qag (x:=x) d h1 i.2.1;obtain⟨⟨k,l⟩,_⟩:=UB m (lv+x.2);have c:∀u,0<=u->u<=Zv m (lv+x.2)->Feas m (x::r) lv (Vv S (bst S m r) x lv u).1 (Vv S (bst S m r) x lv u).2.2.1/\(Vv S (bst S m r) x lv u).2.2.2=0:=fun u a b=>by
   have e:Zv (lv+x.2 - u) S=lv+x.2 - u:=by rw[GS];omega
   obtain⟨g,h⟩:=Qeg (S:=S) d f (lv:=lv+x.2 - u) (by omega) (by omega);unfold Vv;rw[e];dsimp only;exact⟨⟨u,_,rfl,a,by omega,by omega,g⟩,by rw[h];omega⟩
  exact wP (P:=fun b=>Feas m (x::r) lv b.1 b.2.2.1/\b.2.2.2=0) _ _ _ (c 0 (by omega) hc) fun u a b=>c u (by omega) (by omega)
def onm (j:Nat):Wrd:=111::Lib.itoa (j:Int)
theorem uG {j:Nat}(h:j<10):Lib.itoa (j:Int)=[UInt8.ofNat (48+j)]:=by rw[Ed (by omega),jtj,Lib.decDigits,dif_pos h]
theorem QhG {j:Nat}(h:j<10):Yw (mkS (onm j))=true/\(onm j).length<=4:=by
 unfold onm;rw[uG h];match j,h with
 | 0,_=>decide
 | 1,_=>decide
 | 2,_=>decide
 | 3,_=>decide
 | 4,_=>decide
 | 5,_=>decide
 | 6,_=>decide
 | 7,_=>decide
 | 8,_=>decide
 | 9,_=>decide
theorem Qi0 {i j:Nat}(d:i<10)(e:j<10)(h:mkS (onm i)=mkS (onm j)):i=j:=by have a:=QhQ.1 h;unfold onm at a;have c:Lib.itoa (i:Int)=Lib.itoa (j:Int):=List.tail_eq_of_cons_eq a;have b:=uv (n:=(i:Int)) (by omega) (by omega);rw[c,uv (by omega) (by omega)] at b;simp at b;omega
def NmD (i:Nat)(os:List Off):Prop:=∀s,s∈nmO os->∃j,j<i/\s=mkS (onm j)
theorem Qi5 {i:Nat}(b:i<10){os:List Off}(h:NmD i os):mkS (onm i)∉nmO os:=fun c=>by obtain⟨j,d,a⟩:=h _ c;have:=Qi0 b (by omega) a;omega
def sumB:List Off->Int
 | []=>0
 | o::l=>Gr o+sumB l
theorem Qln:∀(a b:List Off),sumB (a++b)=sumB a+sumB b
 | [],b=>by show sumB b=0+sumB b;omega
 | o::a,b=>by show Gr o+sumB (a++b)=Gr o+sumB a+sumB b;rw[Qln a b];omega
structure OfD (i k:Nat) (os:List Off):Prop where
 len:os.length=i
 pl:∀(j:Nat) (o:Off),os[j]?=some o->o.1=mkS (onm j)/\o.2.2.1=10*(j:Int)+20/\(k<=j->o.2.2.2.2.2.2=false)/\okO o
theorem Ql5 {i k:Nat}{os:List Off}(h:OfD i k os):NmD i os:=fun s c=>by obtain⟨o,b,rfl⟩:=List.mem_map.1 (show s∈os.map fun x=>x.1 from c);obtain⟨j,a⟩:=List.mem_iff_getElem?.1 b;have d:=(jGj a).1;have e:=h.len;exact⟨j,by omega,(h.pl j o a).1⟩
theorem QlR {i:Nat}{os:List Off}(h:OfD i 0 os){f e p v:Int}(d:1<=e/\e<=1000)(hp:0<=p/\p<=1000)(k:0<=v/\v<=e):OfD (i+1) 0 (os++[(mkS (onm i),f,10*(i:Int)+20,e,p,v,false)]):=by
 refine⟨by rw[jaj,h.len];rfl,fun j o a=>?_⟩;by_cases b:j<i
 ·rw[List.getElem?_append_left (by rw[h.len];exact b)] at a;exact h.pl j o a
 ·have g:=(jGj a).1;rw[jaj,h.len,List.length_singleton] at g;have c:j=i:=by omega
  subst c;rw[List.getElem?_append_right (by rw[h.len];exact jLj _),h.len,Nat.sub_self] at a;cases a;exact⟨rfl,rfl,fun _=>rfl,d,hp,k⟩
structure OfI (i:Nat) (lv mo:Int) (c:List Ev) (r:Reg):Prop where
 ex:∃z t l li he os,JD c r z t l true false li he 0 os/\z<=4+3*i/\(0<=t/\t<=10*(i:Int))/\(0<=l/\l<=30)/\he+gnD true l (10*(i:Int) - t)=1000000*lv/\(0<=li/\li+gnD true l (10*(i:Int) - t)<=30000000*(i:Int))/\OfD i 0 os/\sumB os=mo
def OfA (n i:Nat)(lv mo e p v:Int)(c:List Ev)(r:Reg):Prop :=
 OfI (i+1) lv (mo+(p*v - 2*p*(e - v))) c r /\
 QW n (c.map Q5) (c.map Q5) r.tick r.level r.filled r.tripped r.light r.heat r.money (r.sectors.map Sd) (r.mirrors.map Q1) (r.offers.map Zs)=some (c.map Q5)/\Wf n (c.map Q5) (mkS (onm i))=some (e - v,0)/\Vp n (c.map Q5) (mkS (onm i))=some (p*v - 2*p*(e - v),0)
theorem Ql4 {n:Nat}(g:3000<=n){i:Nat}(y:i<6){c:List Ev}{r:Reg}{z:Nat}(s:z<=90){t l x q f u e p v:Int}{os:List Off}(h:JD c r z t l true false x q 0 (os++[(mkS (onm i),f,u,e,p,v,false)]))(d:OfD i 0 os) :
  QW n (c.map Q5) (c.map Q5) r.tick r.level r.filled r.tripped r.light r.heat r.money (r.sectors.map Sd) (r.mirrors.map Q1) (r.offers.map Zs)=some (c.map Q5)/\Wf n (c.map Q5) (mkS (onm i))=some (e - v,0)/\Vp n (c.map Q5) (mkS (onm i))=some (p*v - 2*p*(e - v),0):=by
 obtain⟨k,A,m⟩:=Qdx (os:=os) (o:=(mkS (onm i),f,u,e,p,v,false)) (Qi5 (by omega) (Ql5 d));have j:r.offers=os++[(mkS (onm i),f,u,e,p,v,false)]:=by rw[h.2.2];rfl
 have b:c.length<=90:=by rw[h.2.1];exact s
 have a:=QfU g h.1;refine⟨uF g h.1 b _ _ _ _ _ _ _ _ _ _ _,?_,?_⟩
 ·rw[QdL (by omega) c (by omega) a,h.1.rep];dsimp only;rw[h.1.reg,j,k,m,jTj (show QD (!true) 10=0 from rfl)];rfl
 ·rw[QeN (by omega) c (by omega) a,h.1.rep];dsimp only;rw[h.1.reg,j,k,m,jTj (show QD (!true) 10=0 from rfl)];rfl
theorem Qmh {n:Nat}(j:3000<=n){i:Nat}(K:i<6){lv mo:Int}(Y:0<=lv/\lv<=60){c:List Ev}{r:Reg}(h:OfI i lv mo c r){w e p v:Int}(M:0<=w/\w<=30)(he:1<=e/\e<=30)(hp:0<=p/\p<=1000)(hv:0<=v/\v<=e)(Z:v<=lv+w){N O P:jSj}
  (y:N=mkS (Vs .sun [] [10*(i:Int),w])) (A:O=mkS (Vs .offer [onm i] [10*(i:Int),10*(i:Int)+10,10*(i:Int)+20,e,p])) (C:P=mkS (Vs .deliver [onm i] [10*(i:Int)+10,v])) :
  ∃m q g k,zx n N c r 0 m q/\zx n O m q 0 g k/\(¬v>0->OfA n i (lv+w - v) mo e p v g k)/\(v>0->∃o s,zx n P g k 0 o s/\OfA n i (lv+w - v) mo e p v o s):=by
 obtain⟨z,t,l,li,hh,os,U,h2,V,h4,W,h6,d,J⟩:=h.ex;have b:=Qi5 (by omega) (Ql5 d);have L:=d.len;have X:0<=gnD true l (10*(i:Int) - t):=Int.mul_nonneg (by omega) (by omega);have a:=Qji w;have x:10*(i:Int)+10 - 10*(i:Int)=10:=by omega
 have F:10*((i+1:Nat):Int) - (10*(i:Int)+10)=0:=by omega
 have G:10*((i+1:Nat):Int) - 10*(i:Int)=10:=by omega
 obtain⟨m,q,H,S⟩:=Qhr j U (by omega) (t':=10*(i:Int)) (v:=w) V.2 (by omega) (by omega) ⟨by omega,by omega⟩ y;rw[W] at H;obtain⟨g,k,k1,k2⟩:=Qc4 j H (by omega) (QhG (by omega)) b (by omega) (t':=10*(i:Int)) (f:=10*(i:Int)+10) (u:=10*(i:Int)+20) (e:=e) (p:=p) (Int.le_refl _) (by omega) (by omega) (by omega) (by omega) hp (by rw[Int.sub_self];unfold BkD;rw[Xu];omega) A;rw[Int.sub_self,Xu,Int.add_zero,Int.add_zero] at k1;refine⟨m,q,g,k,S,k2,fun T=>?_,fun T=>?_⟩
 ·have Q:v=0:=by omega
  subst Q;refine⟨⟨_,_,_,_,_,_,k1,by omega,⟨by omega,by omega⟩,M,?_,⟨by omega,?_⟩,QlR d (by omega) hp (by omega),?_⟩,Ql4 j K (by omega) k1 d⟩
  ·rw[G,a];omega
  ·rw[G,a];omega
  ·rw[Qln,J];show mo+(p*0 - 2*p*(e - 0)+0)=_;rw[Int.add_zero]
 ·obtain⟨o,s,E,q2⟩:=ud j k1 (by omega) (QhG (by omega)) b (t':=10*(i:Int)+10) (v:=v) (by omega) (by omega) (by omega) (by omega) (by rw[x];unfold BkD;omega) (by rw[x];omega) C;rw[x,a,Int.zero_add] at E;refine⟨o,s,q2,⟨_,_,_,_,_,_,E,by omega,⟨by omega,by omega⟩,M,?_,⟨by omega,?_⟩,QlR d (by omega) hp (by omega),?_⟩,Ql4 j K (by omega) E d⟩
  ·rw[F,Xu];omega
  ·rw[F,Xu];omega
  ·rw[Qln,J];show mo+(p*v - 2*p*(e - v)+0)=_;rw[Int.add_zero]
structure BlI (L j:Nat) (hh mo:Int) (c:List Ev) (r:Reg):Prop where
 ex:∃z t l li m os,JD c r z t l false false li (1000000*hh) m os/\z<=5+3*L+j/\(0<=t/\t<=10*(L:Int)+10)/\(0<=li/\li<=30000000*(L:Int))/\OfD L j os/\m+sumB (os.drop j)=mo
theorem Qmi {n:Nat}(v:3000<=n){L:Nat}(E:L<=6){lv mo:Int}(u:0<=lv/\lv<=60){c:List Ev}{r:Reg}(h:OfI L lv mo c r){s:jSj}(x:s=mkS (Vs .park [[97]] [10*(L:Int)])):∃a b,zx n s c r 0 a b/\BlI L 0 lv mo a b:=by obtain⟨z,t,l,y,q,os,f,A,g,C,i,j,m,o⟩:=h.ex;have p:0<=gnD true l (10*(L:Int) - t):=Int.mul_nonneg (by omega) (by omega);obtain⟨a,b,d,e⟩:=QbW v f (by omega) (k:=.park) (by decide) (ns:=[[97]]) (t':=10*(L:Int)) (vs:=[]) ⟨rfl,rfl,nm_1 (by decide),vl_1 (by omega)⟩ g.2 ⟨by omega,by omega⟩ rfl rfl (t2:=10*(L:Int)) (l2:=l) (on2:=false) (tr2:=false) (li2:=y+gnD true l (10*(L:Int) - t)) (he2:=q+gnD true l (10*(L:Int) - t)) (mo2:=0) (os2:=os) rfl x;rw[i] at d;exact⟨a,b,e,_,_,_,_,_,_,d,by omega,by omega,⟨by omega,j.2⟩,m,by rw[List.drop_zero,o,Int.zero_add]⟩
theorem Qmw {L k j:Nat}(q:L<=6){os:List Off}(h:OfD L k os){o:Off}(b:os[j]?=some o):pos (nmO os) o.1=some j:=by have n:o.1∈nmO os:=List.mem_map.2 ⟨o,jgj b,rfl⟩;have p:=pos_mem.2 n;have m:=(jGj b).1;have e:=h.len;obtain⟨i,d⟩:=Option.isSome_iff_exists.1 p;obtain⟨g,a⟩:=uq d;rw[Wy] at g;unfold nmO at a;rw[List.getElem?_map] at a;have f:os[i]?=some os[i]:=jej g;rw[f] at a;have c:(os[i]).1=o.1:=Option.some.inj a;rw[(h.pl i _ f).1,(h.pl j _ b).1] at c;have l:=Qi0 (by omega) (by omega) c;rw[d,l]
theorem Qmj {n:Nat}(W:3000<=n){L j:Nat}(T:L<=6)(hj:j<L){lv mo:Int}(V:0<=lv/\lv<=60){c:List Ev}{r:Reg}(h:BlI L j lv mo c r){s:jSj}(X:s=mkS (Vs .bill [onm j] [10*(L:Int)+10])):∃e p,zx n s c r 0 e p/\BlI L (j+1) lv mo e p:=by
 obtain⟨z,t,l,A,m,os,O,h2,P,Q,f,v⟩:=h.ex;have b:=f.len;have d:os[j]?=some (os[j]'(by omega)):=jej (by omega);generalize os[j]'(by omega)=o at d;obtain⟨C,E,Y,Z⟩:=f.pl j o d;have hp:=Qmw T f d;rw[C] at hp;have x:iO os (mkS (onm j))=j:=by unfold iO;rw[hp];rfl
 have a:oAt os (mkS (onm j))=o:=by unfold oAt;rw[x,List.getD_eq_getElem?_getD,d];rfl
 obtain⟨e,p,M,N⟩:=QbW W O (by omega) (k:=.bill) (by decide) (ns:=[onm j]) (t':=10*(L:Int)+10) (vs:=[]) ⟨rfl,rfl,nm_1 (QhG (by omega)),vl_1 (by omega)⟩ P.2 ⟨by rw[Ui];omega,by rw[Ui];omega⟩
  (by show QD (!ZG (nmO os) (mkS (onm j))) 10=0;unfold ZG;rw[hp];rfl)
  (by show QK [QD (oAt os (mkS (onm j))).2.2.2.2.2.2 23,QD (decide (10*(L:Int)+10<(oAt os (mkS (onm j))).2.2.1)) 32]=0;rw[a,Y (jLj j),E,jEj (by omega)];rfl)
  (t2:=10*(L:Int)+10) (l2:=l) (on2:=false) (tr2:=false) (li2:=A) (he2:=1000000*lv) (mo2:=m+Gr o) (os2:=os.set j (zp o))
  (by rw[Ui,Int.add_zero,Int.add_zero];show G5 (10*(L:Int)+10) l false false A (1000000*lv) (m+Gr (oAt os (mkS (onm j)))) (os.set (iO os (mkS (onm j))) (zp (oAt os (mkS (onm j)))))=_;rw[a,x]) X
 refine⟨e,p,N,_,_,_,_,_,_,M,by omega,by omega,Q,⟨by rw[List.length_set,b],fun i q g=>?_⟩,?_⟩
 ·by_cases u:i=j
  ·subst u;rw[List.getElem?_set_self (by omega)] at g;cases g;exact⟨C,E,fun y=>absurd y (by omega),Z⟩
  ·rw[List.getElem?_set_ne (by omega)] at g;obtain⟨F,G,H,J⟩:=f.pl i q g;exact⟨F,G,fun y=>H (by omega),J⟩
 ·have U:os.drop j=o::os.drop (j+1):=by obtain⟨b1,K⟩:=jGj d;rw[List.drop_eq_getElem_cons b1,K]
  rw[U] at v;rw[List.drop_set_of_lt (by omega)];have S : m+(Gr o+sumB (os.drop (j+1)))=mo:=v;omega
def OkP (qs:List Qr):Prop:=∀x,x∈qs->(0<=x.1/\x.1<=1000)/\(0<=x.2/\x.2<=30)
theorem Qbb {qs:List Qr}(h:OkP qs):OkQ qs:=fun x a=>⟨by have:=(h x a).1;omega,(h x a).2⟩
theorem qP (n:Nat)(x b a:Int):Zq n x b a=some (inR x b a):=by
 unfold Zq Qm inR;by_cases h:x<b
 ·simp[h]
 ·by_cases c:x>a
  ·simp[h,c]
  ·simp[h,c]
def qeG (x:Qr):Int:=QK [inR x.1 (-100000) 100000,inR x.2 0 30]
theorem QhB {x:Qr}(h:qeG x=0):(-100000<=x.1/\x.1<=100000)/\(0<=x.2/\x.2<=30):=⟨WS.1 (Zl h _ (by simp)),WS.1 (Zl h _ (by simp))⟩
theorem kP {n:Nat}(t:100<=n){qs:List Qr}(q:qs.length<=8):∀(a:List Qr) (i k:Nat),qs.drop i=a->i<=qs.length->a.length<k ->
  ∃e,QU (ZB n (qs.map Vf)) k (i:Int)=some e/\(e=.inr ()->OkQ a)/\∀v,e=.inl v->v≠0
 | _,_,0,_,_,h=>absurd h (by omega)
 | [],i,k+1,hd,hi,_=>by have r:=List.drop_eq_nil_iff.1 hd;refine⟨.inr (),ZP ?_,fun _ x b=>(by cases b),fun v g=>(by cases g)⟩;unfold ZB;rw[jFj (by rw[jlj];omega)]
 | x::a,i,k+1,hd,hi,hk=>by
  have b:qs[i]?=some x:=by have:=congrArg List.head? hd;rwa [List.head?_drop] at this
  have d : qs.drop (i+1)=a:=by rw[<-List.drop_drop,hd];rfl
  have s:=(jGj b).1;have l:Qi n [I (inR x.1 (-100000) 100000),I (inR x.2 0 30)]=some (qeG x):=Qdi (n:=n) [inR x.1 (-100000) 100000,inR x.2 0 30] (by simp) (by show 2<n;omega);by_cases c:qeG x=0
  ·obtain⟨e,m,o,p⟩:=kP t q a (i+1) k d (by omega) (by simpa using hk);refine⟨e,(W8 ?_).trans m,fun f=>?_,p⟩
   ·unfold ZB;rw[jTj (ZF b),UG unQ b,jBj,qP,jBj,qP,jBj,l,jBj,jTj c,jTj (VU (by omega))];rfl
   ·intro y j;obtain rfl|j:=List.mem_cons.1 j
    ·exact QhB c
    ·exact o f y j
  ·refine⟨.inl (qeG x),ZP ?_,fun f=>(by cases f),fun v g=>(by cases g;exact c)⟩;unfold ZB;rw[jTj (ZF b),UG unQ b,jBj,qP,jBj,qP,jBj,l,jBj,jFj c]
theorem Qgt {n:Nat}(f:100<=n){qs:List Qr}(d:qs.length<=8):∃e,Vh n (qs.map Vf)=some e/\(e=0->OkQ qs):=by
 obtain⟨e,a,b,c⟩:=kP f d qs 0 n rfl (Nat.zero_le _) (by omega);unfold Vh;rw[jFj (by rw[jlj];omega),show(0:Int)=((0:Nat):Int) from rfl,a,jBj];cases e with
 | inl v=>exact⟨v,rfl,fun h=>absurd h (c v rfl)⟩
 | inr u=>exact⟨0,rfl,fun _=>b rfl⟩
theorem yp {n:Nat}(r:100<=n){qs:List Qr}(o:qs.length<=6)(l:OkQ qs):∀(a pre:List Qr) (k:Nat) (h:Int),qs=pre++a->(0<=h/\h<=30*(pre.length:Int))->a.length<k ->
  ∃e,QU (Zm n (qs.map Vf)) k (h,(pre.length:Int),pre.map Vf)=some e/\(e=.inl ()\/e=.inr (h+KL a,qs.map Vf)/\OkP a)
 | _,_,0,_,_,_,hk=>absurd hk (by omega)
 | [],pre,k+1,h,hd,hh,_=>by
  rw[List.append_nil] at hd;refine⟨.inr (h,pre.map Vf),ZP ?_,.inr ⟨?_,fun x b=>(by cases b)⟩⟩
  ·unfold Zm;dsimp only;rw[jFj (by rw[jlj,hd];omega)]
  ·rw[hd];unfold KL;rw[Int.add_zero]
 | x::a,pre,k+1,h,hd,hh,hk=>by
  have b:qs[pre.length]?=some x:=by rw[hd,List.getElem?_append_right (jLj _),Nat.sub_self];rfl
  have f:=l x (jgj b);have q:=(jGj b).1;have p:(pre.map Vf).length=pre.length:=jlj _;by_cases d:x.1<0
  ·refine⟨.inl (),ZP ?_,.inl rfl⟩;unfold Zm;dsimp only;rw[jTj (ZF b),UG unQ b,jBj,jTj d]
  by_cases j:x.1>1000
  ·refine⟨.inl (),ZP ?_,.inl rfl⟩;unfold Zm;dsimp only;rw[jTj (ZF b),UG unQ b,jBj,jFj d,jTj j]
  obtain⟨e,i,c⟩:=yp r o l a (pre++[x]) k (h+x.2) (by rw[hd];simp) (by rw[jaj,List.length_singleton];omega) (by simpa using hk);rw[jaj,List.length_singleton] at i;refine⟨e,(W8 ?_).trans i,?_⟩
  ·unfold Zm;dsimp only;rw[jTj (ZF b),UG unQ b,jBj,jFj d,jFj j,jTj (VU (by omega)),jTj (Qdd (by decide) (by omega)),jTj (VU (by omega)),List.map_append];rfl
  ·obtain c|⟨c,m⟩:=c
   ·exact .inl c
   ·refine .inr ⟨?_,fun y g=>?_⟩
    ·rw[c];show Sum.inr (h+x.2+KL a,qs.map Vf)=Sum.inr (h+(x.2+KL a),qs.map Vf);rw[Int.add_assoc]
    ·obtain rfl|g:=List.mem_cons.1 g
     ·exact⟨by omega,f.2⟩
     ·exact m y g
structure OkA (qs:List Qr):Prop where
 ok:OkP qs
 len:1<=qs.length/\qs.length<=6
 sum:KL qs<=60
theorem Qdl {n:Nat}(d:100<=n)(qs:List Qr):∃t,VL n (qs.map Vf)=some t/\(t.2=true->t.1=qs.map Vf/\OkA qs):=by
 unfold VL;by_cases k:qs.length<1
 ·exact⟨([],false),by rw[jTj (by rw[jlj];omega)],fun h=>(by cases h)⟩
 by_cases l:qs.length>6
 ·exact⟨([],false),by rw[jFj (by rw[jlj];omega),jTj (by rw[jlj];omega)],fun h=>(by cases h)⟩
 obtain⟨e,g,i⟩:=Qgt d (qs:=qs) (by omega);rw[jFj (by rw[jlj];omega),jFj (by rw[jlj];omega),g,jBj];by_cases b:e=0
 ·obtain⟨f,k1,a⟩:=yp d (qs:=qs) (by omega) (i b) qs [] n 0 rfl (by simp) (by omega);rw[jTj b];have c : QU (Zm n (qs.map Vf)) n (0,0,[])=some f:=k1;rw[c,jBj];obtain a|⟨a,j⟩:=a
  ·rw[a];exact⟨([],false),rfl,fun h=>(by cases h)⟩
  ·rw[a];refine⟨(qs.map Vf,decide (0+KL qs<=60)),rfl,fun h=>⟨rfl,j,by omega,?_⟩⟩;have:=of_decide_eq_true h;omega
 ·exact⟨([],false),by rw[jFj b],fun h=>(by cases h)⟩
theorem QQ (l:List UInt8):(⟨l.toArray⟩:jSj).size=l.length:=Qp l
theorem EV {s:jSj}{l:Wrd}(h:s.data.toList=l):s=mkS l:=by rw[<-h,UA]
theorem Jm {a:Int}(h:0<=a/\a<=999999999):(Lib.itoa a).length<=9:=qa (by omega) (by omega)
theorem Qjz (a b:Int):(((⟨#[115,117,110,32]⟩:jSj)++mkS (Lib.itoa a))++(⟨#[32]⟩:jSj))++mkS (Lib.itoa b)=mkS (Vs .sun [] [a,b]) :=
 EV (by simp[ByteArray.data_append,mkS,Vs,kw,Lib.join_cons,Lib.joinTail])
theorem Qfs (i:Nat)(a b c d e:Int):(((((((((((⟨#[111,102,102,101,114,32]⟩:jSj)++((⟨#[111]⟩:jSj)++mkS (Lib.itoa (i:Int))))++(⟨#[32]⟩:jSj))++mkS (Lib.itoa a))++(⟨#[32]⟩:jSj))++mkS (Lib.itoa b))++(⟨#[32]⟩:jSj))++mkS (Lib.itoa c))++(⟨#[32]⟩:jSj))++mkS (Lib.itoa d))++(⟨#[32]⟩:jSj))++mkS (Lib.itoa e)=mkS (Vs .offer [onm i] [a,b,c,d,e]) :=
 EV (by simp[ByteArray.data_append,mkS,Vs,kw,onm,Lib.join_cons,Lib.joinTail])
theorem Qa5 (i:Nat)(a b:Int):(((((⟨#[100,101,108,105,118,101,114,32]⟩:jSj)++((⟨#[111]⟩:jSj)++mkS (Lib.itoa (i:Int))))++(⟨#[32]⟩:jSj))++mkS (Lib.itoa a))++(⟨#[32]⟩:jSj))++mkS (Lib.itoa b)=mkS (Vs .deliver [onm i] [a,b]) :=
 EV (by simp[ByteArray.data_append,mkS,Vs,kw,onm,Lib.join_cons,Lib.joinTail])
theorem Qmz (i:Nat):(⟨#[111]⟩:jSj)++mkS (Lib.itoa (i:Int))=mkS (onm i):=EV (by simp[ByteArray.data_append,mkS,onm])
end Go.Proofs.YthdghjjahodkaaaGreatDoor
