/- Own texts. -/
import Derived.Test.YthdghjjahodkaaaGreatDoorAn5
import Derived.Test.YthdghjjahodkaaaGreatDoorSxTwentyFive
import Derived.Lib.Bytealg
import Derived.Lib.ItoaNum
import Derived.Lib.SlTrimSet
import Derived.Lib.Join
import Derived.KernelRfl
set_option linter.unusedSimpArgs false
set_option linter.unusedVariables false
set_option linter.unnecessarySimpa false
set_option maxRecDepth 20000
namespace Go.Proofs.YthdghjjahodkaaaGreatDoor
open Go.SX
abbrev Sd (b:jSj):D:=.v (.string b)
def mkS (l:List UInt8):jSj:=⟨l.toArray⟩
theorem UA (s:jSj):mkS s.data.toList=s:=by cases s;simp[mkS]
theorem VN (l:List UInt8):(mkS l).data.toList=l:=by simp[mkS]
theorem dlen (s:jSj):s.data.toList.length=s.size:=by cases s;rfl
theorem QfQ (s:jSj):∀(m i:Nat) (r:List UInt8),i+m=s.size->ByteArray.toList.loop s i r=r.reverse++s.data.toList.drop i
 | 0,i,r,h=>by rw[ByteArray.toList.loop,jFj (by omega),List.drop_eq_nil_of_le (by rw[dlen];omega),List.append_nil]
 | m+1,i,r,h=>by
  have c:i<s.data.toList.length:=by rw[dlen];omega
  rw[ByteArray.toList.loop,jTj (by omega),QfQ s m (i+1) _ (by omega),List.reverse_cons,List.append_assoc];congr 1
  rw[List.drop_eq_getElem_cons c];have:s.get! i=s.data.toList[i]:=by
   cases s with
   | mk a =>
    simp only[ByteArray.get!];have b : i<a.size:=c;rw[getElem!_pos a i b];simp
  rw[this];rfl
theorem qL (s:jSj):s.toList=s.data.toList:=by unfold ByteArray.toList;rw[QfQ s s.size 0 [] (by omega)];rfl
theorem Qd7 {a b:jSj}(h:a.data.toList=b.data.toList):a=b:=by rw[<-UA a,<-UA b,h]
theorem beqS (a b:jSj):(a.toList==b.toList)=decide (a=b):=by rw[Bool.eq_iff_iff,beq_iff_eq,decide_eq_true_eq,qL,qL];exact⟨Qd7,fun h=>by rw[h]⟩
theorem kq (a:jSj)(l:Array UInt8):((a.toList==(⟨l⟩:jSj).toList)=true)=(a.data.toList=l.toList):=by rw[beqS,decide_eq_true_eq,eq_iff_iff];exact⟨fun h=>by rw[h],fun h=>Qd7 h⟩
def QK:List Int->Int
 | []=>0
 | x::l=>if x=0 then QK l else x
theorem ZF {a b:Type}{f:a->b}{l:List a}{i:Nat}{x:a}(h:l[i]?=some x):(i:Int)<((l.map f).length:Int):=by have:=(jGj h).1;simp;omega
theorem Ei {ms:List Int}{i:Nat}{x:Int}(h:ms[i]?=some x):el V5 (ms.map I) (i:Int)=some x:=UG (un:=V5) (enc:=I) (fun _=>rfl) h
theorem el_S {l:List jSj}{i:Nat}{x:jSj}(h:l[i]?=some x):el Vg (l.map Sd) (i:Int)=some x:=UG (un:=Vg) (enc:=Sd) (fun _=>rfl) h
theorem Zc {a:Type}{un:D->Option a}{enc:a->D}(b:∀x,un (enc x)=some x){l:List a}{i:Nat}{x:a}(h:l[i]?=some x):(nth (l.map enc) (Int.toNat (i:Int))).bind un=some x:=by rw[jtj,U4,List.getElem?_map,h];exact b x
def fG (_:Unit)(x:Int):Unit⊕(Int⊕Unit):=if x=0 then .inl () else .inr (.inl x)
theorem X1:∀(l:List Int),Kw fG (fun _=>.inr ()) l ()=if QK l=0 then .inr () else .inl (QK l)
 | []=>rfl
 | x::l=>by
  unfold Kw fG;by_cases h:x=0
  ·rw[jTj h];simp only[QK,jTj h];exact X1 l
  ·rw[jFj h];simp only[QK,jFj h]
theorem qf {n:Nat}(ms:List Int)(d:ms.length<9223372036854775807)(b:ms.length<n):Qi n (ms.map I)=some (QK ms):=by
 unfold Qi;have:=Vr (step:=Q6 n (ms.map I)) fG (fun _=>.inr ()) (fun i _=>(i:Int)) ms (fun _ _=>True)
  (fun i s x a _=>by
   unfold fG Q6;have c:=(jGj a).1;by_cases h:x=0
   ·rw[jTj h];refine⟨?_,trivial⟩;rw[jTj (ZF a),Ei a,jBj,jTj h,jTj (by unfold Qg;omega)];rfl
   ·rw[jFj h];dsimp only;rw[jTj (ZF a),Ei a,jBj,jFj h])
  (fun s _=>by unfold Q6;rw[jFj (by simp)]) (s:=()) trivial b
 rw[show(0:Int)=((0:Nat):Int) from rfl,this,X1];by_cases h:QK ms=0
 ·rw[jTj h,h];rfl
 ·rw[jFj h];rfl
theorem Qdi {n:Nat}(ms:List Int)(d:ms.length<9223372036854775807)(b:ms.length<n):Qi n (ms.map I)=some (QK ms):=by
 unfold Qi;have:=Vr (step:=Q6 n (ms.map I)) fG (fun _=>.inr ()) (fun i _=>(i:Int)) ms (fun _ _=>True)
  (fun i s x a _=>by
   unfold fG Q6;have c:=(jGj a).1;by_cases h:x=0
   ·rw[jTj h];refine⟨?_,trivial⟩;rw[jTj (ZF a),Ei a,jBj,jTj h,jTj (by unfold Qg;omega)];rfl
   ·rw[jFj h];dsimp only;rw[jTj (ZF a),Ei a,jBj,jFj h])
  (fun s _=>by unfold Q6;rw[jFj (by simp)]) (s:=()) trivial b
 rw[show(0:Int)=((0:Nat):Int) from rfl,this,X1];by_cases h:QK ms=0
 ·rw[jTj h,h];rfl
 ·rw[jFj h];rfl
theorem W4 {n:Nat}(c:10<=n)(a b:Int):Qi n [I a,I b]=some (QK [a,b]):=qf [a,b] (by simp) (by simp;omega)
theorem uT {n:Nat}(d:10<=n)(a b c:Int):Qi n [I a,I b,I c]=some (QK [a,b,c]):=qf [a,b,c] (by simp) (by simp;omega)
theorem QeV {n:Nat}(e:10<=n)(a b c d:Int):Qi n [I a,I b,I c,I d]=some (QK [a,b,c,d]):=qf [a,b,c,d] (by simp) (by simp;omega)
theorem Zl:∀{l:List Int},QK l=0->∀x,x∈l->x=0
 | [],_,x,hx=>by cases hx
 | y::l,h,x,hx=>by
  unfold QK at h;split at h
  ·rename_i a;cases hx with
   | head=>exact a
   | tail _ hx=>exact Zl h x hx
  ·rename_i a;exact absurd h a
def inR (x b a:Int):Int:=if x<b then 3 else if x>a then 3 else 0
def QD (b:Bool)(e:Int):Int:=if b then e else 0
theorem YR (n:Nat)(x b a:Int):ZJ n x b a=some (inR x b a):=by
 unfold ZJ JH Qm inR;by_cases h:x<b
 ·simp[h]
 ·by_cases c:x>a
  ·simp[h,c]
  ·simp[h,c]
theorem WS {x b a:Int}:inR x b a=0↔b<=x/\x<=a:=by
 unfold inR;constructor
 ·intro h;repeat' split at h
  all_goals omega
 ·intro h;rw[jFj (by omega),jFj (by omega)]
theorem QeR (x b a:Int):inR x b a=0\/inR x b a=3:=by
 unfold inR;repeat' split
 all_goals simp
theorem QR (n:Nat)(b:Bool)(e:Int):Qm n b e=some (QD b e):=by unfold Qm QD;cases b<;>rfl
def Kf (s:jSj)(i:Nat):Nat:=(s.get! i).toNat
def yG (p c:Nat):Prop:=(97<=c/\c<=122)\/(65<=c/\c<=90)\/(p≠0/\(c=95\/(48<=c/\c<=57)))
instance (p c:Nat):Decidable (yG p c):=by unfold yG;infer_instance
def E4 (s:jSj):Nat->Nat->Bool
 | 0,_=>true
 | m+1,p=>decide (yG p (Kf s p))&&E4 s m (p+1)
theorem Ek {s:jSj}{p:Nat}(h:Kf s p<128):Utf8.decode s p=(Kf s p,1):=by unfold Kf at h ⊢;unfold Utf8.decode;simp only[Nat.add_zero];rw[jTj h]
theorem yl {s:jSj}{p:Nat}(h:¬Kf s p<128):128<=(Utf8.decode s p).1:=by
 unfold Kf at h;unfold Utf8.decode;simp only[Nat.add_zero];rw[jFj h];have a:128<=Utf8.runeError:=by decide
 repeat' split
 all_goals first|exact a|(simp only[jAj,decide_eq_true_eq,ge_iff_le] at *;omega)
theorem Qks (n:Nat){s:jSj}{p:Nat}(h:p<s.size):WI n s p=if yG p (Kf s p) then some (.inl (p+1)) else some (.inr (.inl ())):=by
 unfold WI;rw[jTj h];by_cases b:Kf s p<128
 ·rw[Ek b];dsimp only;generalize Kf s p=c at b ⊢;by_cases a:yG p c
  ·rw[jTj a];unfold yG at a;repeat' split
   all_goals first|rfl|(exfalso;omega)
  ·rw[jFj a];unfold yG at a;repeat' split
   all_goals first|rfl|(exfalso;omega)
 ·have e:=yl b;have d:¬yG p (Kf s p):=by unfold yG;omega
  rw[jFj d];generalize (Utf8.decode s p).1=c at e ⊢;repeat' split
  all_goals first|rfl|(exfalso;omega)
theorem QjD (n:Nat){s:jSj}:∀(m k p:Nat),p+m=s.size->m<k->QU (WI n s) k p=some (if E4 s m p=true then .inr () else .inl ())
 | m,0,p,_,h=>by omega
 | 0,k+1,p,hp,_=>by rw[ZP (e:=.inr ()) (by unfold WI;rw[jFj (by omega)])];rfl
 | m+1,k+1,p,hp,hk=>by
  have a:=Qks n (s:=s) (p:=p) (by omega);by_cases h:yG p (Kf s p)
  ·rw[jTj h] at a;rw[W8 a,QjD n m k (p+1) (by omega) (by omega)];simp[E4,h]
  ·rw[jFj h] at a;rw[ZP a];simp[E4,h]
def Yw (s:jSj):Bool:=decide (s.size≠0)&&decide (s.size<=24)&&E4 s s.size 0
theorem QdJ (s:jSj):∀(m i:Nat) (r:List UInt8),i+m=s.size->(ByteArray.toList.loop s i r).length=r.length+m
 | 0,i,r,h=>by rw[ByteArray.toList.loop,jFj (by omega),List.length_reverse];rfl
 | m+1,i,r,h=>by rw[ByteArray.toList.loop,jTj (by omega),QdJ s m (i+1) _ (by omega),List.length_cons];omega
theorem XX (s:jSj):s.toList.length=s.size:=by unfold ByteArray.toList;rw[QdJ s s.size 0 [] (by omega)];simp
theorem QfH (s:jSj):(s.toList==(⟨#[]⟩:jSj).toList)=decide (s.size=0):=by
 rw[Bool.eq_iff_iff,beq_iff_eq,decide_eq_true_eq];constructor
 ·intro h;have a:s.toList.length=0:=by rw[h,XX];rfl
  rw[XX] at a;exact a
 ·intro h;have a:s.toList.length=0:=by rw[XX];exact h
  have b:(⟨#[]⟩:jSj).toList.length=0:=by rw[XX];rfl
  rw[List.eq_nil_of_length_eq_zero a,List.eq_nil_of_length_eq_zero b]
theorem QgI {n:Nat}{s:jSj}(h:s.size<n):Ua n s=some (Yw s):=by
 unfold Ua;rw[show QU (WI n s) n 0=_ from QjD n s.size n 0 (by omega) h,jBj];unfold Yw;by_cases a:E4 s s.size 0=true
 ·rw[jTj a,a];dsimp only;rw[QfH];by_cases b:s.size=0
  ·simp[b]
  ·simp[b];omega
 ·rw[jFj a];simp only[Bool.not_eq_true] at a;rw[a];simp
abbrev Mir:=jSj×jSj×Int×Int×Bool×Bool
abbrev Off:=jSj×Int×Int×Int×Int×Int×Bool
def Q1 (m:Mir):D:=QF m
def Zs (o:Off):D:=Zr o
theorem unM (m:Mir):QV (Q1 m)=some m:=rfl
theorem unO (o:Off):Z4 (Zs o)=some o:=rfl
def isA (m:Mir):Bool:=m.2.2.2.2.2
structure Reg where
 tick:Int
 level:Int
 filled:Bool
 tripped:Bool
 light:Int
 heat:Int
 money:Int
 sectors:List jSj
 mirrors:List Mir
 offers:List Off
def Reg.zero:Reg:=⟨0,0,false,false,0,0,0,[],[],[]⟩
def okM (m:Mir):Prop:=(1<=m.2.2.1/\m.2.2.1<=100)/\(0<=m.2.2.2.1/\m.2.2.2.1<=1000)
def okO (o:Off):Prop:=(1<=o.2.2.2.1/\o.2.2.2.1<=1000)/\(0<=o.2.2.2.2.1/\o.2.2.2.2.1<=1000)/\(0<=o.2.2.2.2.2.1/\o.2.2.2.2.2.1<=o.2.2.2.1)
structure Inv (c:Nat) (r:Reg):Prop where
 tick:0<=r.tick/\r.tick<=999999999
 level:0<=r.level/\r.level<=1000
 light:0<=r.light/\r.light<=1000000000000000
 heat:0<=r.heat/\r.heat<=1000000000000000
 money : -(2000000*(c:Int))<=r.money/\r.money<=2000000*(c:Int)
 secs:r.sectors.length<=8
 lenM:r.mirrors.length<=min c 32
 lenO:r.offers.length<=min c 32
 mirs:∀m,m∈r.mirrors->okM m
 offs:∀o,o∈r.offers->okO o
theorem Qj6 {g c p q:Int}(hp:0<=p)(f : -p<=g/\g<=p)(a:0<=q)(hc : -q<=c/\c<=q) : -(p*q)<=g*c/\g*c<=p*q:=by have h:=Int.natAbs_mul g c;have b:g.natAbs*c.natAbs<=p.natAbs*q.natAbs:=Nat.mul_le_mul (by omega) (by omega);have d:=Int.natAbs_mul p q;have e:0<=p*q:=Int.mul_nonneg hp a;omega
theorem jI {g c p q:Int}(a:0<=g/\g<=p)(hc:0<=c/\c<=q):0<=g*c/\g*c<=p*q :=
 ⟨Int.mul_nonneg a.1 hc.1,(Qj6 (by omega) ⟨by omega,a.2⟩ (by omega) ⟨by omega,hc.2⟩).2⟩
def term (lv:Int)(m:Mir):Int:=if isA m=true then m.2.2.1*(1000 - m.2.2.2.1)*lv else 0
def Xl (lv:Int):List Mir->Int
 | []=>0
 | m::l=>term lv m+Xl lv l
def zP (r:Reg):Int:=Xl r.level r.mirrors
theorem ua {lv:Int}(d:0<=lv/\lv<=1000){m:Mir}(e:okM m):(0<=m.2.2.1*(1000 - m.2.2.2.1)/\m.2.2.1*(1000 - m.2.2.2.1)<=100000)/\(0<=m.2.2.1*(1000 - m.2.2.2.1)*lv/\m.2.2.1*(1000 - m.2.2.2.1)*lv<=100000000)/\(0<=term lv m/\term lv m<=100000000):=by obtain⟨f,h⟩:=e;have a:=jI (g:=m.2.2.1) (c:=1000 - m.2.2.2.1) (p:=100) (q:=1000) (by omega) (by omega);have b:=jI (g:=m.2.2.1*(1000 - m.2.2.2.1)) (c:=lv) (p:=100000) (q:=1000) (by omega) d;refine⟨by omega,by omega,?_⟩;unfold term;split<;>omega
theorem jC {lv:Int}(a:0<=lv/\lv<=1000):∀{l:List Mir},(∀m,m∈l->okM m)->0<=Xl lv l/\Xl lv l<=100000000*(l.length:Int)
 | [],_=>by simp[Xl]
 | m::l,h=>by have c:=(ua a (h m jMj)).2.2;have d:=jC a (l:=l) fun x b=>h x (jmj _ b);simp only[Xl,List.length_cons];omega
def rG (lv:Int)(s:Int)(m:Mir):Int⊕Int:=.inl (s+term lv m)
theorem jA (lv:Int):∀(l:List Mir) (s:Int),Kw (rG lv) (fun s=>s) l s=s+Xl lv l
 | [],s=>by simp[Kw,Xl]
 | m::l,s=>by unfold Kw rG;simp only;have:=jA lv l (s+term lv m);unfold rG at this;rw[this];simp only[Xl];omega
theorem Qfz {n:Nat}(f g:jVj)(h lv:Int)(j l:Bool)(o p q:Int)(r b:jVj)(u:0<=lv/\lv<=1000)(ms:List Mir)(c:∀m,m∈ms->okM m)(t:ms.length<=992)(C:1700<=n):WM n f g h lv j l o p q r (ms.map Q1) b=some (Xl lv ms):=by
 unfold WM;have:=Vr (step:=Z5 n f g h lv j l o p q r (ms.map Q1) b) (rG lv) (fun s=>s) (fun i s=>(((i:Int),s):Int×Int)) ms (fun i s=>0<=s/\s<=100000000*(i:Int))
  (fun i s m a E=>by
   have A:=(jGj a).1;obtain⟨b1,y,z⟩:=ua u (c m (jgj a));unfold rG;refine⟨?_,?_⟩
   ·unfold Z5;dsimp only;rw[jTj (ZF a),jTj ⟨Int.natCast_nonneg i,ZF a⟩,Zc unM a,jBj];unfold term isA;by_cases d:m.2.2.2.2.2=true
    ·rw[jTj d,jTj d,jTj (by unfold Qg;have:=(c m (jgj a)).2;omega),jTj (by unfold Qg;omega),jTj (by unfold Qg;omega),jTj (by unfold Qg;omega),jTj (by unfold Qg;omega)];rfl
    ·rw[jFj d,jFj d,jTj (by unfold Qg;omega),Int.add_zero];rfl
   ·simp only[Int.natCast_add,Int.natCast_one];omega)
  (fun s _=>by unfold Z5;dsimp only;rw[jFj (by simp)]) (s:=0) (by simp) (k:=n) (by omega)
 have e:=this;rw[jA,Int.zero_add] at e;exact(congrArg (fun x:Option Int=>x.bind fun v=>some v) e)
theorem QhA {n:Nat}(d lv:Int)(f g:Bool)(h j l:Int)(o p:jVj)(r:0<=lv/\lv<=1000)(ms:List Mir)(b:∀m,m∈ms->okM m)(q:ms.length<=992)(z:1700<=n):WX n d lv f g h j l o (ms.map Q1) p=some (Xl lv ms):=by
 unfold WX;have:=Vr (step:=ZL n d lv f g h j l o (ms.map Q1) p) (rG lv) (fun s=>s) (fun i s=>(((i:Int),s):Int×Int)) ms (fun i s=>0<=s/\s<=100000000*(i:Int))
  (fun i s m a A=>by
   have y:=(jGj a).1;obtain⟨b1,u,v⟩:=ua r (b m (jgj a));unfold rG;refine⟨?_,?_⟩
   ·unfold ZL;dsimp only;rw[jTj (ZF a),jTj ⟨Int.natCast_nonneg i,ZF a⟩,Zc unM a,jBj];unfold term isA;by_cases c:m.2.2.2.2.2=true
    ·rw[jTj c,jTj c,jTj (by unfold Qg;have:=(b m (jgj a)).2;omega),jTj (by unfold Qg;omega),jTj (by unfold Qg;omega),jTj (by unfold Qg;omega),jTj (by unfold Qg;omega)];rfl
    ·rw[jFj c,jFj c,jTj (by unfold Qg;omega),Int.add_zero];rfl
   ·simp only[Int.natCast_add,Int.natCast_one];omega)
  (fun s _=>by unfold ZL;dsimp only;rw[jFj (by simp)]) (s:=0) (by simp) (k:=n) (by omega)
 have e:=this;rw[jA,Int.zero_add] at e;exact(congrArg (fun x:Option Int=>x.bind fun t=>some t) e)
def WP (r:Reg)(t:Int):Int:=zP r*(t - r.tick)
def okT (r:Reg)(t:Int):Prop:=r.tick<=t/\t<=999999999
def Gq (r:Reg)(t:Int):Int:=if r.light+WP r t<=1000000000000000/\r.heat+WP r t<=1000000000000000 then 0 else 4
theorem qe {c:Nat}{r:Reg}(d:Inv c r)(hc:c<=992){t:Int}(f:okT r t):(0<=zP r/\zP r<=4000000000)/\(0<=WP r t/\WP r t<=4000000000000000000):=by
 obtain⟨i,j⟩:=f;have h:=d.tick;have l:=d.lenM;have a:0<=zP r/\zP r<=100000000*(r.mirrors.length:Int):=jC d.level d.mirs;have e : 0<=zP r/\zP r<=4000000000:=by omega
 have b:=jI (g:=zP r) (c:=t - r.tick) (p:=4000000000) (q:=1000000000) e (by omega);refine⟨e,?_⟩;unfold WP;omega
theorem Wk {n c:Nat}{evs b:jVj}{r:Reg}(a:Inv c r)(hc:c<=992)(f:1700<=n){t:Int}(d:okT r t):Q9 n t evs b r.tick r.level r.filled r.tripped r.light r.heat r.money (r.sectors.map Sd) (r.mirrors.map Q1) (r.offers.map Zs)=some (r.light+WP r t,r.heat+WP r t):=by obtain⟨b1,g⟩:=qe a hc d;obtain⟨h,i⟩:=d;have j:=a.tick;have l:=a.light;have m:=a.heat;unfold Q9;rw[Qfz _ _ _ _ _ _ _ _ _ _ _ a.level _ a.mirs (by have:=a.lenM;omega) f,jBj,jTj (by unfold Qg;omega)];have e:Xl r.level r.mirrors*(t - r.tick)=WP r t:=rfl;simp only[e];rw[jTj (by unfold Qg;omega),jTj (by unfold Qg;omega),jTj (by unfold Qg;omega)]
theorem Wq {n c:Nat}{r:Reg}(a:Inv c r)(hc:c<=992)(d:1700<=n){t:Int}(b:okT r t):WB n t r.tick r.level r.filled r.tripped r.light r.heat r.money (r.sectors.map Sd) (r.mirrors.map Q1) (r.offers.map Zs)=some (r.light+WP r t,r.heat+WP r t):=by obtain⟨b1,f⟩:=qe a hc b;obtain⟨g,h⟩:=b;have i:=a.tick;have j:=a.light;have l:=a.heat;unfold WB;rw[QhA _ _ _ _ _ _ _ _ _ a.level _ a.mirs (by have:=a.lenM;omega) d,jBj,jTj (by unfold Qg;omega)];have e:Xl r.level r.mirrors*(t - r.tick)=WP r t:=rfl;simp only[e];rw[jTj (by unfold Qg;omega),jTj (by unfold Qg;omega),jTj (by unfold Qg;omega)]
theorem minB (a b m:Int):(!((a==min a m)&&((b==min b m)&&true)))=decide (¬(a<=m/\b<=m)):=by rw[Bool.eq_iff_iff];simp only[Bool.not_eq_true',Bool.and_true,Bool.and_eq_false_iff,beq_eq_false_iff_ne,ne_eq,decide_eq_true_eq];omega
theorem Zd {n c:Nat}{evs b:jVj}{r:Reg}(e:Inv c r)(hc:c<=992)(d:1700<=n){t:Int}(f:okT r t):Qn n t evs b r.tick r.level r.filled r.tripped r.light r.heat r.money (r.sectors.map Sd) (r.mirrors.map Q1) (r.offers.map Zs)=some (Gq r t):=by
 unfold Qn;rw[Wk e hc d f,jBj];dsimp only;rw[QR,jBj,GS,GS,minB];unfold QD Gq;by_cases a:r.light+WP r t<=1000000000000000/\r.heat+WP r t<=1000000000000000
 ·rw[jTj a];simp[a]
 ·rw[jFj a,jTj (jDj a)]
theorem Y4 {b E:Type}{step:Int×jVj->Option (Int×jVj⊕E)}(c:jVj->E)(l:List b)(f:b->jVj)(g:∀x,(f x).length<=1)
  (a:∀(i:Nat) (out:jVj) (x:b),l[i]?=some x->out.length<=i->step ((i:Int),out)=some (.inl (((i+1:Nat):Int),out++f x)))
  (d:∀out:jVj,out.length<=l.length->step ((l.length:Int),out)=some (.inr (c out))) {k:Nat} (j:l.length<k):QU step k (0,[])=some (c (l.flatMap f)):=by
 have:=Vr (step:=step) (E:=E) (fun(s:jVj) (x:b)=>.inl (s++f x)) c (fun i s=>((i:Int),s)) l (fun i s=>s.length<=i)
  (fun i s x n h=>⟨a i s x n h,by rw[jaj];have:=g x;omega⟩)
  (fun s m=>d s m) (k:=k) (s:=[]) (Nat.zero_le _) j
 have e:∀(l:List b) (s:jVj),Kw (E:=E) (fun(s:jVj) (x:b)=>.inl (s++f x)) c l s=c (s++l.flatMap f):=by
  intro l;induction l with
  | nil=>intro s;simp[Kw]
  | cons x l ih =>
   intro s;show Kw (E:=E) (fun(s:jVj) (x:b)=>.inl (s++f x)) c l (s++f x)=_;rw[ih,List.flatMap_cons,List.append_assoc]
 rw[e,List.nil_append] at this;exact this
theorem wQ {a b:Type}(f:a->b)(l:List a):l.flatMap (fun x=>[f x])=l.map f:=by
 induction l with
 | nil=>rfl
 | cons x l ih=>rw[List.flatMap_cons,ih];rfl
theorem UO {b n:Nat}(a:b<=200)(h:n<=5000):Wi b n:=by have c:n*b<=5000*200:=Nat.mul_le_mul h a;show n*b<=140737488355328;omega
def pos:List jSj->jSj->Option Nat
 | [],_=>none
 | x::l,s=>if x=s then some 0 else(pos l s).map (·+1)
def zk (l:List jSj)(s:jSj):Int:=match pos l s with
 | some i=>(i:Int)
 | none=>-1
theorem uq:∀{l:List jSj} {s:jSj} {i:Nat},pos l s=some i->i<l.length/\l[i]?=some s
 | [],s,i,h=>by cases h
 | x::l,s,i,h=>by
  unfold pos at h;split at h
  ·rename_i e;cases h;subst e;exact⟨by simp,rfl⟩
  ·obtain⟨j,b,rfl⟩:=Option.map_eq_some_iff.1 h;obtain⟨c,a⟩:=uq b;exact⟨by simp;omega,by simpa using a⟩
theorem pos_mem:∀{l:List jSj} {s:jSj},(pos l s).isSome=true↔s∈l
 | [],s=>by simp[pos]
 | x::l,s=>by
  unfold pos;by_cases h:x=s
  ·rw[jTj h];simp[h]
  ·rw[jFj h,Option.isSome_map,pos_mem];simp only[List.mem_cons];constructor
   ·exact .inr
   ·rintro(e|e)
    ·exact absurd e.symm h
    ·exact e
theorem QhE {l:List jSj}{s:jSj}:zk l s<0↔¬s∈l:=by
 rw[<-pos_mem];unfold zk;cases pos l s with
 | none=>simp
 | some i=>simp
theorem QiZ {l:List jSj}{s:jSj}:zk l s>=0↔s∈l:=by
 have:=QhE (l:=l) (s:=s);by_cases h:s∈l
 ·have:¬zk l s<0:=fun b=>(this.1 b) h;constructor
  ·exact fun _=>h
  ·intro _;omega
 ·have c:=this.2 h;constructor
  ·intro a;omega
  ·intro a;exact absurd a h
def pG {b:Type}(f:b->jSj)(a:jSj)(s:Nat)(x:b):Nat⊕(Int⊕Unit):=if f x=a then .inr (.inl (s:Int)) else .inl (s+1)
theorem Qc9 {b:Type}(f:b->jSj)(a:jSj):∀(l:List b) (s:Nat),Kw (pG f a) (fun _=>.inr ()) l s=(match pos (l.map f) a with
 | some i=>.inl ((s+i:Nat):Int)
 | none=>.inr ())
 | [],s=>rfl
 | x::l,s=>by
  unfold Kw pG;rw[jCj];unfold pos;by_cases h:f x=a
  ·rw[jTj h,jTj h];rfl
  ·rw[jFj h,jFj h];have:=Qc9 f a l (s+1);unfold pG at this;simp only;rw[this];cases pos (l.map f) a with
   | none=>rfl
   | some i=>simp only[Option.map_some];congr 2;omega
theorem Qkc {n:Nat}(l:List jSj)(s:jSj)(f:l.length<=5000)(b:l.length<n):QU (WE n (l.map Sd) s) n 0=some (match pos (l.map (fun x=>x)) s with
  | some i=>.inl (i:Int)
  | none=>.inr ()):=by
 have:=Vr (step:=WE n (l.map Sd) s) (pG (fun x=>x) s) (fun _=>.inr ()) (fun i (_:Nat)=>(i:Int)) l (fun i t=>t=i)
  (fun i t x a c=>by
   have d:=(jGj a).1;subst c;unfold pG WE;by_cases h:(fun x=>x) x=s
   ·rw[jTj h];dsimp only;rw[jTj (ZF a),el_S a,jBj,jTj (by rw[beqS];exact jDj h.symm)]
   ·rw[jFj h];refine⟨?_,rfl⟩;rw[jTj (ZF a),el_S a,jBj,jFj (by rw[beqS];exact fun e=>h ((of_decide_eq_true e).symm)),jTj (by unfold Qg;omega)];rfl)
  (fun t _=>by unfold WE;rw[jFj (by simp)]) (s:=0) rfl b
 rw[show(0:Int)=((0:Nat):Int) from rfl,this,Qc9];cases pos (l.map (fun x=>x)) s with
 | none=>rfl
 | some i=>simp only[Nat.zero_add]
theorem ZQ {n:Nat}(l:List jSj)(s:jSj)(a:l.length<=5000)(b:l.length<n):QC n (l.map Sd) s=some (zk l s):=by unfold QC zk;rw[Qkc l s a b,jBj,List.map_id'];cases pos l s<;>rfl
def ZG (l:List jSj)(s:jSj):Bool:=(pos l s).isSome
theorem Wp {n:Nat}(l:List jSj)(s:jSj)(a:l.length<=5000)(b:l.length<n):Zf n (l.map Sd) s=some (ZG l s):=by
 unfold Zf;rw[ZQ l s a b,jBj];congr 1
 rw[Bool.eq_iff_iff,decide_eq_true_eq,QiZ];exact pos_mem.symm
def nmM (l:List Mir):List jSj:=l.map fun x=>x.1
def nmO (l:List Off):List jSj:=l.map fun x=>x.1
theorem Zh (l:List Mir):(nmM l).length=l.length:=by unfold nmM;simp
theorem Wy (l:List Off):(nmO l).length=l.length:=by unfold nmO;simp
theorem UE {n:Nat}{d e:jVj}{f g:Int}{h j:Bool}{m o p:Int}{a b:jVj}(l:List Mir)(s:l.length<=4000)(q:l.length<n):Qt n 109 d e f g h j m o p a (l.map Q1) b=some ((nmM l).map Sd):=by
 unfold Qt;have:=Y4 (step:=ZV n d e f g h j m o p a (l.map Q1) b) (E:=jVj) (fun out=>out) l (fun x=>[Sd x.1]) (fun _=>jLj _)
  (fun i out x c t=>by have r:=(jGj c).1;unfold ZV QZ;dsimp only;rw[jTj (ZF c),jTj ⟨Int.natCast_nonneg i,ZF c⟩,Zc unM c,jBj,jBj,jTj (UO (by decide) (by omega)),jTj (by unfold Qg;omega)];rfl)
  (fun out _=>by unfold ZV;dsimp only;rw[jFj (by simp)]) q
 rw[jFj (by decide),jTj rfl,this,jBj,wQ];unfold nmM;rw[List.map_map];rfl
theorem X8 {n:Nat}{d e:jVj}{f g:Int}{h j:Bool}{m o p:Int}{a b:jVj}(l:List Off)(s:l.length<=4000)(q:l.length<n):Qt n 111 d e f g h j m o p a b (l.map Zs)=some ((nmO l).map Sd):=by
 unfold Qt;have:=Y4 (step:=ZU n d e f g h j m o p a b (l.map Zs)) (E:=jVj) (fun out=>out) l (fun x=>[Sd x.1]) (fun _=>jLj _)
  (fun i out x c t=>by have r:=(jGj c).1;unfold ZU ZT;dsimp only;rw[jTj (ZF c),jTj ⟨Int.natCast_nonneg i,ZF c⟩,Zc unO c,jBj,jBj,jTj (UO (by decide) (by omega)),jTj (by unfold Qg;omega)];rfl)
  (fun out _=>by unfold ZU;dsimp only;rw[jFj (by simp)]) q
 rw[jFj (by decide),jFj (by decide),this,jBj,wQ];unfold nmO;rw[List.map_map];rfl
theorem qT {n:Nat}{c d:Int}{e f:Bool}{g h j:Int}{m a:jVj}(l:List Mir)(q:l.length<=4000)(o:l.length<n):QO n 109 c d e f g h j m (l.map Q1) a=some ((nmM l).map Sd):=by
 unfold QO;have:=Y4 (step:=ZE n c d e f g h j m (l.map Q1) a) (E:=jVj) (fun out=>out) l (fun x=>[Sd x.1]) (fun _=>jLj _)
  (fun i out x b r=>by have p:=(jGj b).1;unfold ZE QZ;dsimp only;rw[jTj (ZF b),jTj ⟨Int.natCast_nonneg i,ZF b⟩,Zc unM b,jBj,jBj,jTj (UO (by decide) (by omega)),jTj (by unfold Qg;omega)];rfl)
  (fun out _=>by unfold ZE;dsimp only;rw[jFj (by simp)]) o
 rw[jFj (by decide),jTj rfl,this,jBj,wQ];unfold nmM;rw[List.map_map];rfl
theorem QfK {n:Nat}{b c:Int}{d e:Bool}{f g h:Int}{j m:jVj}(l:List Off)(q:l.length<=4000)(o:l.length<n):QO n 111 b c d e f g h j m (l.map Zs)=some ((nmO l).map Sd):=by
 unfold QO;have:=Y4 (step:=ZD n b c d e f g h j m (l.map Zs)) (E:=jVj) (fun out=>out) l (fun x=>[Sd x.1]) (fun _=>jLj _)
  (fun i out x a r=>by have p:=(jGj a).1;unfold ZD ZT;dsimp only;rw[jTj (ZF a),jTj ⟨Int.natCast_nonneg i,ZF a⟩,Zc unO a,jBj,jBj,jTj (UO (by decide) (by omega)),jTj (by unfold Qg;omega)];rfl)
  (fun out _=>by unfold ZD;dsimp only;rw[jFj (by simp)]) o
 rw[jFj (by decide),jFj (by decide),this,jBj,wQ];unfold nmO;rw[List.map_map];rfl
theorem Yl {s:List Mir}{i:Nat}{y:Mir}:List.set (s.map Q1) i (Q1 y)=(s.set i y).map Q1:=by rw[List.map_set]
theorem Qc8 {s:List Mir}{i:Nat}{x:Mir}(h:s[i]?=some x):s.set i x=s:=by obtain⟨b,a⟩:=jGj h;rw[<-a,List.set_getElem_self]
theorem qQ {step:Int×jVj->Option (Int×jVj⊕jVj)}(f:Mir->Mir)(ms:List Mir)
  (a:∀(i:Nat) (s:List Mir) (x:Mir),s.length=ms.length->s[i]?=some x->step ((i:Int),s.map Q1)=some (.inl (((i+1:Nat):Int),(s.set i (f x)).map Q1)))
  (b:∀s:List Mir,s.length=ms.length->step ((ms.length:Int),s.map Q1)=some (.inr (s.map Q1))) {k:Nat} (g:ms.length<k) :
  QU step k (0,ms.map Q1)=some ((ms.map f).map Q1):=by
 have h:∀(m i:Nat) (k:Nat),i+m=ms.length->m<k->QU step k ((i:Int),((ms.take i).map f++ms.drop i).map Q1)=some ((ms.map f).map Q1):=by
  intro m;induction m with
  | zero =>
   intro i k l g;obtain⟨k,rfl⟩:∃j,k=j+1:=⟨k - 1,by omega⟩
   have e:i=ms.length:=by omega
   subst e;rw[List.take_length,List.drop_length,List.append_nil,ZP (b _ (by simp))]
  | succ m ih =>
   intro i k l g;obtain⟨k,rfl⟩:∃j,k=j+1:=⟨k - 1,by omega⟩
   have d:i<ms.length:=by omega
   have c:((ms.take i).map f++ms.drop i).length=ms.length:=by simp;omega
   have o:((ms.take i).map f++ms.drop i)[i]?=some ms[i]:=by rw[List.getElem?_append_right (by simp;omega)];simp;rw[jej (by omega)];congr 2;omega
   rw[W8 (a i _ _ c o)];have e:((ms.take i).map f++ms.drop i).set i (f ms[i])=(ms.take (i+1)).map f++ms.drop (i+1):=by
    rw[List.set_append_right _ _ (by simp;omega)];have n:((ms.take i).map f).length=i:=by simp;omega
    rw[n,Nat.sub_self,List.drop_eq_getElem_cons d,List.set_cons_zero,List.take_succ_eq_append_getElem d,List.map_append];simp
   rw[e];exact ih (i+1) k (by omega) (by omega)
 have:=h ms.length 0 k (by omega) g;simpa using this
def Xi (m:Mir):Mir:=(m.1,m.2.1,m.2.2.1,m.2.2.2.1,m.2.2.2.2.1,false)
def kf (s:jSj)(m:Mir):Mir:=if m.2.1=s then Xi m else m
theorem Qkw {n:Nat}{g:Int}{j s:jSj}{l:jVj}{m:jSj}{o p:Int}{q r:Bool}{t a b:Int}{c d:jVj}(ms:List Mir)(A:ms.length<=5000)(v:ms.length<n):Vi n g j [Sd s] l m o p q r t a b c (ms.map Q1) d=some ((ms.map (kf s)).map Q1):=by
 unfold Vi;have:=qQ (step:=Z6 n g j [Sd s] l m o p q r t a b c (ms.map Q1) d) (kf s) ms
  (fun i u x y f=>by
   have z:=(jGj f).1;unfold Z6 WW;dsimp only;rw[jTj (by simp;omega),jTj ⟨Int.natCast_nonneg i,ZF f⟩,Zc unM f,jBj];rw[show el Vg [Sd s] 0=some s from rfl,jBj,jBj];unfold kf;by_cases h:x.2.1=s
   ·rw[jTj (by rw[beqS];exact jDj h),jTj (by unfold Qg;omega),jTj h,<-Yl,jtj];rfl
   ·rw[jFj (by rw[beqS];exact fun e=>h (of_decide_eq_true e)),jTj (by unfold Qg;omega),jFj h,Qc8 f];rfl)
  (fun u y=>by unfold Z6;dsimp only;rw[jFj (by simp)]) v
 rw[this];rfl
theorem QjY {n:Nat}{l:Int}{m s:jSj}{o:jVj}{p:jSj}{q r:jVj}{t v:Int}{y a:Bool}{b c d:Int}{f g:jVj}(ms:List Mir)(E:ms.length<=5000)(z:ms.length<n):WZ n l m [Sd s] o p q r t v y a b c d f (ms.map Q1) g=some ((ms.map (kf s)).map Q1):=by
 unfold WZ;have:=qQ (step:=ZN n l m [Sd s] o p q r t v y a b c d f (ms.map Q1) g) (kf s) ms
  (fun i u x A j=>by
   have C:=(jGj j).1;unfold ZN WW;dsimp only;rw[jTj (by simp;omega),jTj ⟨Int.natCast_nonneg i,ZF j⟩,Zc unM j,jBj];rw[show el Vg [Sd s] 0=some s from rfl,jBj,jBj];unfold kf;by_cases h:x.2.1=s
   ·rw[jTj (by rw[beqS];exact jDj h),jTj (by unfold Qg;omega),jTj h,<-Yl,jtj];rfl
   ·rw[jFj (by rw[beqS];exact fun e=>h (of_decide_eq_true e)),jTj (by unfold Qg;omega),jFj h,Qc8 j];rfl)
  (fun u A=>by unfold ZN;dsimp only;rw[jFj (by simp)]) z
 rw[this];rfl
theorem Qkv {n:Nat}{b c:Int}{d e:Bool}{f g h:Int}{j l:jVj}(ms:List Mir)(q:ms.length<=5000)(m:ms.length<n):W0 n b c d e f g h j (ms.map Q1) l=some ((ms.map Xi).map Q1):=by
 unfold W0;have:=qQ (step:=ZO n b c d e f g h j (ms.map Q1) l) Xi ms
  (fun i u x o a=>by have p:=(jGj a).1;unfold ZO WV;dsimp only;rw[jTj (by simp;omega),jTj ⟨Int.natCast_nonneg i,ZF a⟩,Zc unM a,jBj];rw[jBj,jTj rfl,jTj (by unfold Qg;omega),<-Yl,jtj];rfl)
  (fun u o=>by unfold ZO;dsimp only;rw[jFj (by simp)]) m
 rw[this];rfl
theorem QjX {n:Nat}{c d:jVj}{e f:Int}{g h:Bool}{j l m:Int}{o a:jVj}(ms:List Mir)(s:ms.length<=5000)(p:ms.length<n):WY n c d e f g h j l m o (ms.map Q1) a=some ((ms.map Xi).map Q1):=by
 unfold WY;have:=qQ (step:=ZM n c d e f g h j l m o (ms.map Q1) a) Xi ms
  (fun i u x q b=>by have r:=(jGj b).1;unfold ZM WV;dsimp only;rw[jTj (by simp;omega),jTj ⟨Int.natCast_nonneg i,ZF b⟩,Zc unM b,jBj];rw[jBj,jTj rfl,jTj (by unfold Qg;omega),<-Yl,jtj];rfl)
  (fun u q=>by unfold ZM;dsimp only;rw[jFj (by simp)]) p
 rw[this];rfl
def aG (_:Unit)(m:Mir):Unit⊕(Unit⊕Unit):=if isA m=true then .inr (.inl ()) else .inl ()
theorem Qda:∀(l:List Mir),Kw aG (fun _=>.inr ()) l ()=if l.any isA=true then .inl () else .inr ()
 | []=>rfl
 | x::l=>by
  unfold Kw aG;by_cases h:isA x=true
  ·rw[jTj h];simp[h]
  ·rw[jFj h];simp only[List.any_cons,h,Bool.false_or];exact Qda l
theorem Qkl {n:Nat}{d e:jVj}{f g:Int}{j l:Bool}{o p q:Int}{r c:jVj}(ms:List Mir)(v:ms.length<=5000)(t:ms.length<n):VE n d e f g j l o p q r (ms.map Q1) c=some (ms.any isA):=by
 unfold VE;have:=Vr (step:=Wn n d e f g j l o p q r (ms.map Q1) c) aG (fun _=>.inr ()) (fun i _=>(i:Int)) ms (fun _ _=>True)
  (fun i _ m b _=>by
   have u:=(jGj b).1;unfold aG Wn;by_cases a:isA m=true
   ·rw[jTj a];dsimp only;rw[jTj (ZF b),jTj ⟨Int.natCast_nonneg i,ZF b⟩,Zc unM b,jBj];unfold isA at a;rw[jTj a,jFj (by rw[a];simp)]
   ·rw[jFj a];refine⟨?_,trivial⟩;rw[jTj (ZF b),jTj ⟨Int.natCast_nonneg i,ZF b⟩,Zc unM b,jBj];unfold isA at a;rw[jFj a,jTj (by unfold Qg;omega)];rfl)
  (fun s _=>by unfold Wn;rw[jFj (by simp)]) (s:=()) trivial t
 rw[show(0:Int)=((0:Nat):Int) from rfl,this,Qda];by_cases h:ms.any isA=true
 ·rw[jTj h,h];rfl
 ·rw[jFj h];simp only[Bool.not_eq_true] at h;rw[h];rfl
def kD (ms:List Mir):List jSj:=(ms.filter isA).map fun x=>x.1
theorem QfY:∀(ms:List Mir),(ms.flatMap fun x=>if isA x=true then[Sd x.1] else[])=(kD ms).map Sd
 | []=>rfl
 | x::l=>by
  rw[List.flatMap_cons,QfY l];unfold kD;by_cases h:isA x=true
  ·rw[jTj h,List.filter_cons_of_pos h];rfl
  ·rw[jFj h,List.filter_cons_of_neg h];rfl
def WC (o:Off):Int:=o.2.2.2.1 - o.2.2.2.2.2.1
def Gr (o:Off):Int:=o.2.2.2.2.1*o.2.2.2.2.2.1 - 2*o.2.2.2.2.1*WC o
theorem Kg {o:Off}(h:okO o):(0<=WC o/\WC o<=1000)/\(0<=o.2.2.2.2.1*o.2.2.2.2.2.1/\o.2.2.2.2.1*o.2.2.2.2.2.1<=1000000)/\(0<=2*o.2.2.2.2.1*WC o/\2*o.2.2.2.2.1*WC o<=2000000)/\(-2000000<=Gr o/\Gr o<=1000000):=by
 obtain⟨f,e,i⟩:=h;have d:0<=WC o/\WC o<=1000:=by unfold WC;omega
 have a:=jI (g:=o.2.2.2.2.1) (c:=o.2.2.2.2.2.1) (p:=1000) (q:=1000) e (by omega);have b:=jI (g:=2*o.2.2.2.2.1) (c:=WC o) (p:=2000) (q:=1000) (by omega) d;refine⟨d,by omega,by omega,?_⟩;unfold Gr;omega
theorem jh (n:Nat){o:Off}(h:okO o):Za n o.1 o.2.1 o.2.2.1 o.2.2.2.1 o.2.2.2.2.1 o.2.2.2.2.2.1 o.2.2.2.2.2.2=some (WC o):=by obtain⟨a,_⟩:=Kg h;unfold WC at a;unfold Za WC;rw[jTj (by unfold Qg;omega)]
theorem QcA (n:Nat){o:Off}(h:okO o):WQ n o.1 o.2.1 o.2.2.1 o.2.2.2.1 o.2.2.2.2.1 o.2.2.2.2.2.1 o.2.2.2.2.2.2=some (Gr o):=by obtain⟨a,b,c,d⟩:=Kg h;have e:=h.2.1;unfold WQ;rw[jh n h,jTj (by unfold Qg;omega),jTj (by unfold Qg;omega),jBj,jTj (by unfold Qg;omega)];unfold Gr at d ⊢;rw[jTj (by unfold Qg;omega)]
inductive Ki where
 | sector
 | mirror
 | soil
 | clean
 | defect
 | repair
 | aim
 | park
 | dim
 | sun
 | fill
 | drain
 | trip
 | reset
 | offer
 | deliver
 | bill
 | undo
 deriving DecidableEq
def kw:Ki->List UInt8
 | .sector=>[115,101,99,116,111,114]
 | .mirror=>[109,105,114,114,111,114]
 | .soil=>[115,111,105,108]
 | .clean=>[99,108,101,97,110]
 | .defect=>[100,101,102,101,99,116]
 | .repair=>[114,101,112,97,105,114]
 | .aim=>[97,105,109]
 | .park=>[112,97,114,107]
 | .dim=>[100,105,109]
 | .sun=>[115,117,110]
 | .fill=>[102,105,108,108]
 | .drain=>[100,114,97,105,110]
 | .trip=>[116,114,105,112]
 | .reset=>[114,101,115,101,116]
 | .offer=>[111,102,102,101,114]
 | .deliver=>[100,101,108,105,118,101,114]
 | .bill=>[98,105,108,108]
 | .undo=>[117,110,100,111]
def kr:Ki->List UInt8
 | .sector=>[83]
 | .mirror=>[77,115]
 | .soil=>[109]
 | .clean=>[109]
 | .defect=>[109]
 | .repair=>[109]
 | .aim=>[109]
 | .park=>[109]
 | .dim=>[115]
 | .sun=>[]
 | .fill=>[]
 | .drain=>[]
 | .trip=>[]
 | .reset=>[]
 | .offer=>[79]
 | .deliver=>[111]
 | .bill=>[111]
 | .undo=>[]
def kn (k:Ki):Nat:=(kr k).length
def kv:Ki->Nat
 | .sector=>1
 | .mirror=>2
 | .soil=>2
 | .clean=>1
 | .defect=>1
 | .repair=>1
 | .aim=>1
 | .park=>1
 | .dim=>1
 | .sun=>2
 | .fill=>1
 | .drain=>1
 | .trip=>1
 | .reset=>1
 | .offer=>5
 | .deliver=>2
 | .bill=>1
 | .undo=>0
def allKd:List Ki:=[.sector,.mirror,.soil,.clean,.defect,.repair,.aim,.park,.dim,.sun,.fill,.drain,.trip,.reset,.offer,.deliver,.bill,.undo]
def zl (l:List UInt8):Option Ki:=allKd.find? fun k=>decide (kw k=l)
theorem qZ (k:Ki):zl (kw k)=some k:=by cases k<;>decide
theorem JV {l:List UInt8}{k:Ki}(h:zl l=some k):l=kw k:=by have:=List.find?_some h;simpa using(of_decide_eq_true this).symm
theorem jQ {l:List UInt8}(h:zl l=none)(k:Ki):l≠kw k:=by intro e;rw[e,qZ] at h;cases h
theorem kne {a:jSj}{L:List UInt8}(h:a.data.toList=L){l:Array UInt8}(b:L≠l.toList):¬((a.toList==(⟨l⟩:jSj).toList)=true):=by rw[kq,h];exact b
theorem keq {a:jSj}{L:List UInt8}(h:a.data.toList=L){l:Array UInt8}(b:L=l.toList):(a.toList==(⟨l⟩:jSj).toList)=true:=by rw[kq,h];exact b
theorem dne {a:jSj}{L M:List UInt8}(h:a.data.toList=L)(b:L≠M):¬a.data.toList=M:=by rw[h];exact b
theorem QkF {a b:jSj}(h:(a==b)=true):a=b:=by cases a;cases b;have c : (ByteArray.mk _==ByteArray.mk _)=true:=h;simp only[ByteArray.mk.injEq];exact eq_of_beq h
theorem Qgq {s:jSj}:∀{j:Value},Y1 (.string s) j=some true->j=.string s:=by intro j h;cases j<;>simp[Y1] at h;rw[QkF h]
theorem jJ:∀(es:jVj) (s:jSj),(W5 (.string s) es).isSome=true->∃x,D.tup [.v (.string s),x]∈es
 | [],s,h=>by simp[W5] at h
 | e::es,s,h=>by
  unfold W5 at h;split at h
  ·rename_i j x b;split at h
   ·rename_i d;have:j=.string s:=Qgq d;subst this;refine⟨x,?_⟩;unfold SX.keyOf at b;split at b<;>try cases b
    rename_i l;unfold QhF at b;split at b
    ·cases b
    ·rename_i a l;split at b
     ·cases b
     ·rename_i y r;split at b
      ·split at b
       ·rename_i k c;cases b;unfold vOf at c;split at c<;>cases c;exact jMj
       ·cases b
      ·cases b
   ·obtain⟨x,f⟩:=jJ es s h;exact⟨x,jmj _ f⟩
  ·cases h
theorem jw {a:jSj}(h:(W5 (.string a) GB).isSome=true):∃k,a.data.toList=kw k:=by
 obtain⟨x,b⟩:=jJ _ _ h;unfold GB at b;simp only[List.mem_cons,D.tup.injEq,List.cons.injEq,D.v.injEq,Value.string.injEq,List.not_mem_nil,or_false] at b;obtain h|h|h|h|h|h|h|h|h|h|h|h|h|h|h|h|h|h:=b
 ·exact⟨.sector,by rw[h.1];rfl⟩
 ·exact⟨.mirror,by rw[h.1];rfl⟩
 ·exact⟨.soil,by rw[h.1];rfl⟩
 ·exact⟨.clean,by rw[h.1];rfl⟩
 ·exact⟨.defect,by rw[h.1];rfl⟩
 ·exact⟨.repair,by rw[h.1];rfl⟩
 ·exact⟨.aim,by rw[h.1];rfl⟩
 ·exact⟨.park,by rw[h.1];rfl⟩
 ·exact⟨.dim,by rw[h.1];rfl⟩
 ·exact⟨.sun,by rw[h.1];rfl⟩
 ·exact⟨.fill,by rw[h.1];rfl⟩
 ·exact⟨.drain,by rw[h.1];rfl⟩
 ·exact⟨.trip,by rw[h.1];rfl⟩
 ·exact⟨.reset,by rw[h.1];rfl⟩
 ·exact⟨.offer,by rw[h.1];rfl⟩
 ·exact⟨.deliver,by rw[h.1];rfl⟩
 ·exact⟨.bill,by rw[h.1];rfl⟩
 ·exact⟨.undo,by rw[h.1];rfl⟩
theorem QjQ:∀(k:Ki),((W5 (.string (mkS (kw k))) GB).bind Kt).map (fun x=>(x.1,x.2.1))=some (mkS (kr k),(kv k:Int))
 | .sector=>by kernel_rfl
 | .mirror=>by kernel_rfl
 | .soil=>by kernel_rfl
 | .clean=>by kernel_rfl
 | .defect=>by kernel_rfl
 | .repair=>by kernel_rfl
 | .aim=>by kernel_rfl
 | .park=>by kernel_rfl
 | .dim=>by kernel_rfl
 | .sun=>by kernel_rfl
 | .fill=>by kernel_rfl
 | .drain=>by kernel_rfl
 | .trip=>by kernel_rfl
 | .reset=>by kernel_rfl
 | .offer=>by kernel_rfl
 | .deliver=>by kernel_rfl
 | .bill=>by kernel_rfl
 | .undo=>by kernel_rfl
theorem yM {a:jSj}{k:Ki}(h:a.data.toList=kw k):(W5 (.string a) GB).isSome=true/\∃f g,(W5 (.string a) GB).bind Kt=some (mkS (kr k),(kv k:Int),f,g):=by
 have e:a=mkS (kw k):=by rw[<-h,UA]
 subst e;have:=QjQ k;cases hm:W5 (.string (mkS (kw k))) GB with
 | none=>rw[hm] at this;cases this
 | some d =>
  rw[hm,jBj] at this;refine⟨rfl,?_⟩;obtain⟨x,i,j⟩:=Option.map_eq_some_iff.1 this;refine⟨x.2.2.1,x.2.2.2,?_⟩;rw[jBj,i];obtain⟨b,c⟩:=Prod.mk.inj j;rw[<-b,<-c]
abbrev Ev:=Int×jSj×List jSj×List Int×jSj
def Q5 (e:Ev):D:=VQ (e.1,e.2.1,e.2.2.1.map Sd,e.2.2.2.1.map I,e.2.2.2.2)
def Short (e:Ev):Prop:=e.2.1.size<=40/\e.2.2.1.length<=6/\e.2.2.2.1.length<=8/\e.2.2.2.2.size<=200/\∀s,s∈e.2.2.1->s.size<=40
def Shw (n:Nat)(e:Ev):Prop:=e.2.2.1.length<=6/\e.2.2.2.1.length<=8/\∀s,s∈e.2.2.1->s.size<n
theorem Short.w {n:Nat}(b:1700<=n){e:Ev}(h:Short e):Shw n e:=⟨h.2.1,h.2.2.1,fun s a=>Nat.lt_of_le_of_lt (h.2.2.2.2 s a) (by omega)⟩
def valB (v:Int):Bool:=decide (inR v 0 999999999=0)
def chk (e:Ev):Int:=if inR e.1 1 1000=0 then(match zl e.2.1.data.toList with
 | none=>13
 | some k=>if e.2.2.1.length=kn k/\e.2.2.2.1.length=kv k then(if e.2.2.1.all Yw=true then(if e.2.2.2.1.all valB=true then(if e.2.2.2.2.size=0 then 0 else 1) else 3) else 8) else 2) else 3
structure Good (e:Ev) (k:Ki):Prop where
 num:1<=e.1/\e.1<=1000
 kind:e.2.1.data.toList=kw k
 names:e.2.2.1.length=kn k
 vals:e.2.2.2.1.length=kv k
 name:∀s,s∈e.2.2.1->Yw s=true
 val:∀v,v∈e.2.2.2.1->0<=v/\v<=999999999
 text:e.2.2.2.2.size=0
theorem Qec {e:Ev}(h:chk e=0):∃k,Good e k:=by
 unfold chk at h;split at h;case isFalse=>cases h
 rename_i b;split at h
 ·cases h
 rename_i k g;split at h;case isFalse=>cases h
 rename_i a;split at h;case isFalse=>cases h
 rename_i c;split at h;case isFalse=>cases h
 rename_i d;split at h;case isFalse=>cases h
 rename_i f;refine⟨k,WS.1 b,JV g,a.1,a.2,List.all_eq_true.1 c,fun v i=>?_,f⟩;have:=List.all_eq_true.1 d v i;exact WS.1 (of_decide_eq_true this)
theorem Qi7 {n:Nat}(e:1700<=n)(l:List jSj)(d:l.length<=60)(b:∀s,s∈l->s.size<n):Wz n (l.map Sd)=some ((l.map fun s=>QD (!Yw s) 8).map I):=by
 unfold Wz;have:=Y4 (step:=Ve n (l.map Sd)) (E:=jVj) (fun out=>out) l (fun s=>[I (QD (!Yw s) 8)]) (fun _=>jLj _)
  (fun i out x a f=>by have c:=(jGj a).1;unfold Ve V4;dsimp only;rw[jTj (ZF a),el_S a,jBj,QgI (by have:=b x (jgj a);omega),jBj,QR,jBj,jBj,jTj (UO (by decide) (by omega)),jTj (by unfold Qg;omega)];rfl)
  (fun out _=>by unfold Ve;dsimp only;rw[jFj (by simp)]) (k:=n) (by omega)
 rw[this,jBj,wQ,List.map_map];rfl
theorem Qi6 {n:Nat}(d:1700<=n)(l:List Int)(c:l.length<=60):Z0 n (l.map I)=some ((l.map fun v=>inR v 0 999999999).map I):=by
 unfold Z0;have:=Y4 (step:=WL n (l.map I)) (E:=jVj) (fun out=>out) l (fun v=>[I (inR v 0 999999999)]) (fun _=>jLj _)
  (fun i out x a e=>by have b:=(jGj a).1;unfold WL V3;dsimp only;rw[jTj (ZF a),Ei a,jBj,YR,jBj,jBj,jTj (UO (by decide) (by omega)),jTj (by unfold Qg;omega)];rfl)
  (fun out _=>by unfold WL;dsimp only;rw[jFj (by simp)]) (k:=n) (by omega)
 rw[this,jBj,wQ,List.map_map];rfl
theorem Qbt:∀(l:List jSj),QK (l.map fun s=>QD (!Yw s) 8)=if l.all Yw=true then 0 else 8
 | []=>rfl
 | s::l=>by
  have a:=Qbt l;rw[jCj];unfold QK QD;unfold QD at a;cases h:Yw s with
  | true=>simp only[Bool.not_true,Bool.false_eq_true,if_false,if_true,List.all_cons,h,Bool.true_and];exact a
  | false=>simp[h]
theorem QdT:∀(l:List Int),QK (l.map fun v=>inR v 0 999999999)=if l.all valB=true then 0 else 3
 | []=>rfl
 | v::l=>by
  have a:=QdT l;rw[jCj];unfold QK;obtain h|h:=QeR v 0 999999999
  ·rw[jTj h,a];simp[valB,h]
  ·rw[h,jFj (by decide)];simp[valB,h]
theorem QiK (s:jSj):(!(s.toList==(⟨#[]⟩:jSj).toList))=decide (s.size≠0):=by rw[QfH];by_cases h:s.size=0<;>simp[h]
theorem Qcw {n:Nat}(u:1700<=n)(e:Ev)(E:e.2.2.1.length<=6)(F:e.2.2.2.1.length<=8)(z:∀s,s∈e.2.2.1->s.size<n):Wv n e.1 e.2.1 (e.2.2.1.map Sd) (e.2.2.2.1.map I) e.2.2.2.2=some (chk e):=by
 have a:(Wz n (e.2.2.1.map Sd)).bind (fun C=>(Qi n C).bind fun p=>(Z0 n (e.2.2.2.1.map I)).bind fun t11=>(Qi n t11).bind fun q =>
   (Qm n (!(e.2.2.2.2.toList==(⟨#[]⟩:jSj).toList)) 1).bind fun r=>(Qi n ([I p,I q,I r])).bind fun t=>some t) =
   some (if e.2.2.1.all Yw=true then(if e.2.2.2.1.all valB=true then(if e.2.2.2.2.size=0 then 0 else 1) else 3) else 8):=by
  rw[Qi7 u _ (by omega) z,jBj,qf _ (by simp;omega) (by simp;omega),jBj,Qi6 u _ (by omega),jBj,qf _ (by simp;omega) (by simp;omega),jBj,
   Qbt,QdT,QR,jBj,uT (by omega),jBj,QiK]
  unfold QD QK QK QK QK;by_cases i:e.2.2.1.all Yw=true<;>by_cases c:e.2.2.2.1.all valB=true<;>by_cases y:e.2.2.2.2.size=0<;>simp[i,c,y]
 unfold Wv;cases hk:zl e.2.1.data.toList with
 | none =>
  have m:¬(W5 (.string e.2.1) GB).isSome=true:=fun h=>by obtain⟨k,l⟩:=jw h;exact jQ hk k l
  rw[jFj m,YR,jBj];unfold Kp Yt;simp only[jBj,QR];unfold chk;rw[hk];have j:∀x:Int,Qi n ([I (inR e.1 1 1000),I 13,I x])=some (if inR e.1 1 1000=0 then 13 else 3):=by intro x;rw[uT (by omega)];unfold QK QK;obtain h|h:=QeR e.1 1 1000<;>rw[h]<;>simp
  have v:¬(if inR e.1 1 1000=0 then(13:Int) else 3)=0:=by split<;>decide
  split
  ·rw[j,jBj,jFj v]
  ·rw[j,jBj,jFj v]
 | some k =>
  obtain⟨b,f,g,d⟩:=yM (JV hk);rw[jTj b,d,jBj,YR,jBj];unfold Kq Yt;simp only[jBj,QR];unfold chk;rw[hk];have j:∀x:Int,Qi n ([I (inR e.1 1 1000),I 0,I x])=some (if inR e.1 1 1000=0 then x else 3):=by intro x;rw[uT (by omega)];unfold QK QK QK QK;obtain h|h:=QeR e.1 1 1000<;>rw[h]<;>simp;intro h;exact h.symm
  have o:((mkS (kr k)).size:Int)=(kn k:Int):=by unfold kn mkS ByteArray.size;simp
  simp only[j,jBj,jlj,o];by_cases g0:inR e.1 1 1000=0
  ·simp only[g0,if_true];by_cases i:e.2.2.1.length=kn k
   ·rw[jTj (by omega)];by_cases c:e.2.2.2.1.length=kv k
    ·have A:e.2.2.1.length=kn k/\e.2.2.2.1.length=kv k:=⟨i,c⟩
     have:(((e.2.2.2.1.length:Nat):Int) != (kv k:Int))=false:=by simp[c]
     rw[this];simp only[QD,Bool.false_eq_true,if_false,if_true];rw[jTj A];simp only[QR,jBj,QD] at a;exact a
    ·have:(((e.2.2.2.1.length:Nat):Int) != (kv k:Int))=true:=by simp;omega
     rw[this];simp only[QD,if_true];rw[jFj (by decide),jFj (fun h=>c h.2)]
   ·rw[jFj (by omega),jFj (by decide),jFj (fun h=>i h.1)]
  ·simp only[g0,if_false];split
   ·rw[jFj (by decide)]
   ·rw[jFj (by decide)]
theorem VS {n:Nat}(b:1700<=n)(e:Ev)(a:Shw n e):Wv n e.1 e.2.1 (e.2.2.1.map Sd) (e.2.2.2.1.map I) e.2.2.2.2=some (chk e) :=
 Qcw b e a.1 a.2.1 a.2.2
theorem gi0 {b:Type}{a:Int}{l:jVj}{f:Int->Option b}:(el V5 (I a::l) 0).bind f=f a:=rfl
theorem gi1 {b:Type}{x:D}{a:Int}{l:jVj}{f:Int->Option b}:(el V5 (x::I a::l) 1).bind f=f a:=rfl
theorem gi2 {b:Type}{x y:D}{a:Int}{l:jVj}{f:Int->Option b}:(el V5 (x::y::I a::l) 2).bind f=f a:=rfl
theorem gi3 {b:Type}{x y z:D}{a:Int}{l:jVj}{f:Int->Option b}:(el V5 (x::y::z::I a::l) 3).bind f=f a:=rfl
theorem gi4 {b:Type}{x y z w:D}{a:Int}{l:jVj}{f:Int->Option b}:(el V5 (x::y::z::w::I a::l) 4).bind f=f a:=rfl
theorem gs0 {b:Type}{a:jSj}{l:jVj}{f:jSj->Option b}:(el Vg (Sd a::l) 0).bind f=f a:=rfl
theorem gs1 {b:Type}{x:D}{a:jSj}{l:jVj}{f:jSj->Option b}:(el Vg (x::Sd a::l) 1).bind f=f a:=rfl
section
variable {num:Int}{kind text:jSj}{names:List jSj}{vals:List Int}{k:Ki}
theorem Good.d01 (a:Good (num,kind,names,vals,text) k)(d:kn k=0)(e:kv k=1):∃t,names=[]/\vals=[t]/\0<=t/\t<=999999999:=by
 have b:names.length=0:=a.names.trans d;have c:vals.length=1:=a.vals.trans e;match names,vals,b,c with
 | [],[t],_,_=>exact⟨t,rfl,rfl,a.val t (by simp)⟩
theorem Good.d02 (a:Good (num,kind,names,vals,text) k)(d:kn k=0)(e:kv k=2):∃t f,names=[]/\vals=[t,f]/\0<=t/\t<=999999999:=by
 have b:names.length=0:=a.names.trans d;have c:vals.length=2:=a.vals.trans e;match names,vals,b,c with
 | [],[t,v],_,_=>exact⟨t,v,rfl,rfl,a.val t (by simp)⟩
theorem Good.d11 (b:Good (num,kind,names,vals,text) k)(e:kn k=1)(f:kv k=1):∃a t,names=[a]/\vals=[t]/\0<=t/\t<=999999999:=by
 have c:names.length=1:=b.names.trans e;have d:vals.length=1:=b.vals.trans f;match names,vals,c,d with
 | [a],[t],_,_=>exact⟨a,t,rfl,rfl,b.val t (by simp)⟩
theorem Good.d12 (b:Good (num,kind,names,vals,text) k)(e:kn k=1)(f:kv k=2):∃a t g,names=[a]/\vals=[t,g]/\0<=t/\t<=999999999:=by
 have c:names.length=1:=b.names.trans e;have d:vals.length=2:=b.vals.trans f;match names,vals,c,d with
 | [a],[t,v],_,_=>exact⟨a,t,v,rfl,rfl,b.val t (by simp)⟩
theorem Good.d22 (c:Good (num,kind,names,vals,text) k)(f:kn k=2)(g:kv k=2):∃a b t h,names=[a,b]/\vals=[t,h]/\0<=t/\t<=999999999:=by
 have d:names.length=2:=c.names.trans f;have e:vals.length=2:=c.vals.trans g;match names,vals,d,e with
 | [a,b],[t,v],_,_=>exact⟨a,b,t,v,rfl,rfl,c.val t (by simp)⟩
theorem Good.d15 (b:Good (num,kind,names,vals,text) k)(e:kn k=1)(f:kv k=5):∃a t g h i j,names=[a]/\vals=[t,g,h,i,j]/\0<=t/\t<=999999999:=by
 have c:names.length=1:=b.names.trans e;have d:vals.length=5:=b.vals.trans f;match names,vals,c,d with
 | [a],[t,v,w,x,y],_,_=>exact⟨a,t,v,w,x,y,rfl,rfl,b.val t (by simp)⟩
end
theorem rmS {c b:Nat}{r:Reg}(d:Inv c r)(a:b<=200:=by decide):Wi b ((r.sectors.map Sd).length+1):=UO a (by rw[jlj];have:=d.secs;omega)
theorem rmM {c b:Nat}{r:Reg}(d:Inv c r)(hc:c<=992)(a:b<=200:=by decide):Wi b ((r.mirrors.map Q1).length+1):=UO a (by rw[jlj];have:=d.lenM;omega)
theorem rmO {c b:Nat}{r:Reg}(d:Inv c r)(hc:c<=992)(a:b<=200:=by decide):Wi b ((r.offers.map Zs).length+1):=UO a (by rw[jlj];have:=d.lenO;omega)
theorem g0 {t x:Int}{l:List Int}(h:t<x):(t::l).getD 0 0<x:=h
theorem g0n {t x:Int}{l:List Int}(h:¬t<x):¬(t::l).getD 0 0<x:=h
theorem okt {r:Reg}{t:Int}(h:¬t<r.tick)(a:0<=t/\t<=999999999):okT r t:=⟨by omega,a.2⟩
abbrev rtM (r:Reg)(t:Int)(s m o:jVj):jRj:=(t,r.level,r.filled,r.tripped,r.light+WP r t,r.heat+WP r t,r.money,s,m,o)
theorem zm {r:Reg}{a:jSj}{n:Nat}(b:zk (nmM r.mirrors) a=(n:Int))(c:n<r.mirrors.length):0<=zk (nmM r.mirrors) a/\zk (nmM r.mirrors) a<((r.mirrors.map Q1).length:Int):=by rw[b,jlj];omega
theorem hltO {r:Reg}{a:jSj}{n:Nat}(b:zk (nmO r.offers) a=(n:Int))(c:n<r.offers.length):0<=zk (nmO r.offers) a/\zk (nmO r.offers) a<((r.offers.map Zs).length:Int):=by rw[b,jlj];omega
theorem Qp (l:List UInt8):(mkS l).size=l.length:=by simp[mkS,ByteArray.size]
theorem QhQ {a b:List UInt8}:mkS a=mkS b↔a=b:=by
 constructor
 ·intro h;have:=congrArg (fun s:jSj=>s.data.toList) h;simpa[VN] using this
 ·intro h;rw[h]
theorem Qfb (a b:List UInt8):((mkS a).toList==(mkS b).toList)=decide (a=b):=by rw[Bool.eq_iff_iff,beq_iff_eq,decide_eq_true_eq,qL,qL,VN,VN]
theorem Qat (a b:List UInt8):mkS a++mkS b=mkS (a++b):=by
 have:(mkS a++mkS b).data.toList=a++b:=by rw[ByteArray.data_append];simp[mkS]
 rw[<-UA (mkS a++mkS b),this]
theorem Qhq (l:List UInt8)(i:Nat):UY (mkS l) (i:Int)=l[i]?.map fun b=>(b.toNat:Int):=by
 unfold UY;rw[jTj (Int.natCast_nonneg i),jtj];have:(mkS l)[i]?=l[i]?:=by
  by_cases h:i<l.length
  ·have a : i<(mkS l).size:=by rw[Qp];exact h
   rw[getElem?_pos (mkS l) i a,jej h];congr 1
  ·have a : ¬i<(mkS l).size:=by rw[Qp];exact h
   rw[getElem?_neg (mkS l) i a,List.getElem?_eq_none (by omega)]
 rw[this];cases l[i]?<;>rfl
theorem uY (l:List UInt8)(a b:Nat):(mkS l).extract a b=mkS ((l.take b).drop a):=by
 rw[<-UA ((mkS l).extract a b)];congr 1
 rw[ByteArray.data_extract];simp[mkS];rw[List.take_drop];by_cases h:a<=b
 ·rw[show a+(b - a)=b by omega]
 ·rw[show a+(b - a)=a by omega,List.drop_eq_nil_of_le (by simp;omega),List.drop_eq_nil_of_le (by simp;omega)]
theorem QjT (l:List UInt8){b:Nat}(a:b<=l.length):XY (mkS l) none (some (b:Int))=some (mkS (l.take b)):=by unfold XY;simp only[Option.getD_some,Option.getD_none,Qp];rw[jTj (by omega),jtj,Int.toNat_zero,uY,List.drop_zero]
theorem Qhp (l:List UInt8){a:Nat}(b:a<=l.length):XY (mkS l) (some (a:Int)) none=some (mkS (l.drop a)):=by unfold XY;simp only[Option.getD_some,Option.getD_none,Qp];rw[jTj (by omega),jtj,jtj,uY,List.take_length]
def spl (c:UInt8):List UInt8->List (List UInt8)
 | []=>[[]]
 | x::l=>if x=c then[]::spl c l else match spl c l with
  | []=>[[x]]
  | h::t=>(x::h)::t
def pre (p:List UInt8):List (List UInt8)->List (List UInt8)
 | []=>[p]
 | h::t=>(p++h)::t
theorem zK (c:UInt8)(l:List UInt8):spl c l≠[]:=by
 cases l with
 | nil=>simp[spl]
 | cons x l =>
  unfold spl;split
  ·simp
  ·split<;>simp
theorem ug (c x:UInt8)(l:List UInt8)(h:x≠c):spl c (x::l)=pre [x] (spl c l):=by
 conv=>lhs;unfold spl
 rw[jFj h];cases spl c l<;>rfl
theorem QbX (c:UInt8)(l:List UInt8):spl c (c::l)=[]::spl c l:=by
 conv=>lhs;unfold spl
 rw[jTj rfl]
theorem QiX {L:List (List UInt8)}(h:L≠[]):pre [] L=L:=by
 cases L with
 | nil=>exact absurd rfl h
 | cons a L=>rfl
theorem QiW (p q:List UInt8){L:List (List UInt8)}(h:L≠[]):pre p (pre q L)=pre (p++q) L:=by
 cases L with
 | nil=>exact absurd rfl h
 | cons a L=>simp[pre]
theorem QbY (c:UInt8):∀(a b:List UInt8),c∉a->spl c (a++b)=pre a (spl c b)
 | [],b,_=>by rw[List.nil_append,QiX (zK c b)]
 | x::a,b,h=>by rw[List.cons_append,ug c x _ (fun e=>h (by rw[e];exact jMj)),QbY c a b (fun d=>h (jmj _ d)),QiW _ _ (zK c b)];rfl
theorem Qfr (c:UInt8)(a b:List UInt8)(h:c∉a):spl c (a++c::b)=a::spl c b:=by rw[QbY c a _ h,QbX];simp[pre]
theorem Qc5 (c:UInt8)(a:List UInt8)(h:c∉a):spl c a=[a]:=by have:=QbY c a [] h;simpa[spl,pre] using this
def glue (c:UInt8):List (List UInt8)->List UInt8
 | []=>[]
 | [p]=>p
 | p::q::L=>p++c::glue c (q::L)
theorem Qif (c:UInt8)(p:List UInt8){L:List (List UInt8)}(h:L≠[]):glue c (pre p L)=p++glue c L:=by
 cases L with
 | nil=>exact absurd rfl h
 | cons a L =>
  cases L with
  | nil=>rfl
  | cons b L=>simp[pre,glue]
theorem uL (c:UInt8):∀l:List UInt8,glue c (spl c l)=l
 | []=>rfl
 | x::l=>by
  by_cases h:x=c
  ·subst h;rw[QbX];have:=zK x l;have b:=uL x l;cases hs:spl x l with
   | nil=>exact absurd hs this
   | cons a L=>rw[hs] at b;simp[glue,b]
  ·rw[ug c x l h,Qif c [x] (zK c l),uL c l];rfl
theorem Qc6 (c:UInt8):∀(L:List (List UInt8)),L≠[]->(∀p,p∈L->c∉p)->spl c (glue c L)=L
 | [],h,_=>absurd rfl h
 | [p],_,h=>Qc5 c p (h p jMj)
 | p::q::L,_,h=>by show spl c (p++c::glue c (q::L))=_;rw[Qfr c p _ (h p jMj),Qc6 c (q::L) (by simp) (fun r a=>h r (jmj _ a))]
theorem qO (c:UInt8):∀l:List UInt8,(spl c l).length=l.count c+1
 | []=>rfl
 | x::l=>by
  by_cases h:x=c
  ·subst h;rw[QbX,List.length_cons,qO x l,List.count_cons_self]
  ·rw[ug c x l h,List.count_cons_of_ne h];have:=qO c l;cases hs:spl c l with
   | nil=>exact absurd hs (zK c l)
   | cons a L=>rw[hs] at this;simpa[pre] using this
theorem Qib {c:UInt8}:∀{l:List UInt8},c∈l->∃a b,l=a++c::b/\c∉a
 | x::l,h=>by
  by_cases e:x=c
  ·subst e;exact⟨[],l,rfl,by simp⟩
  ·obtain h|h:=List.mem_cons.1 h
   ·exact absurd h.symm e
   ·obtain⟨a,b,f,g⟩:=Qib h;refine⟨x::a,b,by rw[f];rfl,fun d=>?_⟩;obtain d|d:=List.mem_cons.1 d
    ·exact e d.symm
    ·exact g d
theorem Qbn {c:UInt8}:∀{a:List UInt8} (b:List UInt8),c∉a->Lib.indexByte (a++c::b) c=(a.length:Int)
 | [],b,_=>by simp[Lib.indexByte]
 | x::a,b,h=>by
  have f:¬(x=c):=fun e=>h (by rw[e];exact jMj);have g:=Qbn b (fun d=>h (jmj _ d));rw[List.cons_append,Lib.indexByte,jFj (by simpa using f),g];have:¬(((a.length:Int))==-1)=true:=by simp
  rw[jFj this];simp
def eS (p:List UInt8):D:=.v (.string (mkS p))
theorem Qki:(.v (.string ⟨#[]⟩):D)=eS []:=rfl
theorem i64 {m:Int}(a : -1000000000000<=m)(b:m<=1000000000000):Qg m:=by unfold Qg;omega
theorem QiN (n:Nat)(l:List UInt8):YO n (mkS l)=some (Lib.indexByte l 32):=by
 unfold YO V2;have e:(⟨#[32]⟩:jSj)=mkS [32]:=rfl;rw[e,Qfb];by_cases h:[32]=l
 ·rw[jTj (jDj h),<-h];rfl
 ·rw[jFj (by simpa using h)];unfold Un;rw[VN];rfl
theorem zB (n:Nat)(l:List UInt8)(y:l.length<=2000):∀(m:Nat) (done:List (List UInt8)) (s:List UInt8) (k:Nat),s.count 32=m->done.length+m=l.count 32->spl 32 l=done++spl 32 s->s.length<=2000->m<k ->
  ∃(done' : List (List UInt8)) (s' : List UInt8),QU (Wb n (mkS l) ((l.count 32:Nat):Int)) k (mkS s,(done.length:Int),done.map eS++List.replicate (m+1) (eS []))=some (mkS s',((l.count 32:Nat):Int),done'.map eS++[eS []])/\done'.length=l.count 32/\spl 32 l=done'++[s']
 | _,_,_,0,_,_,_,_,hk=>absurd hk (by omega)
 | 0,done,s,k+1,hm,hd,hs,_,_=>by
  have g:(32:UInt8)∉s:=List.count_eq_zero.1 hm;have i:l.count 32<=l.length:=List.count_le_length;refine⟨done,s,?_,by omega,by rw[hs,Qc5 32 s g]⟩;have c:Zv (((l.count 32:Nat):Int)+1) (((mkS l).size:Int)+1)=((l.count 32:Nat):Int)+1:=by rw[Qp];unfold Zv;split<;>omega
  rw[ZP (e:=(mkS s,(done.length:Int),done.map eS++List.replicate 1 (eS [])))]
  ·rw[show done.length=l.count 32 by omega];rfl
  ·unfold Wb;dsimp only;rw[c,jFj (by omega)]
 | m+1,done,s,k+1,hm,hd,hs,hsl,hk=>by
  have i:l.count 32<=l.length:=List.count_le_length;have c:Zv (((l.count 32:Nat):Int)+1) (((mkS l).size:Int)+1)=((l.count 32:Nat):Int)+1:=by rw[Qp];unfold Zv;split<;>omega
  obtain⟨a,b,rfl,f⟩:=Qib (List.count_pos_iff.1 (show 0<s.count 32 by omega));have h:b.count 32=m:=by rw[List.count_append,List.count_cons_self,List.count_eq_zero.2 f] at hm;omega
  have j:a.length+b.length+1<=2000:=by simp at hsl;omega
  obtain⟨done',s',r,t,u⟩:=zB n l y m (done++[a]) b k h (by simp;omega) (by rw[hs,Qfr 32 a b f];simp) (by omega) (by omega);refine⟨done',s',?_,t,u⟩;rw[W8 (s':=(mkS b,((done++[a]).length:Int),(done++[a]).map eS++List.replicate (m+1) (eS [])))]
  ·exact r
  ·unfold Wb;dsimp only;have x:(a++32::b).length=a.length+b.length+1:=by simp;omega
   have d:(done.map eS++List.replicate (m+1+1) (eS [])).length=done.length+m+2:=by simp;omega
   rw[c,jTj (by omega),QiN,jBj,Qbn b f,jFj (by omega),jTj (i64 (by omega) (by omega)),Int.add_zero,QjT _ (by omega),jBj,
    jTj (by rw[d];omega),jTj (by rw[d,jtj];omega),jTj (i64 (by omega) (by omega))]
   rw[show(a.length:Int)+1=((a.length+1:Nat):Int) by simp,Qhp _ (by omega),jBj,jTj (i64 (by omega) (by omega))];have o:(a++32::b).drop (a.length+1)=b:=by simp
   have p:(a++32::b).take a.length=a:=by simp
   have q:(done.map eS++List.replicate (m+1+1) (eS [])).set (Int.toNat (done.length:Int)) (.v (.string (mkS a)))=(done++[a]).map eS++List.replicate (m+1) (eS []):=by rw[jtj,List.set_append_right _ _ (by simp)];simp[List.replicate_succ,eS]
   rw[o,p,q];simp
theorem ue {n:Nat}(m:3000<=n){l:List UInt8}(g:l.length<=2000):YN n (mkS l)=some ((spl 32 l).map eS):=by
 have k:l.count 32<=l.length:=List.count_le_length;obtain⟨done,s,i,f,j⟩:=zB n l g (l.count 32) [] l n rfl (by simp) (by simp) g (by omega);have d:Zv (((l.count 32:Nat):Int)+1) (((mkS l).size:Int)+1)=((l.count 32+1:Nat):Int):=by rw[Qp];unfold Zv;split<;>omega
 unfold YN YI;have a:UC n (mkS l) ⟨#[32]⟩=some ((l.count 32:Nat):Int):=by show some ((Lib.countByte (mkS l).data.toList 32:Nat):Int)=_;rw[VN];rfl
 rw[a,jBj,jTj (i64 (by omega) (by omega)),jTj (by rw[Qp];exact i64 (by omega) (by omega)),d,jTj (by omega),jTj (i64 (by omega) (by omega))];rw[jtj,Qki];have e : QU (Wb n (mkS l) ((l.count 32:Nat):Int)) n (mkS l,0,List.replicate (l.count 32+1) (eS []))=some (mkS s,((l.count 32:Nat):Int),done.map eS++[eS []]):=i;rw[e,jBj];dsimp only;have c:(done.map eS++[eS []]).length=l.count 32+1:=by simp[f]
 have h:(done.map eS++[eS []]).set (Int.toNat ((l.count 32:Nat):Int)) (.v (.string (mkS s)))=(spl 32 l).map eS:=by rw[jtj,List.set_append_right _ _ (by simp[f]),j];simp[f,eS]
 have b:((spl 32 l).map eS).length=l.count 32+1:=by rw[jlj,qO]
 rw[jTj (by rw[c];omega),jTj (by rw[c,jtj];omega),jTj (i64 (by omega) (by omega)),h,jTj (by rw[b];exact⟨by decide,by omega,by omega,.inr rfl⟩)];rw[show Int.toNat (((l.count 32:Nat):Int)+1)=l.count 32+1 by omega,<-b,List.take_length];rfl
def US (l:List UInt8):Prop:=∀c,c∈l->48<=c.toNat/\c.toNat<=57
instance (l:List UInt8):Decidable (US l):=by unfold US;infer_instance
def yX:Nat->List UInt8->Nat
 | n,[]=>n
 | n,c::l=>yX (10*n+(c.toNat - 48)) l
def yk (d:List UInt8):Prop:=d≠[]/\d.length<=9/\US d/\(d.head?≠some 48\/d.length=1)
instance (l:List UInt8):Decidable (yk l):=by unfold yk;infer_instance
theorem uJ {c:UInt8}{l:List UInt8}:US (c::l)↔(48<=c.toNat/\c.toNat<=57)/\US l:=by simp[US]
theorem QgJ {a b:List UInt8}:US (a++b)↔US a/\US b:=by simp only[US,List.mem_append];exact⟨fun h=>⟨fun c hc=>h c (.inl hc),fun c hc=>h c (.inr hc)⟩,fun h c hc=>hc.elim (h.1 c) (h.2 c)⟩
theorem QcT:∀(a b:List UInt8) (n:Nat),yX n (a++b)=yX (yX n a) b
 | [],_,_=>rfl
 | c::a,b,n=>QcT a b _
theorem Qgh (a:List UInt8)(c:UInt8)(n:Nat):yX n (a++[c])=10*yX n a+(c.toNat - 48):=by rw[QcT];rfl
theorem EU {k:Nat}(h:k<10):(UInt8.ofNat (48+k)).toNat=48+k:=by simp only[UInt8.toNat_ofNat'];omega
theorem Qbl {k:Nat}(h:k<10):US [UInt8.ofNat (48+k)]:=by intro c hc;rw[List.mem_singleton] at hc;rw[hc,EU h];omega
theorem qi (u:Nat):US (Lib.decDigits u)/\Lib.decDigits u≠[]/\yX 0 (Lib.decDigits u)=u/\((Lib.decDigits u).head?≠some 48\/(Lib.decDigits u).length=1)/\∀k,1<=k->u<10 ^ k->(Lib.decDigits u).length<=k:=by
 induction u using Nat.strongRecOn with
 | _ u s =>
  by_cases h:u<10
  ·rw[Lib.decDigits,dif_pos h];refine⟨Qbl h,by simp,?_,.inr rfl,fun k f _=>by simpa using f⟩;show 10*0+((UInt8.ofNat (48+u)).toNat - 48)=u;rw[EU h];omega
  ·rw[Lib.decDigits,dif_neg h];obtain⟨j,m,e,n,o⟩:=s (u / 10) (by omega);have g:u % 10<10:=Nat.mod_lt _ (by decide);refine⟨QgJ.2 ⟨j,Qbl g⟩,by simp,?_,.inl ?_,fun k f i=>?_⟩
   ·rw[Qgh,e,EU g];omega
   ·have b:(Lib.decDigits (u / 10)).head?≠some 48:=by
     intro d;have q:=n.resolve_left (fun hc=>hc d);have r:yX 0 (Lib.decDigits (u / 10))=0:=by
      match hd:Lib.decDigits (u / 10),q with
      | [c],_ =>
       rw[hd] at d;simp only[List.head?_cons,jIj] at d;rw[d];rfl
     rw[e] at r;omega
    cases hd:Lib.decDigits (u / 10) with
    | nil=>exact absurd hd m
    | cons a l=>rw[hd] at b;simpa using b
   ·cases k with
    | zero=>omega
    | succ k =>
     have p:k≠0:=by rintro rfl;simp at i;omega
     have:=o k (by omega) (by rw[Nat.pow_succ] at i;omega);rw[jaj];simpa using this
theorem Qis {u:Nat}(h:u<1000000000):yk (Lib.decDigits u):=by obtain⟨a,b,e,c,d⟩:=qi u;exact⟨b,d 9 (by decide) (by simpa using h),a,c⟩
def num (w:List UInt8):Option Int:=if yk w then some (yX 0 w:Int) else none
theorem Ed {n:Int}(h:0<=n):Lib.itoa n=Lib.decDigits n.toNat:=by unfold Lib.itoa;rw[jFj (by omega)]
theorem uv {n:Int}(a:0<=n)(c:n<1000000000):num (Lib.itoa n)=some n:=by have b:=qi n.toNat;unfold num;rw[Ed a,jTj (Qis (by omega)),b.2.2.1];congr 1;omega
theorem QdM {n:Int}(h:0<=n):US (Lib.itoa n):=by rw[Ed h];exact(qi _).1
theorem qa {n:Int}(a:0<=n)(b:n<1000000000):(Lib.itoa n).length<=9:=by rw[Ed a];exact(Qis (u:=n.toNat) (by omega)).2.1
abbrev Wrd:=List UInt8
theorem Qem {m:Int}(h:Qg m):IntKind.wrap .i64 m=m:=by unfold Qg at h;rw[IntKind.wrap_i64];omega
theorem kx {l:Wrd}{i:Nat}{x:UInt8}(h:l[i]?=some x):Kf (mkS l) i=x.toNat:=by obtain⟨a,b⟩:=jGj h;show(l.toArray[i]!).toNat=x.toNat;rw[getElem!_pos l.toArray i (by simpa using a)];simp[b]
theorem QjN {m:Int}(a:0<=m)(b:m<=9):IntKind.wrap .i32 m=m:=by
 have:m=0\/m=1\/m=2\/m=3\/m=4\/m=5\/m=6\/m=7\/m=8\/m=9:=by omega
 obtain h|h|h|h|h|h|h|h|h|h:=this<;>subst h<;>decide
theorem QkB {i v:Nat}(a:i<=9)(h:v<10 ^ i):v<1000000000:=by have:10 ^ i<=10 ^ 9:=Nat.pow_le_pow_right (by decide) a;omega
theorem Qjo {d a:Wrd}{i:Nat}{x:UInt8}(c:d.drop i=x::a):i<d.length/\d[i]?=some x/\d.drop (i+1)=a:=by
 have b:i<d.length:=by
  obtain h|h:=Nat.lt_or_ge i d.length
  ·exact h
  ·rw[List.drop_eq_nil_of_le h] at c;cases c
 have:=List.drop_eq_getElem_cons b;rw[c] at this;refine⟨b,?_,(List.cons.inj this).2.symm⟩;rw[jej b];exact congrArg some (List.cons.inj this).1.symm
theorem Qh9 (n:Nat){d:Wrd}{i v:Nat}{x:UInt8}(b:i<d.length)(a:Utf8.decode (mkS d) i=(x.toNat,1))(g:48<=x.toNat/\x.toNat<=57)(h:d.length<=9)(q:v<1000000000) :
  ZC n (mkS d) ((v:Int),i)=some (.inl (((10*v+(x.toNat - 48):Nat):Int),i+1)):=by
 have c:i<(mkS d).size:=by rw[Qp];exact b
 have e:IntKind.wrap .i32 ((x.toNat:Int) - 48)=(x.toNat:Int) - 48:=QjN (by omega) (by omega);have f:IntKind.wrap .i64 ((x.toNat:Int) - 48)=(x.toNat:Int) - 48:=Qem (i64 (by omega) (by omega));have j:¬((x.toNat:Int)<48):=by omega
 have k:¬((x.toNat:Int)>57):=by omega
 have l:¬(((mkS d).size:Int)>9):=by rw[Qp];omega
 have m:Qg (10*(v:Int)):=i64 (by omega) (by omega);have o:Qg (10*(v:Int)+((x.toNat:Int) - 48)):=i64 (by omega) (by omega);have p:(10*(v:Int)+((x.toNat:Int) - 48))=((10*v+(x.toNat - 48):Nat):Int):=by omega
 unfold ZC;simp only[a,c,if_true,jFj j,jFj k,jFj l,jTj m,e,f,jTj o];rw[p]
theorem QdQ (n:Nat)(d:Wrd):∀(a:Wrd) (i v k:Nat),d.drop i=a->i<=d.length->v<10 ^ i->a.length<k ->
  QU (ZC n (mkS d)) k ((v:Int),i)=some (if US a/\(d.length<=9\/a=[]) then .inr (yX v a:Int) else .inl ())
 | _,_,_,0,_,_,_,hk=>absurd hk (by omega)
 | [],i,v,k+1,hd,hi,_,_=>by
  have u:i=d.length:=by have:=List.drop_eq_nil_iff.1 hd;omega
  rw[ZP (e:=.inr (v:Int)),jTj (show US []/\(d.length<=9\/([]:Wrd)=[]) from⟨fun c hc=>(by cases hc),.inr rfl⟩)]
  ·rfl
  unfold ZC;dsimp only;rw[jFj (by rw[Qp];omega)]
 | x::a,i,v,k+1,hd,hi,hv,hk=>by
  obtain⟨l,y,o⟩:=Qjo hd;have j:=kx y;by_cases g:48<=x.toNat/\x.toNat<=57
  ·have b:Utf8.decode (mkS d) i=(x.toNat,1):=by have:=Ek (s:=mkS d) (p:=i) (by rw[j];omega);rw[j] at this;exact this
   by_cases f:d.length<=9
   ·have q:v<1000000000:=QkB (by omega) hv;have z:=QdQ n d a (i+1) (10*v+(x.toNat - 48)) k o l (by rw[Nat.pow_succ];omega) (by simp at hk;omega);rw[W8 (s':=(((10*v+(x.toNat - 48):Nat):Int),i+1)),z]
    ·have e:(US (x::a)/\(d.length<=9\/x::a=[]))↔(US a/\(d.length<=9\/a=[])):=by rw[uJ];exact⟨fun h=>⟨h.1.2,.inl f⟩,fun h=>⟨⟨g,h.1⟩,.inl f⟩⟩
     by_cases m:US a/\(d.length<=9\/a=[])
     ·rw[jTj m,jTj (e.2 m)];rfl
     ·rw[jFj m,jFj (fun h=>m (e.1 h))]
    ·exact Qh9 n l b g f q
   ·rw[ZP (e:=.inl ()),jFj (fun h=>h.2.elim (fun h=>f h) (fun h=>by cases h))];unfold ZC;dsimp only;rw[jTj (by rw[Qp];omega),b];dsimp only;rw[jFj (by omega),jFj (by omega),jTj (by rw[Qp];omega)]
  ·rw[ZP (e:=.inl ()),jFj (fun h=>g (uJ.1 h.1).1)];unfold ZC;dsimp only;rw[jTj (by rw[Qp];omega)];by_cases r:x.toNat<128
   ·have b:Utf8.decode (mkS d) i=(x.toNat,1):=by have:=Ek (s:=mkS d) (p:=i) (by rw[j];exact r);rw[j] at this;exact this
    rw[b];dsimp only;by_cases t:x.toNat<48
    ·rw[jTj (by omega)]
    ·rw[jFj (by omega),jTj (by omega)]
   ·have:=yl (s:=mkS d) (p:=i) (by rw[j];exact r);rw[jFj (by omega),jTj (by omega)]
def intV (w:Wrd):Int:=if US w/\(w.length<=9\/w=[]) then(yX 0 w:Int) else 0
theorem Qia {w:Wrd}{v:Int}(h:num w=some v):intV w=v:=by
 unfold num at h;split at h;case isFalse=>cases h
 rename_i a;unfold intV;rw[jTj ⟨a.2.2.1,.inl a.2.1⟩];exact Option.some.inj h
theorem QeQ {n:Nat}(k:3000<=n){w:Wrd}(l:w.length<=2000):YP n (mkS w)=some (intV w,(num w).isSome):=by
 unfold YP;have d:QU (ZC n (mkS w)) n (0,0)=_:=QdQ n w w 0 0 n rfl (Nat.zero_le _) (by decide) (by omega);rw[d];unfold intV num;have j:(⟨#[]⟩:jSj)=mkS []:=rfl;by_cases hc:US w/\(w.length<=9\/w=[])
 ·rw[jTj hc,jTj hc,jBj];dsimp only;rw[j,Qfb];cases w with
  | nil =>
   have a:¬yk []:=fun h=>h.1 rfl;rw[jFj (by decide),jFj a];rfl
  | cons x r =>
   have c:(x::r).length<=9:=hc.2.resolve_right (by simp);have i:UY (mkS (x::r)) 0=some (x.toNat:Int):=Qhq (x::r) 0;rw[jTj (by simp),i];by_cases g:(x::r).length=1
   ·rw[jTj (by rw[Qp,g];rfl),jTj ⟨by simp,c,hc.1,.inr g⟩];rfl
   ·rw[jFj (by rw[Qp];omega),jBj];by_cases b:x=48
    ·have a:¬yk (x::r):=fun h=>by
      obtain h|h:=h.2.2.2
      ·rw[b] at h;exact h rfl
      ·exact g h
     rw[jFj a,b];rfl
    ·have f : ¬((x.toNat:Int)=48):=fun e=>b (UInt8.toNat_inj.1 (by show x.toNat=48;omega));rw[jTj ⟨by simp,c,hc.1,.inl (by simpa using b)⟩];simp[f]
 ·have a:¬yk w:=fun h=>hc ⟨h.2.2.1,.inl h.2.1⟩;rw[jFj hc,jFj hc,jBj,jFj a];rfl
def ZA (wsx:List Wrd)(b:Bool):Wrd×List Wrd×Bool:=match wsx with
 | []=>([],[],true)
 | w::l=>if w=[] then([],[],true) else(w,l,b)
def UV (wsx:List Wrd)(b:Bool):Int×List Wrd×Bool :=
 (intV (ZA wsx b).1,(ZA wsx b).2.1,if(ZA wsx b).2.2=true then true else !(num (ZA wsx b).1).isSome)
theorem yW {w:Wrd}{l:List Wrd}(b:Bool)(h:¬w=[]):ZA (w::l) b=(w,l,b):=by unfold ZA;dsimp only;rw[jFj h]
theorem Qgf (l:List Wrd)(b:Bool):ZA ([]::l) b=([],[],true):=by unfold ZA;dsimp only;rw[jTj rfl]
def OkW (wsx:List Wrd):Prop:=wsx.length<=3000/\∀w,w∈wsx->w.length<=2000
theorem K7 {wsx:List Wrd}(b:Bool)(h:OkW wsx):OkW (ZA wsx b).2.1/\(ZA wsx b).1.length<=2000:=by
 unfold ZA;cases wsx with
 | nil=>exact⟨⟨by simp,fun w a=>by cases a⟩,by simp⟩
 | cons w l =>
  dsimp only;by_cases a:w=[]
  ·rw[jTj a];exact⟨⟨by simp,fun w a=>by cases a⟩,by simp⟩
  ·rw[jFj a];exact⟨⟨by have:=h.1;simp at this ⊢;omega,fun x c=>h.2 x (jmj _ c)⟩,h.2 w jMj⟩
theorem zf (w:Wrd):((mkS w).toList==(⟨#[]⟩:jSj).toList)=decide (w=[]):=Qfb w []
theorem Qby {L:List Wrd}{i:Nat}{w:Wrd}(h:L[i]?=some w):el Vg (L.map eS) (i:Int)=some (mkS w) :=
 UG (un:=Vg) (enc:=fun x:jSj=>(.v (.string x):D)) (fun _=>rfl) (l:=L.map mkS) (i:=i) (x:=mkS w) (by rw[List.getElem?_map,h];rfl) ▸ (by rw[List.map_map];rfl)
theorem yK (n:Nat){wsx:List Wrd}(b:Bool)(h:OkW wsx):Wt n (wsx.map eS) b=some (mkS (ZA wsx b).1,(ZA wsx b).2.1.map eS,(ZA wsx b).2.2):=by
 unfold Wt ZA;cases wsx with
 | nil=>rfl
 | cons w l =>
  have d:=h.1;simp only[List.length_cons] at d;have c:el Vg ((w::l).map eS) 0=some (mkS w):=Qby (i:=0) rfl;rw[jFj (by simp;omega),c,jBj,zf];by_cases a:w=[]
  ·rw[jTj (by simpa using a)];dsimp only;rw[jTj a];rfl
  ·rw[jFj (by simpa using a),jTj (by simp;omega)];dsimp only;rw[jFj a];rfl
theorem Qbd {n:Nat}(c:3000<=n){wsx:List Wrd}(b:Bool)(h:OkW wsx):Zp n (wsx.map eS) b=some ((UV wsx b).1,(UV wsx b).2.1.map eS,(UV wsx b).2.2):=by
 unfold Zp UV;rw[yK n b h,jBj];dsimp only;rw[QeQ c (K7 b h).2,jBj];by_cases a:(ZA wsx b).2.2=true
 ·rw[jTj a,jTj a]
 ·rw[jFj a,jFj a]
theorem QfC {wsx:List Wrd}(b:Bool)(h:OkW wsx):OkW (UV wsx b).2.1:=(K7 b h).1
def YK {a:Type}(f:List Wrd->Bool->a×List Wrd×Bool):Nat->List Wrd->Bool->List a×List Wrd×Bool
 | 0,wsx,b=>([],wsx,b)
 | k+1,wsx,b=>((f wsx b).1::(YK f k (f wsx b).2.1 (f wsx b).2.2).1,(YK f k (f wsx b).2.1 (f wsx b).2.2).2)
theorem QcR (wsx:List Wrd):(ZA wsx true).2.2=true:=by
 unfold ZA;cases wsx with
 | nil=>rfl
 | cons w l=>dsimp only;split<;>rfl
theorem QfF (wsx:List Wrd):(UV wsx true).2.2=true:=by unfold UV;rw[QcR];rfl
theorem wz {b:Type}{f:List Wrd->Bool->b×List Wrd×Bool}(a:∀wsx,(f wsx true).2.2=true):∀(k:Nat) (wsx:List Wrd),(YK f k wsx true).2.2=true
 | 0,wsx=>rfl
 | k+1,wsx=>by show(YK f k (f wsx true).2.1 (f wsx true).2.2).2.2=true;rw[a];exact wz a k _
theorem Qft {c:Type}{f:List Wrd->Bool->c×List Wrd×Bool}(a:∀{wsx} b,OkW wsx->OkW (f wsx b).2.1):∀(k:Nat) (wsx:List Wrd) (b:Bool),OkW wsx->OkW (YK f k wsx b).2.1
 | 0,wsx,b,h=>h
 | k+1,wsx,b,h=>Qft a k _ _ (a b h)
theorem jz {m:Type}{f:List Wrd->Bool->m×List Wrd×Bool}(g:Wrd->Option m)(b:∀wsx,(f wsx true).2.2=true)(d:(f [] false).2.2=true)
  (i:∀w l x,g w=some x->f (w::l) false=(x,l,false)) (j:∀w l,g w=none->(f (w::l) false).2.2=true):∀(k:Nat) (wsx:List Wrd),
  (∃xs,k<=wsx.length/\(wsx.take k).mapM g=some xs/\YK f k wsx false=(xs,wsx.drop k,false))\/(¬(k<=wsx.length/\((wsx.take k).mapM g).isSome=true)/\(YK f k wsx false).2.2=true)
 | 0,wsx=>.inl ⟨[],Nat.zero_le _,rfl,rfl⟩
 | k+1,[]=>by refine .inr ⟨fun h=>absurd h.1 (by simp),?_⟩;show(YK f k (f [] false).2.1 (f [] false).2.2).2.2=true;rw[d];exact wz b k _
 | k+1,w::l=>by
  cases hg:g w with
  | none =>
   refine .inr ⟨fun h=>?_,?_⟩
   ·have:=h.2;rw[List.take_succ_cons,List.mapM_cons,hg] at this;cases this
   ·show(YK f k (f (w::l) false).2.1 (f (w::l) false).2.2).2.2=true;rw[j w l hg];exact wz b k _
  | some x =>
   have e:YK f (k+1) (w::l) false=(x::(YK f k l false).1,(YK f k l false).2):=by show(_,_)=_;rw[i w l x hg]
   rw[e];obtain⟨xs,c,a,n⟩|⟨c,a⟩:=jz g b d i j k l
   ·refine .inl ⟨x::xs,by simp;omega,?_,?_⟩
    ·rw[List.take_succ_cons,List.mapM_cons,hg,a];rfl
    ·rw[n];rfl
   ·refine .inr ⟨fun h=>c ⟨by have:=h.1;simp at this;omega,?_⟩,a⟩;have:=h.2;rw[List.take_succ_cons,List.mapM_cons,hg] at this;cases hm:(l.take k).mapM g with
    | none=>rw[hm] at this;cases this
    | some _=>rfl
def nmG (w:Wrd):Option Wrd:=if w=[] then none else some w
theorem QeI (k:Nat)(wsx:List Wrd):(∃xs,k<=wsx.length/\(wsx.take k).mapM nmG=some xs/\YK ZA k wsx false=(xs,wsx.drop k,false))\/(¬(k<=wsx.length/\((wsx.take k).mapM nmG).isSome=true)/\(YK ZA k wsx false).2.2=true) :=
 jz nmG QcR rfl
  (fun w l x h=>by
   unfold nmG at h;split at h
   ·cases h
   ·rename_i a;cases h;unfold ZA;dsimp only;rw[jFj a])
  (fun w l h=>by
   unfold nmG at h;split at h
   ·rename_i a;unfold ZA;dsimp only;rw[jTj a]
   ·cases h) k wsx
theorem Qgg (k:Nat)(wsx:List Wrd):(∃xs,k<=wsx.length/\(wsx.take k).mapM num=some xs/\YK UV k wsx false=(xs,wsx.drop k,false))\/(¬(k<=wsx.length/\((wsx.take k).mapM num).isSome=true)/\(YK UV k wsx false).2.2=true) :=
 jz num QfF rfl
  (fun w l x h=>by
   have a:¬w=[]:=fun e=>by rw[e] at h;unfold num at h;rw[jFj (fun h:yk []=>h.1 rfl)] at h;cases h
   unfold UV;rw[yW false a,h,Qia h];rfl)
  (fun w l h=>by
   unfold UV;by_cases a:w=[]
   ·rw[a,Qgf];rfl
   ·rw[yW false a,h];rfl) k wsx
abbrev Tri:=Ki×List Wrd×List Int
def Jl:List Wrd->Option Tri
 | []=>none
 | w::rest=>match zl w with
  | none=>none
  | some k=>if rest.length=kn k+kv k then(((rest.take (kn k)).mapM nmG).bind fun ns=>((rest.drop (kn k)).mapM num).bind fun vs=>some (k,ns,vs)) else none
theorem jN (k:Ki):kn k<=2/\kv k<=5:=by cases k<;>decide
theorem Qh1 (k:Ki):∀(p:Nat),p<(kr k).length->Utf8.decode (mkS (kr k)) p=((Kf (mkS (kr k)) p),1):=by
 intro p hp;refine Ek ?_;have h:∀c,c∈kr k->c.toNat<128:=by cases k<;>decide
 obtain⟨x,a⟩:∃x,(kr k)[p]?=some x:=⟨_,jej hp⟩
 rw[kx a];exact h x (jgj a)
theorem QjA {b k:Nat}(a:b<=200)(h:k<=5000):Wi b k:=UO a h
theorem QdX (n:Nat)(d:Int){wsx:List Wrd}(b:Bool)(w:jSj)(k:Ki)(v:Int)(f g:FnD)(h:OkW wsx):∀(m p:Nat) (acc:List Wrd) (a:List Wrd) (c:Bool) (K:Nat),p+m=kn k->p=acc.length->OkW a->m<K->p≠0 ->
  QU (WA n d (w,wsx.map eS,b) (mkS (kr k),v,f,g)) K (.inr (a.map eS,c,p,acc.map eS))=some (.inr ((YK ZA m a c).2.1.map eS,(YK ZA m a c).2.2,(acc++(YK ZA m a c).1).map eS))
 | m,p,acc,a,c,0,_,_,_,hK,_=>absurd hK (by omega)
 | 0,p,acc,a,c,K+1,hp,ha,hu,hK,h0=>by
  rw[ZP (e:=.inr (a.map eS,c,acc.map eS))]
  ·simp only[YK,List.append_nil]
  unfold WA;dsimp only;rw[jFj (by rw[Qp];unfold kn at hp;omega)]
 | m+1,p,acc,a,c,K+1,hp,ha,hu,hK,h0=>by
  have j:=jN k;have i:=QdX n d b w k v f g h m (p+1) (acc++[(ZA a c).1]) (ZA a c).2.1 (ZA a c).2.2 K (by omega) (by simp;omega) (K7 c hu).1 (by omega) (by omega);rw[W8 (s':=.inr ((ZA a c).2.1.map eS,(ZA a c).2.2,p+1,(acc++[(ZA a c).1]).map eS)),i]
  ·simp only[YK,List.append_assoc,List.singleton_append]
  ·unfold WA;dsimp only;rw[jTj (by rw[Qp];unfold kn at hp;omega),yK n c hu,jBj,jTj (QjA (by decide) (by rw[jlj];omega)),Qh1 k p (by unfold kn at hp;omega),List.map_append];rfl
theorem QgS (n:Nat)(j:3000<=n)(e:Int){wsx:List Wrd}(b:Bool)(w:jSj)(k:Ki)(v:Int)(f g:FnD)(d:OkW wsx) :
  QU (WA n e (w,wsx.map eS,b) (mkS (kr k),v,f,g)) n (.inl ())=some (if kn k=0 then .inl () else .inr ((YK ZA (kn k) wsx b).2.1.map eS,(YK ZA (kn k) wsx b).2.2,(YK ZA (kn k) wsx b).1.map eS)):=by
 have i:=jN k;obtain⟨K,rfl⟩:∃K,n=K+1:=⟨n - 1,by omega⟩
 by_cases a:kn k=0
 ·rw[jTj a];refine ZP ?_;unfold WA;dsimp only;rw[jFj (by rw[Qp];unfold kn at a;omega)]
 ·rw[jFj a];obtain⟨m,c⟩:∃m,kn k=m+1:=⟨kn k - 1,by omega⟩
  have h:=QdX (K+1) e b w k v f g d m 1 [(ZA wsx b).1] (ZA wsx b).2.1 (ZA wsx b).2.2 K (by omega) rfl (K7 b d).1 (by omega) (by omega);rw[W8 (s':=.inr ((ZA wsx b).2.1.map eS,(ZA wsx b).2.2,1,[(ZA wsx b).1].map eS)),h,c]
  ·rfl
  ·unfold WA;dsimp only;rw[jTj (by rw[Qp];unfold kn at c;omega),yK _ b d,jBj,Qh1 k 0 (by unfold kn at c;omega)];rfl
theorem QfZ {n:Nat}(k:3000<=n){step:(Unit)⊕(Int×jVj×Bool×jVj)->Option ((Unit⊕Int×jVj×Bool×jVj)⊕Unit⊕jVj×Bool×jVj)}{V:Nat}{wsx:List Wrd}{b:Bool}(l:OkW wsx)(u:V<=5)
  (o:step (.inl ())=if 0<(V:Int) then(Zp n (wsx.map eS) b).bind fun t=>some (.inl (.inr (1,t.2.1,t.2.2,[I t.1]))) else some (.inr (.inl ())))
  (q:∀(i:Int) (a:jVj) (c:Bool) (acc:jVj),step (.inr (i,a,c,acc))=if i<(V:Int) then(Zp n a c).bind fun t=>if Wi 8 (acc.length+1) then if Qg (i+1) then some (.inl (.inr (i+1,t.2.1,t.2.2,acc++([I t.1]:jVj)))) else none else none else some (.inr (.inr (a,c,acc)))) :
  QU step n (.inl ())=some (if V=0 then .inl () else .inr ((YK UV V wsx b).2.1.map eS,(YK UV V wsx b).2.2,(YK UV V wsx b).1.map I)):=by
 have main:∀(m p:Nat) (acc:List Int) (a:List Wrd) (c:Bool) (K:Nat),p+m=V->p=acc.length->OkW a->m<K ->
   QU step K (.inr ((p:Int),a.map eS,c,acc.map I))=some (.inr ((YK UV m a c).2.1.map eS,(YK UV m a c).2.2,(acc++(YK UV m a c).1).map I)):=by
  intro m;induction m with
  | zero =>
   intro p acc a c K hp r f d;obtain⟨K,rfl⟩:∃j,K=j+1:=⟨K - 1,by omega⟩
   rw[ZP (e:=.inr (a.map eS,c,acc.map I))]
   ·simp only[YK,List.append_nil]
   rw[q,jFj (by omega)]
  | succ m ih =>
   intro p acc a c K hp r f d;obtain⟨K,rfl⟩:∃j,K=j+1:=⟨K - 1,by omega⟩
   have h:=ih (p+1) (acc++[(UV a c).1]) (UV a c).2.1 (UV a c).2.2 K (by omega) (by simp;omega) (QfC c f) (by omega);rw[W8 (s':=.inr (((p+1:Nat):Int),(UV a c).2.1.map eS,(UV a c).2.2,(acc++[(UV a c).1]).map I)),h]
   ·simp only[YK,List.append_assoc,List.singleton_append]
   ·rw[q,jTj (by omega),Qbd k c f,jBj,jTj (QjA (by decide) (by rw[jlj];omega)),jTj (i64 (by omega) (by omega)),List.map_append];rfl
 obtain⟨K,d⟩:∃j,n=j+1:=⟨n - 1,by omega⟩
 by_cases g:V=0
 ·rw[jTj g,d];refine ZP ?_;rw[o,jFj (by omega)]
 ·rw[jFj g];obtain⟨m,s⟩:∃m,V=m+1:=⟨V - 1,by omega⟩
  have h:=main m 1 [(UV wsx b).1] (UV wsx b).2.1 (UV wsx b).2.2 K (by omega) rfl (QfC b l) (by omega);rw[show QU step n (.inl ())=QU step (K+1) (.inl ()) by rw[<-d],W8 (s':=.inr (1,(UV wsx b).2.1.map eS,(UV wsx b).2.2,[(UV wsx b).1].map I))]
  ·rw[s];exact h
  ·rw[o,jTj (by omega),Qbd k b l,jBj];rfl
def evX (wsx:List Wrd):Option (jSj×List Wrd×List Int×Bool):=match zl (ZA wsx false).1 with
 | none=>none
 | some k =>
  let r:=YK ZA (kn k) (ZA wsx false).2.1 (ZA wsx false).2.2
  let q:=YK UV (kv k) r.2.1 r.2.2
  some (mkS (ZA wsx false).1,r.1,q.1,if q.2.2=true then false else decide (q.2.1=[]))
theorem len0 (l:List Wrd):(((l.map eS).length:Int)==0)=decide (l=[]):=by
 cases l with
 | nil=>rfl
 | cons a l=>simp;omega
theorem Qcs (b d:Bool)(a:Int)(w:jSj)(ns vs:jVj):(if b=true then some (a,w,ns,vs,(⟨#[]⟩:jSj),false) else some (a,w,ns,vs,⟨#[]⟩,d))=some (a,w,ns,vs,⟨#[]⟩,if b=true then false else d):=by cases b<;>rfl
theorem uZ {n:Nat}(l:3000<=n)(i:Int){wsx:List Wrd}(e:OkW wsx):Yj n i (wsx.map eS)=some (match evX wsx with
  | none=>(0,⟨#[]⟩,[],[],⟨#[]⟩,false)
  | some (w,ns,vs,ok)=>(i,w,ns.map eS,vs.map I,⟨#[]⟩,ok)):=by
 unfold Yj evX;rw[yK n false e,jBj];dsimp only;cases hk:zl (ZA wsx false).1 with
 | none =>
  have m:¬(W5 (.string (mkS (ZA wsx false).1)) GB).isSome=true:=fun h=>by obtain⟨k,d⟩:=jw h;rw[VN] at d;exact jQ hk k d
  rw[jFj m]
 | some k =>
  obtain⟨p,f,g,q⟩:=yM (a:=mkS (ZA wsx false).1) (k:=k) (by rw[VN];exact JV hk);have o:=jN k;rw[jTj p,q,jBj,QgS n l i (ZA wsx false).2.2 (mkS (ZA wsx false).1) k (kv k:Int) f g (K7 false e).1,jBj];have r:OkW (YK ZA (kn k) (ZA wsx false).2.1 (ZA wsx false).2.2).2.1:=Qft (fun b h=>(K7 b h).1) _ _ _ (K7 false e).1;by_cases j:kn k=0
  ·rw[jTj j];dsimp only;rw[QfZ (V:=kv k) l (K7 false e).1 o.2 rfl (fun _ _ _ _=>rfl),jBj,j];by_cases c:kv k=0
   ·rw[jTj c,c];dsimp only[YK];rw[len0];exact Qcs _ _ _ _ _ _
   ·rw[jFj c];dsimp only[YK];rw[len0];exact Qcs _ _ _ _ _ _
  ·rw[jFj j];dsimp only;rw[QfZ (V:=kv k) l r o.2 rfl (fun _ _ _ _=>rfl),jBj];by_cases c:kv k=0
   ·rw[jTj c,c];dsimp only[YK];rw[len0];exact Qcs _ _ _ _ _ _
   ·rw[jFj c];dsimp only;rw[len0];exact Qcs _ _ _ _ _ _
theorem ux {b c:Type}{g:b->Option c}:∀{l:List b} {xs:List c},l.mapM g=some xs->xs.length=l.length
 | [],xs,h=>by cases h;rfl
 | a::l,xs,h=>by
  rw[List.mapM_cons] at h;cases ha:g a with
  | none=>rw[ha] at h;cases h
  | some x =>
   rw[ha] at h;cases hl:l.mapM g with
   | none=>rw[hl] at h;cases h
   | some ys =>
    rw[hl] at h;cases h;simp[ux hl]
theorem Qaa (wsx:List Wrd):(∀k ns vs,Jl wsx=some (k,ns,vs)->evX wsx=some (mkS (kw k),ns,vs,true))/\(Jl wsx=none->∀w ns vs ok,evX wsx=some (w,ns,vs,ok)->ok=false):=by
 cases wsx with
 | nil =>
  refine⟨fun k ns vs h=>(by cases h),fun _ w ns vs ok h=>?_⟩;unfold evX at h;rw[show zl (ZA [] false).1=none by decide] at h;cases h
 | cons w rest =>
  by_cases m:w=[]
  ·subst m;have e:zl []=none:=by decide
   have q:evX ([]::rest)=none:=by unfold evX;rw[show(ZA ([]::rest) false).1=[] by unfold ZA;dsimp only;rw[jTj rfl],e]
   refine⟨fun k ns vs h=>?_,fun _ w ns vs ok h=>?_⟩
   ·unfold Jl at h;dsimp only at h;rw[e] at h;cases h
   ·rw[q] at h;cases h
  ·have p:ZA (w::rest) false=(w,rest,false):=by unfold ZA;dsimp only;rw[jFj m]
   unfold evX Jl;rw[p];dsimp only;cases hk:zl w with
   | none=>exact⟨fun k ns vs h=>(by cases h),fun _ w ns vs ok h=>(by cases h)⟩
   | some k =>
    dsimp only;have f:=JV hk;obtain⟨xs,l,c,n⟩|⟨l,c⟩:=QeI (kn k) rest
    ·rw[n];dsimp only;obtain⟨ys,b1,d,o⟩|⟨b1,d⟩:=Qgg (kv k) (rest.drop (kn k))
     ·rw[o];dsimp only;rw[List.length_drop] at b1;by_cases a:rest.length=kn k+kv k
      ·have i:(rest.drop (kn k)).take (kv k)=rest.drop (kn k):=List.take_of_length_le (by simp;omega);have b:(rest.drop (kn k)).drop (kv k)=[]:=List.drop_eq_nil_of_le (by simp;omega);rw[i] at d;rw[jTj a,c,jBj,d,jBj,b];refine⟨fun j ns vs h=>?_,fun h=>(by cases h)⟩;cases h;rw[f];rfl
      ·rw[jFj a];refine⟨fun j ns vs h=>(by cases h),fun _ w' ns vs ok h=>?_⟩;have b:¬(rest.drop (kn k)).drop (kv k)=[]:=fun b=>a (by have:=List.drop_eq_nil_iff.1 b;simp at this;omega);cases h;simp[b];omega
     ·have g:¬rest.length=kn k+kv k\/(rest.drop (kn k)).mapM num=none:=by
       by_cases a:rest.length=kn k+kv k
       ·right;have i:(rest.drop (kn k)).take (kv k)=rest.drop (kn k):=List.take_of_length_le (by simp;omega);rw[i] at b1;cases hm:(rest.drop (kn k)).mapM num with
        | none=>rfl
        | some _=>exact absurd ⟨by simp;omega,by rw[hm];rfl⟩ b1
       ·exact .inl a
      have hp:(if rest.length=kn k+kv k then(((rest.take (kn k)).mapM nmG).bind fun ns=>((rest.drop (kn k)).mapM num).bind fun vs=>some (k,ns,vs)) else none)=none:=by
       obtain h|h:=g
       ·rw[jFj h]
       ·rw[h,c];split<;>rfl
      rw[hp];refine⟨fun j ns vs h=>(by cases h),fun _ w' ns vs ok h=>?_⟩;rw[jTj d] at h;cases h;rfl
    ·have hp:(if rest.length=kn k+kv k then(((rest.take (kn k)).mapM nmG).bind fun ns=>((rest.drop (kn k)).mapM num).bind fun vs=>some (k,ns,vs)) else none)=none:=by
      by_cases a:rest.length=kn k+kv k
      ·rw[jTj a];cases hm:(rest.take (kn k)).mapM nmG with
       | none=>rfl
       | some _=>exact absurd ⟨by omega,by rw[hm];rfl⟩ l
      ·rw[jFj a]
     rw[hp,c];refine⟨fun j ns vs h=>(by cases h),fun _ w' ns vs ok h=>?_⟩;rw[wz QfF,jTj rfl] at h;cases h;rfl
theorem Qd1 {e:Type}{d a:List e}{i:Nat}{x:e}(c:d.drop i=x::a):i<d.length/\d[i]?=some x/\d.drop (i+1)=a:=by
 have b:i<d.length:=by
  obtain h|h:=Nat.lt_or_ge i d.length
  ·exact h
  ·rw[List.drop_eq_nil_of_le h] at c;cases c
 have:=List.drop_eq_getElem_cons b;rw[c] at this;refine⟨b,?_,(List.cons.inj this).2.symm⟩;rw[jej b];exact congrArg some (List.cons.inj this).1.symm
theorem bnd {a b:Type}{q:Option a}{f:a->Option b}{x:a}{r:Option b}(h:q=some x)(e:f x=r):q.bind f=r:=by rw[h];exact e
theorem zY {S E:Type}{step:S->Option (S⊕E)}:∀(k:Nat) (s:S) {e:E},QU step k s=some e->∀j,QU step (k+j) s=some e
 | 0,s,e,h,j=>by cases h
 | k+1,s,e,h,j=>by
  rw[show k+1+j=(k+j)+1 by omega];cases hs:step s with
  | none =>
   change(match step s with|none=>none|some (.inl s')=>QU step k s' | some (.inr e)=>some e)=_ at h;rw[hs] at h;cases h
  | some r =>
   cases r with
   | inl s' =>
    rw[W8 hs] at h ⊢;exact zY k s' h j
   | inr e' =>
    rw[ZP hs] at h ⊢;exact h
def zn (u:Nat):Wrd:=if u=0 then[] else Lib.decDigits u
theorem kg {u:Nat}(h:u≠0):zn u=zn (u / 10)++[UInt8.ofNat (48+u % 10)]:=by
 unfold zn;rw[jFj h,Lib.decDigits];by_cases a:u<10
 ·rw[dif_pos a,jTj (by omega),show u % 10=u by omega];rfl
 ·rw[dif_neg a,jFj (by omega)]
theorem Qjn:∀k:Fin 10,Utf8.encode (IntKind.wrap .i32 (48+((k.val:Nat):Int)))=mkS [UInt8.ofNat (48+k.val)]:=by decide
theorem Qac {k:Nat}(h:k<10):Utf8.encode (IntKind.wrap .i32 (48+(k:Int)))=mkS [UInt8.ofNat (48+k)]:=Qjn ⟨k,h⟩
def evOf (m:Int)(t:Tri):Ev:=(m,mkS (kw t.1),t.2.1.map mkS,t.2.2,⟨#[]⟩)
theorem Qey {wsx:List Wrd}{t:Tri}(h:Jl wsx=some t):t.2.1.length=kn t.1/\t.2.2.length=kv t.1/\∃w c,wsx=w::c/\w=kw t.1/\c.length=kn t.1+kv t.1/\t.2.1=c.take (kn t.1)/\(c.drop (kn t.1)).mapM num=some t.2.2:=by
 unfold Jl at h;cases wsx with
 | nil=>cases h
 | cons w c =>
  dsimp only at h;cases hk:zl w with
  | none=>rw[hk] at h;cases h
  | some k =>
   rw[hk] at h;dsimp only at h;split at h;case isFalse=>cases h
   rename_i f;cases ha:(c.take (kn k)).mapM nmG with
   | none=>rw[ha] at h;cases h
   | some a =>
    rw[ha,jBj] at h;cases hb:(c.drop (kn k)).mapM num with
    | none=>rw[hb] at h;cases h
    | some b =>
     rw[hb,jBj] at h;cases h;have i:=ux ha;have j:=ux hb;have e:∀{l a:List Wrd},l.mapM nmG=some a->a=l:=by
      intro l;induction l with
      | nil=>intro a h;cases h;rfl
      | cons x l ih =>
       intro a h;rw[List.mapM_cons] at h;unfold nmG at h;by_cases g:x=[]
       ·rw[jTj g] at h;cases h
       ·rw[jFj g] at h;cases f:l.mapM (fun w=>if w=[] then none else some w) with
        | none =>
         have d : l.mapM nmG=none:=f;change(some x >>= fun a=>(l.mapM nmG) >>= fun b=>pure (a::b))=some a at h;rw[d] at h;cases h
        | some b =>
         have d : l.mapM nmG=some b:=f;change(some x >>= fun a=>(l.mapM nmG) >>= fun b=>pure (a::b))=some a at h;rw[d] at h;cases h;rw[ih d]
     refine⟨by rw[i];simp;omega,by rw[j];simp;omega,w,c,rfl,JV hk,f,e ha,hb⟩
theorem Qb8 {p:Wrd}(h:p.length<=2000):OkW (spl 32 p):=by
 refine⟨by rw[qO];have:p.count 32<=p.length:=List.count_le_length;omega,fun w d=>?_⟩;have:∀{c:UInt8} {l w:Wrd},w∈spl c l->w.length<=l.length:=by
  intro c l w d;obtain⟨a,b,h⟩:=List.append_of_mem d;have e:=uL c l;rw[h] at e;rw[<-e];clear e h d;have glue_len:∀(L:List Wrd),w∈L->w.length<=(glue c L).length:=by
   intro L;induction L with
   | nil=>intro h;cases h
   | cons x L ih =>
    intro h;cases L with
    | nil =>
     cases h with
     | head=>exact jLj _
     | tail _ h=>cases h
    | cons y L =>
     show w.length<=(x++c::glue c (y::L)).length;cases h with
     | head=>simp
     | tail _ h=>have:=ih h;simp at this ⊢;omega
  exact glue_len _ (by simp)
 have:=this d;omega
abbrev dat (s:jSj):Wrd:=s.data.toList
def VX (e:Ev):List Wrd:=Lib.itoa e.1::dat e.2.1::(e.2.2.1.map dat++e.2.2.2.1.map Lib.itoa)
def Qf5 (e:Ev):Wrd:=Lib.join (VX e) [32]
theorem map_dat (l:List jSj):(l.map dat).map eS=l.map Sd:=by rw[List.map_map];exact List.map_congr_left fun s _=>by show eS (dat s)=Sd s;unfold eS dat;rw[UA]
theorem qV (l:List Wrd):(l.map mkS).map dat=l:=by
 rw[List.map_map];conv=>rhs;rw[<-List.map_id l]
 exact List.map_congr_left fun p _=>VN p
theorem Qbp (c:UInt8):∀L:List Wrd,glue c L=Lib.join L [c]
 | []=>rfl
 | [p]=>(Lib.join_one p [c]).symm
 | p::q::L=>by show p++c::glue c (q::L)=_;rw[Qbp c (q::L),Lib.join_cons,Lib.join_cons];simp[Lib.joinTail]
theorem uH (n:Nat){a:Int}(h:Qg a):Wr n a=some (mkS (Lib.itoa a)):=by unfold Wr;rw[jTj h];rfl
theorem Qfp:∀L:List Wrd,jx (L.map eS)=some (L.map mkS)
 | []=>rfl
 | p::L=>by rw[jCj,jx,show JY (eS p)=some (mkS p) from rfl,Qfp L];rfl
theorem Qje (n:Nat)(L:List Wrd)(sep:Wrd)(a:L.length<=1000000)(b:(Lib.join L sep).length<=1000000):ZI n (L.map eS) (mkS sep)=some (mkS (Lib.join L sep)):=by unfold ZI;rw[Qfp,jBj];have e:(L.map mkS).map (·.data.toList)=L:=qV L;unfold QjE;rw[e,VN,jTj ⟨by rw[jlj];omega,by omega⟩];rfl
theorem QfO {n:Nat}(e:3000<=n)(l:List Int)(d:l.length<=60)(h:∀v,v∈l->Qg v):Wu n (l.map I)=some ((l.map Lib.itoa).map eS):=by
 unfold Wu;have:=Y4 (step:=WK n (l.map I)) (E:=jVj) (fun out=>out) l (fun v=>[eS (Lib.itoa v)]) (fun _=>jLj _)
  (fun i out x a f=>by have c:=(jGj a).1;have b:=h x (jgj a);unfold WK;dsimp only;rw[jTj (ZF a),Ei a,jBj,uH n b,jBj,jTj (UO (by decide) (by omega)),jTj (by unfold Qg;omega)];rfl)
  (fun out _=>by unfold WK;dsimp only;rw[jFj (by simp)]) (k:=n) (by omega)
 rw[this,jBj,wQ,List.map_map];rfl
theorem ub (b:Nat):∀(L:List Wrd),(∀w,w∈L->w.length<=b)->(Lib.joinTail [32] L).length<=(b+1)*L.length
 | [],_=>by simp[Lib.joinTail]
 | w::L,h=>by have d:=h w jMj;have a:=ub b L fun x c=>h x (jmj _ c);simp only[Lib.joinTail,jCj,List.flatten_cons,jaj,List.length_cons,List.length_nil] at a ⊢;rw[Nat.mul_add];omega
theorem QhZ (k:Ki):(kw k).length<=7:=by cases k<;>decide
theorem QeT {e:Ev}{k:Ki}(a:Good e k):(VX e).length<=9/\∀w,w∈VX e->w.length<=24:=by
 have g:=jN k;have c:=QhZ k;refine⟨?_,fun w b=>?_⟩
 ·have:=a.names;have:=a.vals;unfold VX;simp;omega
 ·unfold VX at b;obtain h|h:=List.mem_cons.1 b
  ·rw[h];have:=qa (n:=e.1) (by have:=a.num;omega) (by have:=a.num;omega);omega
  obtain h|h:=List.mem_cons.1 h
  ·rw[h];show e.2.1.data.toList.length<=24;rw[a.kind];omega
  obtain h|h:=List.mem_append.1 h
  ·obtain⟨s,d,rfl⟩:=List.mem_map.1 h;have:=a.name s d;unfold Yw at this;simp only[jAj,decide_eq_true_eq] at this;show s.data.toList.length<=24;rw[dlen];omega
  ·obtain⟨v,f,rfl⟩:=List.mem_map.1 h;have:=a.val v f;have:=qa (n:=v) (by omega) (by omega);omega
theorem Qiv {e:Ev}{k:Ki}(d:Good e k):(Qf5 e).length<=300:=by obtain⟨b,a⟩:=QeT d;unfold Qf5;unfold VX at b a ⊢;rw[Lib.join_cons,jaj];have g:=a _ jMj;have c:=ub 24 _ fun w f=>a w (jmj _ f);simp only[List.length_cons] at b c;omega
theorem QhN {a:Type}(f:a->D)(l:List a):Vk (l.map f)=true↔l=[]:=by cases l<;>simp[Vk]
def iM (ms:List Mir)(a:jSj):Nat:=(pos (nmM ms) a).getD 0
def iO (os:List Off)(a:jSj):Nat:=(pos (nmO os) a).getD 0
def zM:Mir:=(⟨#[]⟩,⟨#[]⟩,0,0,false,false)
def zO:Off:=(⟨#[]⟩,0,0,0,0,0,false)
def mAt (ms:List Mir)(a:jSj):Mir:=ms.getD (iM ms a) zM
def oAt (os:List Off)(a:jSj):Off:=os.getD (iO os a) zO
theorem VM {ms:List Mir}{a:jSj}(h:ZG (nmM ms) a=true):zk (nmM ms) a=(iM ms a:Int)/\iM ms a<ms.length/\ms[iM ms a]?=some (mAt ms a):=by
 obtain⟨i,b⟩:=Option.isSome_iff_exists.1 h;obtain⟨c,f⟩:=uq b;have e:iM ms a=i:=by unfold iM;rw[b];rfl
 have d:i<ms.length:=by unfold nmM at c;simpa using c
 refine⟨by unfold zk;rw[b,e],by rw[e];exact d,?_⟩;unfold mAt;rw[e,List.getD_eq_getElem?_getD,jej d];rfl
theorem J6 {os:List Off}{a:jSj}(h:ZG (nmO os) a=true):zk (nmO os) a=(iO os a:Int)/\iO os a<os.length/\os[iO os a]?=some (oAt os a):=by
 obtain⟨i,b⟩:=Option.isSome_iff_exists.1 h;obtain⟨c,f⟩:=uq b;have e:iO os a=i:=by unfold iO;rw[b];rfl
 have d:i<os.length:=by unfold nmO at c;simpa using c
 refine⟨by unfold zk;rw[b,e],by rw[e];exact d,?_⟩;unfold oAt;rw[e,List.getD_eq_getElem?_getD,jej d];rfl
def known (k:Ki)(r:Reg)(ns:List jSj):Int:=match k with
 | .sector=>QD (ZG r.sectors (ns.getD 0 ⟨#[]⟩)) 9
 | .mirror=>if ZG r.sectors (ns.getD 1 ⟨#[]⟩)=true then QD (ZG (nmM r.mirrors) (ns.getD 0 ⟨#[]⟩)) 9 else 10
 | .dim=>QD (!ZG r.sectors (ns.getD 0 ⟨#[]⟩)) 10
 | .offer=>QD (ZG (nmO r.offers) (ns.getD 0 ⟨#[]⟩)) 9
 | .deliver=>QD (!ZG (nmO r.offers) (ns.getD 0 ⟨#[]⟩)) 10
 | .bill=>QD (!ZG (nmO r.offers) (ns.getD 0 ⟨#[]⟩)) 10
 | .soil=>QD (!ZG (nmM r.mirrors) (ns.getD 0 ⟨#[]⟩)) 10
 | .clean=>QD (!ZG (nmM r.mirrors) (ns.getD 0 ⟨#[]⟩)) 10
 | .defect=>QD (!ZG (nmM r.mirrors) (ns.getD 0 ⟨#[]⟩)) 10
 | .repair=>QD (!ZG (nmM r.mirrors) (ns.getD 0 ⟨#[]⟩)) 10
 | .aim=>QD (!ZG (nmM r.mirrors) (ns.getD 0 ⟨#[]⟩)) 10
 | .park=>QD (!ZG (nmM r.mirrors) (ns.getD 0 ⟨#[]⟩)) 10
 | _=>0
def Qhs (vs:List Int):Int:=if vs.getD 1 0<vs.getD 0 0 then 14 else QD (decide (vs.getD 1 0>=vs.getD 2 0)) 14
def spec (k:Ki)(r:Reg)(ns:List jSj)(vs:List Int):Int:=match k with
 | .sector=>QD ((r.sectors.length:Int)==8) 5
 | .mirror=>QK [inR (vs.getD 1 0) 1 100,QD ((r.mirrors.length:Int)==32) 5]
 | .soil=>inR (vs.getD 1 0) 0 1000
 | .defect=>QK [QD (mAt r.mirrors (ns.getD 0 ⟨#[]⟩)).2.2.2.2.1 9,QD (mAt r.mirrors (ns.getD 0 ⟨#[]⟩)).2.2.2.2.2 31]
 | .repair=>QD (!(mAt r.mirrors (ns.getD 0 ⟨#[]⟩)).2.2.2.2.1) 22
 | .aim=>QK [QD (!r.filled) 30,QD r.tripped 29,QD (mAt r.mirrors (ns.getD 0 ⟨#[]⟩)).2.2.2.2.1 21,QD (mAt r.mirrors (ns.getD 0 ⟨#[]⟩)).2.2.2.2.2 9]
 | .park=>QD (!(mAt r.mirrors (ns.getD 0 ⟨#[]⟩)).2.2.2.2.2) 22
 | .sun=>inR (vs.getD 1 0) 0 1000
 | .fill=>QD r.filled 9
 | .drain=>QK [QD (!r.filled) 22,QD (r.mirrors.any isA) 31]
 | .trip=>QD r.tripped 9
 | .reset=>QD (!r.tripped) 22
 | .offer=>QK [Qhs vs,inR (vs.getD 3 0) 1 1000,inR (vs.getD 4 0) 0 1000,QD ((r.offers.length:Int)==32) 5]
 | .deliver=>if QK [QD (oAt r.offers (ns.getD 0 ⟨#[]⟩)).2.2.2.2.2.2 23,if vs.getD 0 0<(oAt r.offers (ns.getD 0 ⟨#[]⟩)).2.1 then 14 else QD (decide (vs.getD 0 0>=(oAt r.offers (ns.getD 0 ⟨#[]⟩)).2.2.1)) 14,QD (vs.getD 1 0==0) 3,QD (decide (vs.getD 1 0>WC (oAt r.offers (ns.getD 0 ⟨#[]⟩)))) 20]=0
   then QD (decide (vs.getD 1 0*1000000>r.heat+WP r (vs.getD 0 0))) 16
   else QK [QD (oAt r.offers (ns.getD 0 ⟨#[]⟩)).2.2.2.2.2.2 23,if vs.getD 0 0<(oAt r.offers (ns.getD 0 ⟨#[]⟩)).2.1 then 14 else QD (decide (vs.getD 0 0>=(oAt r.offers (ns.getD 0 ⟨#[]⟩)).2.2.1)) 14,QD (vs.getD 1 0==0) 3,QD (decide (vs.getD 1 0>WC (oAt r.offers (ns.getD 0 ⟨#[]⟩)))) 20]
 | .bill=>QK [QD (oAt r.offers (ns.getD 0 ⟨#[]⟩)).2.2.2.2.2.2 23,QD (decide (vs.getD 0 0<(oAt r.offers (ns.getD 0 ⟨#[]⟩)).2.2.1)) 32]
 | _=>0
def acc (k:Ki)(r:Reg)(ns:List jSj)(vs:List Int):Int:=if vs.getD 0 0<r.tick then 22 else QK [Gq r (vs.getD 0 0),known k r ns,spec k r ns vs]
theorem Y5 {S E:Type}{step:S->Option (S⊕E)}{k:Nat}{s s' : S}(a:0<k)(h:step s=some (.inl s')):QU step k s=QU step (k - 1) s':=by
 obtain⟨j,rfl⟩:∃j,k=j+1:=⟨k - 1,by omega⟩
 exact W8 h
theorem W7 {S E:Type}{step:S->Option (S⊕E)}{k:Nat}{s:S}{e:E}(a:0<k)(h:step s=some (.inr e)):QU step k s=some e:=by
 obtain⟨j,rfl⟩:∃j,k=j+1:=⟨k - 1,by omega⟩
 exact ZP h
theorem Xq {n:Nat}(x:1700<=n){s:jVj}{l:Int}{m o:FnD}{p:Int}{r:jSj}{t:jVj}{u:jSj}{v a:jVj}{b c:Int}{d e:Bool}{f g h:Int}{i:jVj}{j:jVj}{k:jVj}:Ql n (⟨#[]⟩) l m o p r s t u v a b c d e f g h i j k=some (0):=by
 unfold Ql;have q:Qh n (⟨#[]⟩) l m o p r s t u v a b c d e f g h i j k (false,0)=some (.inr (.inr false)):=by unfold Qh;dsimp only;rw[jFj (by decide)]
 rw[W7 (by omega) q,jBj];dsimp only;rw[QR,jBj];rfl
theorem Qjb {n:Nat}(y:1700<=n){m:Int}{o p:FnD}{r:Int}{s:jSj}{t:jVj}{u:jSj}{v c:jVj}{d e:Int}{f g:Bool}{h i j:Int}{k:jVj}{l:jVj}(b:List jSj)(z:b.length<=992)(a:jSj):Ql n (⟨#[83]⟩) m o p r s [Sd a] t u v c d e f g h i j (b.map Sd) k l=some (QD (ZG b a) 9):=by
 unfold Ql;have q:Qh n (⟨#[83]⟩) m o p r s [Sd a] t u v c d e f g h i j (b.map Sd) k l (false,0)=some (.inl (ZG b a,1)):=by unfold Qh;dsimp only;rw[jTj (by decide),show UY ⟨#[83]⟩ 0=some 83 from rfl,jBj,jTj (by decide),jTj (by decide),gs0,Wp b a (by omega) (by omega),jBj,jFj (by decide),jTj (by decide)];rfl
 have x:Qh n (⟨#[83]⟩) m o p r s [Sd a] t u v c d e f g h i j (b.map Sd) k l (ZG b a,1)=some (.inr (.inr (ZG b a))):=by unfold Qh;dsimp only;rw[jFj (show ¬(1:Int)<((⟨#[83]⟩:jSj).size:Int) by decide)]
 rw[Y5 (by omega) q,W7 (by omega) x,jBj];dsimp only;rw[QR,jBj]
theorem Qjc {n:Nat}(x:1700<=n){l:Int}{m o:FnD}{p:Int}{r:jSj}{s:jVj}{t:jSj}{u b:jVj}{c d:Int}{e f:Bool}{g h i:Int}{j:jVj}{k:jVj}(os:List Off)(y:os.length<=992)(a:jSj):Ql n (⟨#[79]⟩) l m o p r [Sd a] s t u b c d e f g h i j k (os.map Zs)=some (QD (ZG (nmO os) a) 9):=by
 unfold Ql;have q:Qh n (⟨#[79]⟩) l m o p r [Sd a] s t u b c d e f g h i j k (os.map Zs) (false,0)=some (.inl (ZG (nmO os) a,1)):=by unfold Qh;dsimp only;rw[jTj (by decide),show UY ⟨#[79]⟩ 0=some 79 from rfl,jBj,jTj (by decide),jFj (by decide),show IntKind.wrap .u8 (79+32)=111 from by decide,X8 os (by omega) (by omega),jBj,gs0,Wp (nmO os) a (by rw[Wy];omega) (by rw[Wy];omega),jBj,jFj (by decide),jTj (by decide)];rfl
 have v:Qh n (⟨#[79]⟩) l m o p r [Sd a] s t u b c d e f g h i j k (os.map Zs) (ZG (nmO os) a,1)=some (.inr (.inr (ZG (nmO os) a))):=by unfold Qh;dsimp only;rw[jFj (show ¬(1:Int)<((⟨#[79]⟩:jSj).size:Int) by decide)]
 rw[Y5 (by omega) q,W7 (by omega) v,jBj];dsimp only;rw[QR,jBj]
theorem Qja {n:Nat}(z:1700<=n){o:Int}{p r:FnD}{s:Int}{t:jSj}{u:jVj}{v:jSj}{x b:jVj}{c d:Int}{e f:Bool}{g i j:Int}{k:jVj}{l:jVj}(m:List jSj)(A:m.length<=992)(a:jSj):Ql n (⟨#[115]⟩) o p r s t [Sd a] u v x b c d e f g i j (m.map Sd) k l=some (QD (!ZG m a) 10):=by
 unfold Ql;by_cases h:ZG m a=true
 ·have q:Qh n (⟨#[115]⟩) o p r s t [Sd a] u v x b c d e f g i j (m.map Sd) k l (false,0)=some (.inl (false,1)):=by unfold Qh;dsimp only;rw[jTj (by decide),show UY ⟨#[115]⟩ 0=some 115 from rfl,jBj,jFj (by decide),jTj (by decide),gs0,Wp m a (by omega) (by omega),jBj,jTj h,jFj (by decide),jTj (by decide)];rfl
  have y:Qh n (⟨#[115]⟩) o p r s t [Sd a] u v x b c d e f g i j (m.map Sd) k l (false,1)=some (.inr (.inr false)):=by unfold Qh;dsimp only;rw[jFj (show ¬(1:Int)<((⟨#[115]⟩:jSj).size:Int) by decide)]
  rw[Y5 (by omega) q,W7 (by omega) y,jBj,h];dsimp only;rw[QR,jBj];rfl
 ·have q:Qh n (⟨#[115]⟩) o p r s t [Sd a] u v x b c d e f g i j (m.map Sd) k l (false,0)=some (.inr (.inl ())):=by unfold Qh;dsimp only;rw[jTj (by decide),show UY ⟨#[115]⟩ 0=some 115 from rfl,jBj,jFj (by decide),jTj (by decide),gs0,Wp m a (by omega) (by omega),jBj,jFj h]
  rw[W7 (by omega) q,jBj];simp only[Bool.not_eq_true] at h;rw[h];rfl
theorem qW {n:Nat}(z:1700<=n){m:Int}{o p:FnD}{r:Int}{s:jSj}{t:jVj}{u:jSj}{v b:jVj}{c d:Int}{e f:Bool}{g i j:Int}{k:jVj}{l:jVj}(ms:List Mir)(y:ms.length<=992)(a:jSj):Ql n (⟨#[109]⟩) m o p r s [Sd a] t u v b c d e f g i j k (ms.map Q1) l=some (QD (!ZG (nmM ms) a) 10):=by
 unfold Ql;by_cases h:ZG (nmM ms) a=true
 ·have q:Qh n (⟨#[109]⟩) m o p r s [Sd a] t u v b c d e f g i j k (ms.map Q1) l (false,0)=some (.inl (false,1)):=by unfold Qh;dsimp only;rw[jTj (by decide),show UY ⟨#[109]⟩ 0=some 109 from rfl,jBj,jFj (by decide),jFj (by decide),UE ms (by omega) (by omega),jBj,gs0,Wp (nmM ms) a (by rw[Zh];omega) (by rw[Zh];omega),jBj,jTj h,jFj (by decide),jTj (by decide)];rfl
  have x:Qh n (⟨#[109]⟩) m o p r s [Sd a] t u v b c d e f g i j k (ms.map Q1) l (false,1)=some (.inr (.inr false)):=by unfold Qh;dsimp only;rw[jFj (show ¬(1:Int)<((⟨#[109]⟩:jSj).size:Int) by decide)]
  rw[Y5 (by omega) q,W7 (by omega) x,jBj,h];dsimp only;rw[QR,jBj];rfl
 ·have q:Qh n (⟨#[109]⟩) m o p r s [Sd a] t u v b c d e f g i j k (ms.map Q1) l (false,0)=some (.inr (.inl ())):=by unfold Qh;dsimp only;rw[jTj (by decide),show UY ⟨#[109]⟩ 0=some 109 from rfl,jBj,jFj (by decide),jFj (by decide),UE ms (by omega) (by omega),jBj,gs0,Wp (nmM ms) a (by rw[Zh];omega) (by rw[Zh];omega),jBj,jFj h]
  rw[W7 (by omega) q,jBj];simp only[Bool.not_eq_true] at h;rw[h];rfl
theorem QfT {n:Nat}(y:1700<=n){m:Int}{o p:FnD}{r:Int}{s:jSj}{t:jVj}{u:jSj}{v b:jVj}{c d:Int}{e f:Bool}{g i j:Int}{k:jVj}{l:jVj}(os:List Off)(z:os.length<=992)(a:jSj):Ql n (⟨#[111]⟩) m o p r s [Sd a] t u v b c d e f g i j k l (os.map Zs)=some (QD (!ZG (nmO os) a) 10):=by
 unfold Ql;by_cases h:ZG (nmO os) a=true
 ·have q:Qh n (⟨#[111]⟩) m o p r s [Sd a] t u v b c d e f g i j k l (os.map Zs) (false,0)=some (.inl (false,1)):=by unfold Qh;dsimp only;rw[jTj (by decide),show UY ⟨#[111]⟩ 0=some 111 from rfl,jBj,jFj (by decide),jFj (by decide),X8 os (by omega) (by omega),jBj,gs0,Wp (nmO os) a (by rw[Wy];omega) (by rw[Wy];omega),jBj,jTj h,jFj (by decide),jTj (by decide)];rfl
  have x:Qh n (⟨#[111]⟩) m o p r s [Sd a] t u v b c d e f g i j k l (os.map Zs) (false,1)=some (.inr (.inr false)):=by unfold Qh;dsimp only;rw[jFj (show ¬(1:Int)<((⟨#[111]⟩:jSj).size:Int) by decide)]
  rw[Y5 (by omega) q,W7 (by omega) x,jBj,h];dsimp only;rw[QR,jBj];rfl
 ·have q:Qh n (⟨#[111]⟩) m o p r s [Sd a] t u v b c d e f g i j k l (os.map Zs) (false,0)=some (.inr (.inl ())):=by unfold Qh;dsimp only;rw[jTj (by decide),show UY ⟨#[111]⟩ 0=some 111 from rfl,jBj,jFj (by decide),jFj (by decide),X8 os (by omega) (by omega),jBj,gs0,Wp (nmO os) a (by rw[Wy];omega) (by rw[Wy];omega),jBj,jFj h]
  rw[W7 (by omega) q,jBj];simp only[Bool.not_eq_true] at h;rw[h];rfl
theorem Qh2 {n:Nat}(E:1700<=n){p:Int}{r s:FnD}{t:Int}{u:jSj}{v:jVj}{x:jSj}{y c:jVj}{d e:Int}{f i:Bool}{j k l:Int}{m:jVj}(o:List jSj)(F:o.length<=992)(ms:List Mir)(C:ms.length<=992)(a b:jSj):Ql n (⟨#[77,115]⟩) p r s t u [Sd a,Sd b] v x y c d e f i j k l (o.map Sd) (ms.map Q1) m=some (if ZG o b=true then QD (ZG (nmM ms) a) 9 else 10):=by
 unfold Ql;have q:Qh n (⟨#[77,115]⟩) p r s t u [Sd a,Sd b] v x y c d e f i j k l (o.map Sd) (ms.map Q1) m (false,0)=some (.inl (ZG (nmM ms) a,1)):=by unfold Qh;dsimp only;rw[jTj (by decide),show UY ⟨#[77,115]⟩ 0=some 77 from rfl,jBj,jTj (by decide),jFj (by decide),show IntKind.wrap .u8 (77+32)=109 from by decide,UE ms (by omega) (by omega),jBj,gs0,Wp (nmM ms) a (by rw[Zh];omega) (by rw[Zh];omega),jBj,jFj (by decide),jTj (by decide)];rfl
 rw[Y5 (by omega) q];by_cases h:ZG o b=true
 ·have z:Qh n (⟨#[77,115]⟩) p r s t u [Sd a,Sd b] v x y c d e f i j k l (o.map Sd) (ms.map Q1) m (ZG (nmM ms) a,1)=some (.inl (ZG (nmM ms) a,2)):=by
   unfold Qh;dsimp only;rw[jTj (show(1:Int)<((⟨#[77,115]⟩:jSj).size:Int) by decide),show UY ⟨#[77,115]⟩ 1=some 115 from rfl,jBj,jFj (by decide),jTj rfl,gs1,Wp o b (by omega) (by omega),jBj,jTj h];by_cases g:ZG (nmM ms) a=true
   ·rw[jTj g,jTj (by decide),g];rfl
   ·rw[jFj g,jTj (by decide)];simp only[Bool.not_eq_true] at g;rw[g];rfl
  have A:Qh n (⟨#[77,115]⟩) p r s t u [Sd a,Sd b] v x y c d e f i j k l (o.map Sd) (ms.map Q1) m (ZG (nmM ms) a,2)=some (.inr (.inr (ZG (nmM ms) a))):=by unfold Qh;dsimp only;rw[jFj (show ¬(2:Int)<((⟨#[77,115]⟩:jSj).size:Int) by decide)]
  rw[Y5 (by omega) z,W7 (by omega) A,jBj,jTj h];dsimp only;rw[QR,jBj]
 ·have z:Qh n (⟨#[77,115]⟩) p r s t u [Sd a,Sd b] v x y c d e f i j k l (o.map Sd) (ms.map Q1) m (ZG (nmM ms) a,1)=some (.inr (.inl ())):=by unfold Qh;dsimp only;rw[jTj (show(1:Int)<((⟨#[77,115]⟩:jSj).size:Int) by decide),show UY ⟨#[77,115]⟩ 1=some 115 from rfl,jBj,jFj (by decide),jTj rfl,gs1,Wp o b (by omega) (by omega),jBj,jFj h]
  rw[W7 (by omega) z,jBj,jFj h]
theorem qg {a b c:Int}{x:Option Int}(h:QK [a,b]=0->x=some c):(if QK [a,b]=0 then x else some (QK [a,b]))=some (QK [a,b,c]):=by
 by_cases d:QK [a,b]=0
 ·rw[jTj d,h d];have g:=Zl d a (by simp);have i:=Zl d b (by simp);subst g i;simp only[QK,if_true];by_cases hc:c=0
  ·rw[jTj hc,hc]
  ·rw[jFj hc]
 ·rw[jFj d];simp only[QK] at d ⊢;by_cases e:a=0
  ·subst e;simp only[if_true] at d ⊢;by_cases f:b=0
   ·subst f;exact absurd rfl d
   ·rw[jFj f,jFj f]
  ·rw[jFj e,jFj e]
theorem jO {a b:Int}(h:QK [a,b]=0):b=0:=Zl h b (by simp)
theorem Ub {b:Bool}{e:Int}(a:e≠0)(h:QD b e=0):b=false:=by
 unfold QD at h;cases b
 ·rfl
 ·exact absurd h a
theorem WN {b:Bool}(h:QD (!b) 10=0):b=true:=by have:=Ub (by decide) h;simpa using this
theorem QeM {a b:Type}(f:a->b)(l:List a)(n:Int):(((l.map f).length:Int)==n)=((l.length:Int)==n):=by rw[jlj]
theorem Qfj {n c:Nat}(j:1700<=n){r:Reg}(i:Inv c r)(hc:c<=992){num:Int}{kind x:jSj}{names:List jSj}{vals:List Int}{evs C:jVj}(Q:evs.length<=5000) :
  ∀{k:Ki},k≠.undo->Good (num,kind,names,vals,x) k->Qq n num kind (names.map Sd) (vals.map I) x evs C r.tick r.level r.filled r.tripped r.light r.heat r.money (r.sectors.map Sd) (r.mirrors.map Q1) (r.offers.map Zs)=some (if num=(evs.length:Int)+1 then acc k r names vals else 11)
 | .sector,_,hg=>by
  have f:=hg.kind;dsimp only[kw] at f;obtain⟨a,t,rfl,rfl,g⟩:=hg.d11 rfl rfl;simp only[jCj,jnj];unfold Qq;rw[jTj (by unfold Qg;omega)];by_cases d:num=(evs.length:Int)+1
  ·rw[jTj d,jTj d,jFj (kne f (by decide))];unfold acc;rw[gi0];by_cases e:t<r.tick
   ·rw[jTj e,jTj (g0 e)]
   rw[jFj e,jFj (g0n e)];have l:okT r t:=okt e g;rw[jTj f,Zd i hc j l,jBj];rw[Qjb j r.sectors (by have:=i.secs;omega) a,jBj,W4 (by omega),jBj];refine qg fun p=>?_;rw[QR,QeM];rfl
  ·rw[jFj d,jFj d]
 | .mirror,_,hg=>by
  have f:=hg.kind;dsimp only[kw] at f;obtain⟨a,b,t,m,rfl,rfl,g⟩:=hg.d22 rfl rfl;simp only[jCj,jnj];unfold Qq;rw[jTj (by unfold Qg;omega)];by_cases d:num=(evs.length:Int)+1
  ·rw[jTj d,jTj d,jFj (kne f (by decide))];unfold acc;rw[gi0];by_cases e:t<r.tick
   ·rw[jTj e,jTj (g0 e)]
   rw[jFj e,jFj (g0n e)];have l:okT r t:=okt e g;(iterate 1 rw[jFj (dne f (by decide))])
   rw[jTj f,Zd i hc j l,jBj];rw[Qh2 j r.sectors (by have:=i.secs;omega) r.mirrors (by have:=i.lenM;omega) a b,jBj,W4 (by omega),jBj];refine qg fun p=>?_;rw[gi1,YR,jBj,QR,jBj,W4 (by omega),QeM];rfl
  ·rw[jFj d,jFj d]
 | .soil,_,hg=>by
  have f:=hg.kind;dsimp only[kw] at f;obtain⟨a,t,m,rfl,rfl,g⟩:=hg.d12 rfl rfl;simp only[jCj,jnj];unfold Qq;rw[jTj (by unfold Qg;omega)];by_cases d:num=(evs.length:Int)+1
  ·rw[jTj d,jTj d,jFj (kne f (by decide))];unfold acc;rw[gi0];by_cases e:t<r.tick
   ·rw[jTj e,jTj (g0 e)]
   rw[jFj e,jFj (g0n e)];have l:okT r t:=okt e g;(iterate 2 rw[jFj (dne f (by decide))])
   rw[jTj f,Zd i hc j l,jBj];rw[qW j r.mirrors (by have:=i.lenM;omega) a,jBj,W4 (by omega),jBj];refine qg fun p=>?_;rw[gi1,YR];rfl
  ·rw[jFj d,jFj d]
 | .clean,_,hg=>by
  have f:=hg.kind;dsimp only[kw] at f;obtain⟨a,t,rfl,rfl,g⟩:=hg.d11 rfl rfl;simp only[jCj,jnj];unfold Qq;rw[jTj (by unfold Qg;omega)];by_cases d:num=(evs.length:Int)+1
  ·rw[jTj d,jTj d,jFj (kne f (by decide))];unfold acc;rw[gi0];by_cases e:t<r.tick
   ·rw[jTj e,jTj (g0 e)]
   rw[jFj e,jFj (g0n e)];have l:okT r t:=okt e g;(iterate 3 rw[jFj (dne f (by decide))])
   rw[jTj f,Zd i hc j l,jBj];rw[qW j r.mirrors (by have:=i.lenM;omega) a,jBj,W4 (by omega),jBj];refine qg fun p=>?_;rfl
  ·rw[jFj d,jFj d]
 | .defect,_,hg=>by
  have f:=hg.kind;dsimp only[kw] at f;obtain⟨a,t,rfl,rfl,g⟩:=hg.d11 rfl rfl;simp only[jCj,jnj];unfold Qq;rw[jTj (by unfold Qg;omega)];by_cases d:num=(evs.length:Int)+1
  ·rw[jTj d,jTj d,jFj (kne f (by decide))];unfold acc;rw[gi0];by_cases e:t<r.tick
   ·rw[jTj e,jTj (g0 e)]
   rw[jFj e,jFj (g0n e)];have l:okT r t:=okt e g;(iterate 4 rw[jFj (dne f (by decide))])
   rw[jTj f,Zd i hc j l,jBj];rw[qW j r.mirrors (by have:=i.lenM;omega) a,jBj,W4 (by omega),jBj];refine qg fun p=>?_;have u:=WN (jO p);obtain⟨q,v,s⟩:=VM u;have o:=zm q v;rw[gs0,UE _ (by have:=i.lenM;omega) (by have:=i.lenM;omega),jBj,ZQ _ _ (by rw[Zh];have:=i.lenM;omega) (by rw[Zh];have:=i.lenM;omega),jBj,jTj o,q,Zc unM s,jBj];rw[QR,jBj,QR,jBj,W4 (by omega)];rfl
  ·rw[jFj d,jFj d]
 | .repair,_,hg=>by
  have f:=hg.kind;dsimp only[kw] at f;obtain⟨a,t,rfl,rfl,g⟩:=hg.d11 rfl rfl;simp only[jCj,jnj];unfold Qq;rw[jTj (by unfold Qg;omega)];by_cases d:num=(evs.length:Int)+1
  ·rw[jTj d,jTj d,jFj (kne f (by decide))];unfold acc;rw[gi0];by_cases e:t<r.tick
   ·rw[jTj e,jTj (g0 e)]
   rw[jFj e,jFj (g0n e)];have l:okT r t:=okt e g;(iterate 5 rw[jFj (dne f (by decide))])
   rw[jTj f,Zd i hc j l,jBj];rw[qW j r.mirrors (by have:=i.lenM;omega) a,jBj,W4 (by omega),jBj];refine qg fun p=>?_;have u:=WN (jO p);obtain⟨q,v,s⟩:=VM u;have o:=zm q v;rw[gs0,UE _ (by have:=i.lenM;omega) (by have:=i.lenM;omega),jBj,ZQ _ _ (by rw[Zh];have:=i.lenM;omega) (by rw[Zh];have:=i.lenM;omega),jBj,jTj o,q,Zc unM s,jBj];rw[QR];rfl
  ·rw[jFj d,jFj d]
 | .aim,_,hg=>by
  have f:=hg.kind;dsimp only[kw] at f;obtain⟨a,t,rfl,rfl,g⟩:=hg.d11 rfl rfl;simp only[jCj,jnj];unfold Qq;rw[jTj (by unfold Qg;omega)];by_cases d:num=(evs.length:Int)+1
  ·rw[jTj d,jTj d,jFj (kne f (by decide))];unfold acc;rw[gi0];by_cases e:t<r.tick
   ·rw[jTj e,jTj (g0 e)]
   rw[jFj e,jFj (g0n e)];have l:okT r t:=okt e g;(iterate 6 rw[jFj (dne f (by decide))])
   rw[jTj f,Zd i hc j l,jBj];rw[qW j r.mirrors (by have:=i.lenM;omega) a,jBj,W4 (by omega),jBj];refine qg fun p=>?_;have u:=WN (jO p);obtain⟨q,v,s⟩:=VM u;have o:=zm q v;rw[gs0,UE _ (by have:=i.lenM;omega) (by have:=i.lenM;omega),jBj,ZQ _ _ (by rw[Zh];have:=i.lenM;omega) (by rw[Zh];have:=i.lenM;omega),jBj,jTj o,q];rw[QR,jBj,QR,jBj,Zc unM s,jBj,QR,jBj,QR,jBj,QeV (by omega)];rfl
  ·rw[jFj d,jFj d]
 | .park,_,hg=>by
  have f:=hg.kind;dsimp only[kw] at f;obtain⟨a,t,rfl,rfl,g⟩:=hg.d11 rfl rfl;simp only[jCj,jnj];unfold Qq;rw[jTj (by unfold Qg;omega)];by_cases d:num=(evs.length:Int)+1
  ·rw[jTj d,jTj d,jFj (kne f (by decide))];unfold acc;rw[gi0];by_cases e:t<r.tick
   ·rw[jTj e,jTj (g0 e)]
   rw[jFj e,jFj (g0n e)];have l:okT r t:=okt e g;(iterate 7 rw[jFj (dne f (by decide))])
   rw[jTj f,Zd i hc j l,jBj];rw[qW j r.mirrors (by have:=i.lenM;omega) a,jBj,W4 (by omega),jBj];refine qg fun p=>?_;have u:=WN (jO p);obtain⟨q,v,s⟩:=VM u;have o:=zm q v;rw[gs0,UE _ (by have:=i.lenM;omega) (by have:=i.lenM;omega),jBj,ZQ _ _ (by rw[Zh];have:=i.lenM;omega) (by rw[Zh];have:=i.lenM;omega),jBj,jTj o,q,Zc unM s,jBj];rw[QR];rfl
  ·rw[jFj d,jFj d]
 | .dim,_,hg=>by
  have f:=hg.kind;dsimp only[kw] at f;obtain⟨a,t,rfl,rfl,g⟩:=hg.d11 rfl rfl;simp only[jCj,jnj];unfold Qq;rw[jTj (by unfold Qg;omega)];by_cases d:num=(evs.length:Int)+1
  ·rw[jTj d,jTj d,jFj (kne f (by decide))];unfold acc;rw[gi0];by_cases e:t<r.tick
   ·rw[jTj e,jTj (g0 e)]
   rw[jFj e,jFj (g0n e)];have l:okT r t:=okt e g;(iterate 8 rw[jFj (dne f (by decide))])
   rw[jTj f,Zd i hc j l,jBj];rw[Qja j r.sectors (by have:=i.secs;omega) a,jBj,W4 (by omega),jBj];refine qg fun p=>?_;rfl
  ·rw[jFj d,jFj d]
 | .sun,_,hg=>by
  have f:=hg.kind;dsimp only[kw] at f;obtain⟨t,m,rfl,rfl,g⟩:=hg.d02 rfl rfl;simp only[jCj,jnj];unfold Qq;rw[jTj (by unfold Qg;omega)];by_cases d:num=(evs.length:Int)+1
  ·rw[jTj d,jTj d,jFj (kne f (by decide))];unfold acc;rw[gi0];by_cases e:t<r.tick
   ·rw[jTj e,jTj (g0 e)]
   rw[jFj e,jFj (g0n e)];have l:okT r t:=okt e g;(iterate 9 rw[jFj (dne f (by decide))])
   rw[jTj f,Zd i hc j l,jBj];rw[Xq j,jBj,W4 (by omega),jBj];refine qg fun p=>?_;rw[gi1,YR];rfl
  ·rw[jFj d,jFj d]
 | .fill,_,hg=>by
  have f:=hg.kind;dsimp only[kw] at f;obtain⟨t,rfl,rfl,g⟩:=hg.d01 rfl rfl;simp only[jCj,jnj];unfold Qq;rw[jTj (by unfold Qg;omega)];by_cases d:num=(evs.length:Int)+1
  ·rw[jTj d,jTj d,jFj (kne f (by decide))];unfold acc;rw[gi0];by_cases e:t<r.tick
   ·rw[jTj e,jTj (g0 e)]
   rw[jFj e,jFj (g0n e)];have l:okT r t:=okt e g;(iterate 10 rw[jFj (dne f (by decide))])
   rw[jTj f,Zd i hc j l,jBj];rw[Xq j,jBj,W4 (by omega),jBj];refine qg fun p=>?_;rw[QR];rfl
  ·rw[jFj d,jFj d]
 | .drain,_,hg=>by
  have f:=hg.kind;dsimp only[kw] at f;obtain⟨t,rfl,rfl,g⟩:=hg.d01 rfl rfl;simp only[jCj,jnj];unfold Qq;rw[jTj (by unfold Qg;omega)];by_cases d:num=(evs.length:Int)+1
  ·rw[jTj d,jTj d,jFj (kne f (by decide))];unfold acc;rw[gi0];by_cases e:t<r.tick
   ·rw[jTj e,jTj (g0 e)]
   rw[jFj e,jFj (g0n e)];have l:okT r t:=okt e g;(iterate 11 rw[jFj (dne f (by decide))])
   rw[jTj f,Zd i hc j l,jBj];rw[Xq j,jBj,W4 (by omega),jBj];refine qg fun p=>?_;rw[QR,jBj,Qkl _ (by have:=i.lenM;omega) (by have:=i.lenM;omega),jBj,QR,jBj,W4 (by omega)];rfl
  ·rw[jFj d,jFj d]
 | .trip,_,hg=>by
  have f:=hg.kind;dsimp only[kw] at f;obtain⟨t,rfl,rfl,g⟩:=hg.d01 rfl rfl;simp only[jCj,jnj];unfold Qq;rw[jTj (by unfold Qg;omega)];by_cases d:num=(evs.length:Int)+1
  ·rw[jTj d,jTj d,jFj (kne f (by decide))];unfold acc;rw[gi0];by_cases e:t<r.tick
   ·rw[jTj e,jTj (g0 e)]
   rw[jFj e,jFj (g0n e)];have l:okT r t:=okt e g;(iterate 12 rw[jFj (dne f (by decide))])
   rw[jTj f,Zd i hc j l,jBj];rw[Xq j,jBj,W4 (by omega),jBj];refine qg fun p=>?_;rw[QR];rfl
  ·rw[jFj d,jFj d]
 | .reset,_,hg=>by
  have f:=hg.kind;dsimp only[kw] at f;obtain⟨t,rfl,rfl,g⟩:=hg.d01 rfl rfl;simp only[jCj,jnj];unfold Qq;rw[jTj (by unfold Qg;omega)];by_cases d:num=(evs.length:Int)+1
  ·rw[jTj d,jTj d,jFj (kne f (by decide))];unfold acc;rw[gi0];by_cases e:t<r.tick
   ·rw[jTj e,jTj (g0 e)]
   rw[jFj e,jFj (g0n e)];have l:okT r t:=okt e g;(iterate 13 rw[jFj (dne f (by decide))])
   rw[jTj f,Zd i hc j l,jBj];rw[Xq j,jBj,W4 (by omega),jBj];refine qg fun p=>?_;rw[QR];rfl
  ·rw[jFj d,jFj d]
 | .offer,_,hg=>by
  have f:=hg.kind;dsimp only[kw] at f;obtain⟨a,t,m,y,z,A,rfl,rfl,g⟩:=hg.d15 rfl rfl;simp only[jCj,jnj];unfold Qq;rw[jTj (by unfold Qg;omega)];by_cases d:num=(evs.length:Int)+1
  ·rw[jTj d,jTj d,jFj (kne f (by decide))];unfold acc;rw[gi0];by_cases e:t<r.tick
   ·rw[jTj e,jTj (g0 e)]
   rw[jFj e,jFj (g0n e)];have l:okT r t:=okt e g;(iterate 14 rw[jFj (dne f (by decide))])
   rw[jTj f,Zd i hc j l,jBj];rw[Qjc j r.offers (by have:=i.lenO;omega) a,jBj,W4 (by omega),jBj];refine qg fun p=>?_;have P:Vb n num kind [Sd a] [I t,I m,I y,I z,I A] x=some (m,y,Qhs [t,m,y,z,A]):=by
    unfold Vb;rw[gi1,gi2,gi0];unfold Qhs;by_cases h:m<t
    ·rw[jTj h,jTj (show[t,m,y,z,A].getD 1 0<[t,m,y,z,A].getD 0 0 from h)];rfl
    ·rw[jFj h,jFj (show ¬[t,m,y,z,A].getD 1 0<[t,m,y,z,A].getD 0 0 from h),QR];rfl
   rw[P,jBj,gi3,YR,jBj,gi4,YR,jBj,QR,jBj,QeV (by omega),QeM];rfl
  ·rw[jFj d,jFj d]
 | .deliver,_,hg=>by
  have f:=hg.kind;dsimp only[kw] at f;obtain⟨a,t,m,rfl,rfl,g⟩:=hg.d12 rfl rfl;simp only[jCj,jnj];unfold Qq;rw[jTj (by unfold Qg;omega)];by_cases d:num=(evs.length:Int)+1
  ·rw[jTj d,jTj d,jFj (kne f (by decide))];unfold acc;rw[gi0];by_cases e:t<r.tick
   ·rw[jTj e,jTj (g0 e)]
   rw[jFj e,jFj (g0n e)];have l:okT r t:=okt e g;(iterate 15 rw[jFj (dne f (by decide))])
   rw[jTj f,Zd i hc j l,jBj];rw[QfT j r.offers (by have:=i.lenO;omega) a,jBj,W4 (by omega),jBj];refine qg fun p=>?_;have u:=WN (jO p);obtain⟨q,v,s⟩:=J6 u;have E:=i.offs _ (jgj s);have o:=hltO q v;rw[gs0,X8 _ (by have:=i.lenO;omega) (by have:=i.lenO;omega),jBj,ZQ _ _ (by rw[Wy];have:=i.lenO;omega) (by rw[Wy];have:=i.lenO;omega),jBj,jTj o,q];rw[gi1,Zc unO s,jBj,QR,jBj];have O:∀w:Int,((Qm n (m==0) 3).bind fun J=>(Za n (oAt r.offers a).1 (oAt r.offers a).2.1 (oAt r.offers a).2.2.1 (oAt r.offers a).2.2.2.1 (oAt r.offers a).2.2.2.2.1 (oAt r.offers a).2.2.2.2.2.1 (oAt r.offers a).2.2.2.2.2.2).bind fun K =>
     (Qm n (decide (m>K)) 20).bind fun L=>(Qi n ([I (QD (oAt r.offers a).2.2.2.2.2.2 23),I w,I J,I L])).bind fun F =>
     if F=0 then(if Qg (m*1000000) then(Q9 n t evs C r.tick r.level r.filled r.tripped r.light r.heat r.money (r.sectors.map Sd) (r.mirrors.map Q1) (r.offers.map Zs)).bind fun M=>(Qm n (decide ((m*1000000)>M.2)) 16).bind fun N=>some N else none) else some F) =
     some (if QK [QD (oAt r.offers a).2.2.2.2.2.2 23,w,QD (m==0) 3,QD (decide (m>WC (oAt r.offers a))) 20]=0 then QD (decide (m*1000000>r.heat+WP r t)) 16 else QK [QD (oAt r.offers a).2.2.2.2.2.2 23,w,QD (m==0) 3,QD (decide (m>WC (oAt r.offers a))) 20]):=by
    intro w;rw[QR,jBj,jh n E,jBj,QR,jBj,QeV (by omega),jBj];by_cases H:QK [QD (oAt r.offers a).2.2.2.2.2.2 23,w,QD (m==0) 3,QD (decide (m>WC (oAt r.offers a))) 20]=0
    ·have S:=hg.val m (by simp);rw[jTj H,jTj H,jTj (by unfold Qg;omega),Wk i hc j l,jBj,QR,jBj]
    ·rw[jFj H,jFj H]
   unfold spec;simp only[List.getD_cons_zero,List.getD_cons_succ];by_cases G:t<(oAt r.offers a).2.1
   ·rw[jTj G];simp only[jTj G];exact O 14
   ·rw[jFj G,QR,jBj];simp only[jFj G];exact O _
  ·rw[jFj d,jFj d]
 | .bill,_,hg=>by
  have f:=hg.kind;dsimp only[kw] at f;obtain⟨a,t,rfl,rfl,g⟩:=hg.d11 rfl rfl;simp only[jCj,jnj];unfold Qq;rw[jTj (by unfold Qg;omega)];by_cases d:num=(evs.length:Int)+1
  ·rw[jTj d,jTj d,jFj (kne f (by decide))];unfold acc;rw[gi0];by_cases e:t<r.tick
   ·rw[jTj e,jTj (g0 e)]
   rw[jFj e,jFj (g0n e)];have l:okT r t:=okt e g;(iterate 16 rw[jFj (dne f (by decide))])
   rw[jTj f,Zd i hc j l,jBj];rw[QfT j r.offers (by have:=i.lenO;omega) a,jBj,W4 (by omega),jBj];refine qg fun p=>?_;have u:=WN (jO p);obtain⟨q,v,s⟩:=J6 u;have E:=i.offs _ (jgj s);have o:=hltO q v;rw[gs0,X8 _ (by have:=i.lenO;omega) (by have:=i.lenO;omega),jBj,ZQ _ _ (by rw[Wy];have:=i.lenO;omega) (by rw[Wy];have:=i.lenO;omega),jBj,jTj o,q,Zc unO s,jBj];rw[QR,jBj,QR,jBj,W4 (by omega)];rfl
  ·rw[jFj d,jFj d]
 | .undo,h,_=>absurd rfl h
def QcU (a:List Ev):Int:=match a.getLast? with
 | none=>12
 | some e=>if e.2.1.data.toList=kw .deliver\/e.2.1.data.toList=kw .bill then 21 else 0
theorem QcK {n:Nat}(r:Reg){num:Int}{kind c:jSj}{names:List jSj}{vals:List Int}{evs:jVj}(p:evs.length<=5000)(a:List Ev)(l:a.length<=5000)
  (m:Good (num,kind,names,vals,c) .undo):Qq n num kind (names.map Sd) (vals.map I) c evs (a.map Q5) r.tick r.level r.filled r.tripped r.light r.heat r.money (r.sectors.map Sd) (r.mirrors.map Q1) (r.offers.map Zs)=some (if num=(evs.length:Int)+1 then QcU a else 11):=by
 have j:=m.kind;dsimp only at j;unfold Qq;rw[jTj (by unfold Qg;omega)];by_cases b:num=(evs.length:Int)+1
 ·rw[jTj b,jTj b,jTj (keq j rfl)];unfold QcU;cases hl:a.getLast? with
  | none =>
   rw[List.getLast?_eq_none_iff.1 hl];rfl
  | some e =>
   have g:a≠[]:=fun h=>by rw[h] at hl;cases hl
   have k:=List.length_pos_iff.2 g;rw[List.getLast?_eq_getElem?] at hl;have o:(((a.map Q5).length:Int) - 1)=((a.length - 1:Nat):Int):=by rw[jlj];omega
   rw[jFj (by rw[jlj];omega),o,jTj (by unfold Qg;omega),jTj (by rw[jlj];omega),jtj,U4,List.getElem?_map,hl];show(if(e.2.1.toList==(⟨#[100,101,108,105,118,101,114]⟩:jSj).toList)=true then(Ko n).bind (fun i=>some i) else(Qm n (e.2.1.toList==(⟨#[98,105,108,108]⟩:jSj).toList) 21).bind fun i=>some i)=some (if e.2.1.data.toList=kw .deliver\/e.2.1.data.toList=kw .bill then 21 else 0);by_cases d:e.2.1.data.toList=kw .deliver
   ·rw[jTj (keq d rfl),jTj (.inl d)];rfl
   ·rw[jFj (fun h=>d (by rw[kq] at h;exact h)),QR,jBj];by_cases f:e.2.1.data.toList=kw .bill
    ·rw[jTj (.inr f)];unfold QD;rw[jTj (keq f rfl)]
    ·rw[jFj (by rintro(h|h);exact d h;exact f h)];unfold QD;rw[jFj (fun h=>f (by rw[kq] at h;exact h))]
 ·rw[jFj b,jFj b]
def bkd (r:Reg)(t:Int):Reg:={ r with tick:=t,light:=r.light+WP r t,heat:=r.heat+WP r t }
def chgM (r:Reg)(a:jSj)(m:Mir):Reg:={ r with mirrors:=r.mirrors.set (iM r.mirrors a) m }
def chgO (r:Reg)(a:jSj)(o:Off):Reg:={ r with offers:=r.offers.set (iO r.offers a) o }
def kO (m:Mir)(v:Int):Mir:=(m.1,m.2.1,m.2.2.1,v,m.2.2.2.2.1,m.2.2.2.2.2)
def defM (m:Mir)(b:Bool):Mir:=(m.1,m.2.1,m.2.2.1,m.2.2.2.1,b,m.2.2.2.2.2)
def aimM (m:Mir):Mir:=(m.1,m.2.1,m.2.2.1,m.2.2.2.1,m.2.2.2.2.1,true)
def delO (o:Off)(v:Int):Off:=(o.1,o.2.1,o.2.2.1,o.2.2.2.1,o.2.2.2.2.1,o.2.2.2.2.2.1+v,o.2.2.2.2.2.2)
def zp (o:Off):Off:=(o.1,o.2.1,o.2.2.1,o.2.2.2.1,o.2.2.2.2.1,o.2.2.2.2.2.1,true)
def act (k:Ki)(q:Reg)(ns:List jSj)(vs:List Int):Reg:=match k with
 | .sector=>{ q with sectors:=q.sectors++[ns.getD 0 ⟨#[]⟩] }
 | .mirror=>{ q with mirrors:=q.mirrors++[(ns.getD 0 ⟨#[]⟩,ns.getD 1 ⟨#[]⟩,vs.getD 1 0,0,false,false)] }
 | .soil=>chgM q (ns.getD 0 ⟨#[]⟩) (kO (mAt q.mirrors (ns.getD 0 ⟨#[]⟩)) (vs.getD 1 0))
 | .clean=>chgM q (ns.getD 0 ⟨#[]⟩) (kO (mAt q.mirrors (ns.getD 0 ⟨#[]⟩)) 0)
 | .defect=>chgM q (ns.getD 0 ⟨#[]⟩) (defM (mAt q.mirrors (ns.getD 0 ⟨#[]⟩)) true)
 | .repair=>chgM q (ns.getD 0 ⟨#[]⟩) (defM (mAt q.mirrors (ns.getD 0 ⟨#[]⟩)) false)
 | .aim=>chgM q (ns.getD 0 ⟨#[]⟩) (aimM (mAt q.mirrors (ns.getD 0 ⟨#[]⟩)))
 | .park=>chgM q (ns.getD 0 ⟨#[]⟩) (Xi (mAt q.mirrors (ns.getD 0 ⟨#[]⟩)))
 | .dim=>{ q with mirrors:=q.mirrors.map (kf (ns.getD 0 ⟨#[]⟩)) }
 | .sun=>{ q with level:=vs.getD 1 0 }
 | .fill=>{ q with filled:=true }
 | .drain=>{ q with filled:=false }
 | .trip=>{ q with tripped:=true,mirrors:=q.mirrors.map Xi }
 | .reset=>{ q with tripped:=false }
 | .offer=>{ q with offers:=q.offers++[(ns.getD 0 ⟨#[]⟩,vs.getD 1 0,vs.getD 2 0,vs.getD 3 0,vs.getD 4 0,0,false)] }
 | .deliver=>{ chgO q (ns.getD 0 ⟨#[]⟩) (delO (oAt q.offers (ns.getD 0 ⟨#[]⟩)) (vs.getD 1 0)) with heat:=q.heat - 1000000*vs.getD 1 0 }
 | .bill=>{ chgO q (ns.getD 0 ⟨#[]⟩) (zp (oAt q.offers (ns.getD 0 ⟨#[]⟩))) with money:=q.money+Gr (oAt q.offers (ns.getD 0 ⟨#[]⟩)) }
 | .undo=>q
def app (k:Ki)(r:Reg)(ns:List jSj)(vs:List Int):Reg:=act k (bkd r (vs.getD 0 0)) ns vs
abbrev wq:=Int×Int×Bool×Bool×Int×Int×Int×jVj×jVj×jVj
def Wd (r:Reg):wq:=(r.tick,r.level,r.filled,r.tripped,r.light,r.heat,r.money,r.sectors.map Sd,r.mirrors.map Q1,r.offers.map Zs)
theorem Xj {s:List Off}{i:Nat}{y:Off}:List.set (s.map Zs) i (Zs y)=(s.set i y).map Zs:=by rw[List.map_set]
theorem QS {k:Ki}{r:Reg}{ns:List jSj}{vs:List Int}(h:acc k r ns vs=0):¬vs.getD 0 0<r.tick/\Gq r (vs.getD 0 0)=0/\known k r ns=0/\spec k r ns vs=0:=by
 unfold acc at h;by_cases a:vs.getD 0 0<r.tick
 ·rw[jTj a] at h;cases h
 ·rw[jFj a] at h;exact⟨a,Zl h _ (by simp),Zl h _ (by simp),Zl h _ (by simp)⟩
theorem wi {r:Reg}{a:jSj}{t b:Int}(h:spec .deliver r [a] [t,b]=0):(oAt r.offers a).2.2.2.2.2.2=false/\b≠0/\b<=WC (oAt r.offers a)/\b*1000000<=r.heat+WP r t:=by
 have h:(if QK [QD (oAt r.offers a).2.2.2.2.2.2 23,(if t<(oAt r.offers a).2.1 then 14 else QD (decide (t>=(oAt r.offers a).2.2.1)) 14),QD (b==0) 3,QD (decide (b>WC (oAt r.offers a))) 20]=0 then QD (decide (b*1000000>r.heat+WP r t)) 16 else QK [QD (oAt r.offers a).2.2.2.2.2.2 23,(if t<(oAt r.offers a).2.1 then 14 else QD (decide (t>=(oAt r.offers a).2.2.1)) 14),QD (b==0) 3,QD (decide (b>WC (oAt r.offers a))) 20])=0:=h;by_cases c:QK [QD (oAt r.offers a).2.2.2.2.2.2 23,(if t<(oAt r.offers a).2.1 then 14 else QD (decide (t>=(oAt r.offers a).2.2.1)) 14),QD (b==0) 3,QD (decide (b>WC (oAt r.offers a))) 20]=0
 ·rw[jTj c] at h;have d:=Ub (e:=23) (by decide) (Zl c (QD (oAt r.offers a).2.2.2.2.2.2 23) (by simp));have f:=Ub (e:=3) (by decide) (Zl c (QD (b==0) 3) (by simp));have g:=Ub (e:=20) (by decide) (Zl c (QD (decide (b>WC (oAt r.offers a))) 20) (by simp));have j:=Ub (e:=16) (by decide) h;have i:=of_decide_eq_false g;have k:=of_decide_eq_false j;refine⟨d,by simpa using f,by omega,by omega⟩
 ·rw[jFj c] at h;exact absurd h c
theorem Qiy {n c:Nat}(v:1700<=n){r:Reg}(g:Inv c r)(hc:c<=992){num:Int}{kind E:jSj}{names:List jSj}{vals:List Int} :
  ∀{k:Ki},k≠.undo->Good (num,kind,names,vals,E) k->acc k r names vals=0->Qy n num kind (names.map Sd) (vals.map I) E r.tick r.level r.filled r.tripped r.light r.heat r.money (r.sectors.map Sd) (r.mirrors.map Q1) (r.offers.map Zs)=some (Wd (app k r names vals))
 | .sector,_,hg,ha=>by have f:=hg.kind;dsimp only[kw] at f;obtain⟨a,t,rfl,rfl,e⟩:=hg.d11 rfl rfl;obtain⟨d,p,j,m⟩:=QS ha;have o:okT r t:=okt d e;simp only[jCj,jnj];refine Eq.trans ?_ (show some (rtM r t ((r.sectors++[a]).map Sd) (r.mirrors.map Q1) (r.offers.map Zs))=some (Wd (app .sector r [a] [t])) from rfl);unfold Qy;rw[gi0,Wq g hc v o,jBj];rw[jTj f];rw[gs0,jTj (rmS g),List.map_append];rfl
 | .mirror,_,hg,ha=>by
  have f:=hg.kind;dsimp only[kw] at f;obtain⟨a,b,t,u,rfl,rfl,e⟩:=hg.d22 rfl rfl;obtain⟨d,p,j,m⟩:=QS ha;have o:okT r t:=okt d e;simp only[jCj,jnj];refine Eq.trans ?_ (show some (rtM r t (r.sectors.map Sd) ((r.mirrors++[((a,b,u,0,false,false):Mir)]).map Q1) (r.offers.map Zs))=some (Wd (app .mirror r [a,b] [t,u])) from rfl);unfold Qy;rw[gi0,Wq g hc v o,jBj];(iterate 1 rw[jFj (dne f (by decide))])
  rw[jTj f];rw[gs0,gs1,gi1,jTj (rmM g (by omega)),List.map_append];rfl
 | .soil,_,hg,ha=>by
  have f:=hg.kind;dsimp only[kw] at f;obtain⟨a,t,u,rfl,rfl,e⟩:=hg.d12 rfl rfl;obtain⟨d,p,j,m⟩:=QS ha;have o:okT r t:=okt d e;simp only[jCj,jnj];refine Eq.trans ?_ (show some (rtM r t (r.sectors.map Sd) ((r.mirrors.set (iM r.mirrors a) (kO (mAt r.mirrors a) u)).map Q1) (r.offers.map Zs))=some (Wd (app .soil r [a] [t,u])) from rfl);unfold Qy;rw[gi0,Wq g hc v o,jBj];(iterate 2 rw[jFj (dne f (by decide))])
  rw[jTj f];have A:ZG (nmM r.mirrors) a=true:=WN j;obtain⟨s,z,y⟩:=VM A;have q:=zm s z;rw[gs0,qT _ (by have:=g.lenM;omega) (by have:=g.lenM;omega),jBj,ZQ _ _ (by rw[Zh];have:=g.lenM;omega) (by rw[Zh];have:=g.lenM;omega),jBj,jTj q,s];rw[gi1];rw[Zc unM y,jBj,<-Yl,jtj];rfl
 | .clean,_,hg,ha=>by
  have f:=hg.kind;dsimp only[kw] at f;obtain⟨a,t,rfl,rfl,e⟩:=hg.d11 rfl rfl;obtain⟨d,p,j,m⟩:=QS ha;have o:okT r t:=okt d e;simp only[jCj,jnj];refine Eq.trans ?_ (show some (rtM r t (r.sectors.map Sd) ((r.mirrors.set (iM r.mirrors a) (kO (mAt r.mirrors a) 0)).map Q1) (r.offers.map Zs))=some (Wd (app .clean r [a] [t])) from rfl);unfold Qy;rw[gi0,Wq g hc v o,jBj];(iterate 3 rw[jFj (dne f (by decide))])
  rw[jTj f];have A:ZG (nmM r.mirrors) a=true:=WN j;obtain⟨s,z,y⟩:=VM A;have q:=zm s z;rw[gs0,qT _ (by have:=g.lenM;omega) (by have:=g.lenM;omega),jBj,ZQ _ _ (by rw[Zh];have:=g.lenM;omega) (by rw[Zh];have:=g.lenM;omega),jBj,jTj q,s];rw[Zc unM y,jBj,<-Yl,jtj];rfl
 | .defect,_,hg,ha=>by
  have f:=hg.kind;dsimp only[kw] at f;obtain⟨a,t,rfl,rfl,e⟩:=hg.d11 rfl rfl;obtain⟨d,p,j,m⟩:=QS ha;have o:okT r t:=okt d e;simp only[jCj,jnj];refine Eq.trans ?_ (show some (rtM r t (r.sectors.map Sd) ((r.mirrors.set (iM r.mirrors a) (defM (mAt r.mirrors a) true)).map Q1) (r.offers.map Zs))=some (Wd (app .defect r [a] [t])) from rfl);unfold Qy;rw[gi0,Wq g hc v o,jBj];(iterate 4 rw[jFj (dne f (by decide))])
  rw[jTj f];have A:ZG (nmM r.mirrors) a=true:=WN j;obtain⟨s,z,y⟩:=VM A;have q:=zm s z;rw[gs0,qT _ (by have:=g.lenM;omega) (by have:=g.lenM;omega),jBj,ZQ _ _ (by rw[Zh];have:=g.lenM;omega) (by rw[Zh];have:=g.lenM;omega),jBj,jTj q,s];rw[Zc unM y,jBj,<-Yl,jtj];rfl
 | .repair,_,hg,ha=>by
  have f:=hg.kind;dsimp only[kw] at f;obtain⟨a,t,rfl,rfl,e⟩:=hg.d11 rfl rfl;obtain⟨d,p,j,m⟩:=QS ha;have o:okT r t:=okt d e;simp only[jCj,jnj];refine Eq.trans ?_ (show some (rtM r t (r.sectors.map Sd) ((r.mirrors.set (iM r.mirrors a) (defM (mAt r.mirrors a) false)).map Q1) (r.offers.map Zs))=some (Wd (app .repair r [a] [t])) from rfl);unfold Qy;rw[gi0,Wq g hc v o,jBj];(iterate 5 rw[jFj (dne f (by decide))])
  rw[jTj f];have A:ZG (nmM r.mirrors) a=true:=WN j;obtain⟨s,z,y⟩:=VM A;have q:=zm s z;rw[gs0,qT _ (by have:=g.lenM;omega) (by have:=g.lenM;omega),jBj,ZQ _ _ (by rw[Zh];have:=g.lenM;omega) (by rw[Zh];have:=g.lenM;omega),jBj,jTj q,s];rw[Zc unM y,jBj,<-Yl,jtj];rfl
 | .aim,_,hg,ha=>by
  have f:=hg.kind;dsimp only[kw] at f;obtain⟨a,t,rfl,rfl,e⟩:=hg.d11 rfl rfl;obtain⟨d,p,j,m⟩:=QS ha;have o:okT r t:=okt d e;simp only[jCj,jnj];refine Eq.trans ?_ (show some (rtM r t (r.sectors.map Sd) ((r.mirrors.set (iM r.mirrors a) (aimM (mAt r.mirrors a))).map Q1) (r.offers.map Zs))=some (Wd (app .aim r [a] [t])) from rfl);unfold Qy;rw[gi0,Wq g hc v o,jBj];(iterate 6 rw[jFj (dne f (by decide))])
  rw[jTj f];have A:ZG (nmM r.mirrors) a=true:=WN j;obtain⟨s,z,y⟩:=VM A;have q:=zm s z;rw[gs0,qT _ (by have:=g.lenM;omega) (by have:=g.lenM;omega),jBj,ZQ _ _ (by rw[Zh];have:=g.lenM;omega) (by rw[Zh];have:=g.lenM;omega),jBj,jTj q,s];rw[Zc unM y,jBj,<-Yl,jtj];rfl
 | .park,_,hg,ha=>by
  have f:=hg.kind;dsimp only[kw] at f;obtain⟨a,t,rfl,rfl,e⟩:=hg.d11 rfl rfl;obtain⟨d,p,j,m⟩:=QS ha;have o:okT r t:=okt d e;simp only[jCj,jnj];refine Eq.trans ?_ (show some (rtM r t (r.sectors.map Sd) ((r.mirrors.set (iM r.mirrors a) (Xi (mAt r.mirrors a))).map Q1) (r.offers.map Zs))=some (Wd (app .park r [a] [t])) from rfl);unfold Qy;rw[gi0,Wq g hc v o,jBj];(iterate 7 rw[jFj (dne f (by decide))])
  rw[jTj f];have A:ZG (nmM r.mirrors) a=true:=WN j;obtain⟨s,z,y⟩:=VM A;have q:=zm s z;rw[gs0,qT _ (by have:=g.lenM;omega) (by have:=g.lenM;omega),jBj,ZQ _ _ (by rw[Zh];have:=g.lenM;omega) (by rw[Zh];have:=g.lenM;omega),jBj,jTj q,s];rw[Zc unM y,jBj,<-Yl,jtj];rfl
 | .dim,_,hg,ha=>by
  have f:=hg.kind;dsimp only[kw] at f;obtain⟨a,t,rfl,rfl,e⟩:=hg.d11 rfl rfl;obtain⟨d,p,j,m⟩:=QS ha;have o:okT r t:=okt d e;simp only[jCj,jnj];refine Eq.trans ?_ (show some (rtM r t (r.sectors.map Sd) ((r.mirrors.map (kf a)).map Q1) (r.offers.map Zs))=some (Wd (app .dim r [a] [t])) from rfl);unfold Qy;rw[gi0,Wq g hc v o,jBj];(iterate 8 rw[jFj (dne f (by decide))])
  rw[jTj f];rw[Qkw _ (by have:=g.lenM;omega) (by have:=g.lenM;omega),jBj]
 | .sun,_,hg,ha=>by
  have f:=hg.kind;dsimp only[kw] at f;obtain⟨t,u,rfl,rfl,e⟩:=hg.d02 rfl rfl;obtain⟨d,p,j,m⟩:=QS ha;have o:okT r t:=okt d e;simp only[jCj,jnj];refine Eq.trans ?_ (show some ((t,u,r.filled,r.tripped,r.light+WP r t,r.heat+WP r t,r.money,r.sectors.map Sd,r.mirrors.map Q1,r.offers.map Zs):wq)=some (Wd (app .sun r [] [t,u])) from rfl);unfold Qy;rw[gi0,Wq g hc v o,jBj];(iterate 9 rw[jFj (dne f (by decide))])
  rw[jTj f];rw[gi1]
 | .fill,_,hg,ha=>by
  have f:=hg.kind;dsimp only[kw] at f;obtain⟨t,rfl,rfl,e⟩:=hg.d01 rfl rfl;obtain⟨d,p,j,m⟩:=QS ha;have o:okT r t:=okt d e;simp only[jCj,jnj];refine Eq.trans ?_ (show some ((t,r.level,true,r.tripped,r.light+WP r t,r.heat+WP r t,r.money,r.sectors.map Sd,r.mirrors.map Q1,r.offers.map Zs):wq)=some (Wd (app .fill r [] [t])) from rfl);unfold Qy;rw[gi0,Wq g hc v o,jBj];(iterate 10 rw[jFj (dne f (by decide))])
  rw[jTj f]
 | .drain,_,hg,ha=>by
  have f:=hg.kind;dsimp only[kw] at f;obtain⟨t,rfl,rfl,e⟩:=hg.d01 rfl rfl;obtain⟨d,p,j,m⟩:=QS ha;have o:okT r t:=okt d e;simp only[jCj,jnj];refine Eq.trans ?_ (show some ((t,r.level,false,r.tripped,r.light+WP r t,r.heat+WP r t,r.money,r.sectors.map Sd,r.mirrors.map Q1,r.offers.map Zs):wq)=some (Wd (app .drain r [] [t])) from rfl);unfold Qy;rw[gi0,Wq g hc v o,jBj];(iterate 11 rw[jFj (dne f (by decide))])
  rw[jTj f]
 | .trip,_,hg,ha=>by
  have f:=hg.kind;dsimp only[kw] at f;obtain⟨t,rfl,rfl,e⟩:=hg.d01 rfl rfl;obtain⟨d,p,j,m⟩:=QS ha;have o:okT r t:=okt d e;simp only[jCj,jnj];refine Eq.trans ?_ (show some ((t,r.level,r.filled,true,r.light+WP r t,r.heat+WP r t,r.money,r.sectors.map Sd,(r.mirrors.map Xi).map Q1,r.offers.map Zs):wq)=some (Wd (app .trip r [] [t])) from rfl);unfold Qy;rw[gi0,Wq g hc v o,jBj];(iterate 12 rw[jFj (dne f (by decide))])
  rw[jTj f];rw[Qkv _ (by have:=g.lenM;omega) (by have:=g.lenM;omega),jBj]
 | .reset,_,hg,ha=>by
  have f:=hg.kind;dsimp only[kw] at f;obtain⟨t,rfl,rfl,e⟩:=hg.d01 rfl rfl;obtain⟨d,p,j,m⟩:=QS ha;have o:okT r t:=okt d e;simp only[jCj,jnj];refine Eq.trans ?_ (show some ((t,r.level,r.filled,false,r.light+WP r t,r.heat+WP r t,r.money,r.sectors.map Sd,r.mirrors.map Q1,r.offers.map Zs):wq)=some (Wd (app .reset r [] [t])) from rfl);unfold Qy;rw[gi0,Wq g hc v o,jBj];(iterate 13 rw[jFj (dne f (by decide))])
  rw[jTj f]
 | .offer,_,hg,ha=>by
  have f:=hg.kind;dsimp only[kw] at f;obtain⟨a,t,u,G,M,N,rfl,rfl,e⟩:=hg.d15 rfl rfl;obtain⟨d,p,j,m⟩:=QS ha;have o:okT r t:=okt d e;simp only[jCj,jnj];refine Eq.trans ?_ (show some (rtM r t (r.sectors.map Sd) (r.mirrors.map Q1) ((r.offers++[((a,u,G,M,N,0,false):Off)]).map Zs))=some (Wd (app .offer r [a] [t,u,G,M,N])) from rfl);unfold Qy;rw[gi0,Wq g hc v o,jBj];(iterate 14 rw[jFj (dne f (by decide))])
  rw[jTj f];have L:∃w,Vb n num kind [Sd a] [I t,I u,I G,I M,I N] E=some (u,G,w):=by
   unfold Vb;rw[gi1,gi2,gi0];by_cases h:u<t
   ·rw[jTj h];exact⟨14,rfl⟩
   ·rw[jFj h,QR];exact⟨_,rfl⟩
  obtain⟨w,L⟩:=L;rw[L,jBj,gs0,gi3,gi4,jTj (rmO g (by omega)),List.map_append];rfl
 | .deliver,_,hg,ha=>by
  have f:=hg.kind;dsimp only[kw] at f;obtain⟨a,t,u,rfl,rfl,e⟩:=hg.d12 rfl rfl;obtain⟨d,p,j,m⟩:=QS ha;have o:okT r t:=okt d e;simp only[jCj,jnj];refine Eq.trans ?_ (show some ((t,r.level,r.filled,r.tripped,r.light+WP r t,r.heat+WP r t - 1000000*u,r.money,r.sectors.map Sd,r.mirrors.map Q1,(r.offers.set (iO r.offers a) (delO (oAt r.offers a) u)).map Zs):wq)=some (Wd (app .deliver r [a] [t,u])) from rfl);unfold Qy;rw[gi0,Wq g hc v o,jBj];(iterate 15 rw[jFj (dne f (by decide))])
  rw[jTj f];have A:ZG (nmO r.offers) a=true:=WN j;obtain⟨s,z,y⟩:=J6 A;have C:=g.offs _ (jgj y);have q:=hltO s z;rw[gs0,QfK _ (by have:=g.lenO;omega) (by have:=g.lenO;omega),jBj,ZQ _ _ (by rw[Wy];have:=g.lenO;omega) (by rw[Wy];have:=g.lenO;omega),jBj,jTj q,s];have P:=wi m;have O:=Kg C;have V:=hg.val u (by simp);have S:=qe g hc o;have T:=g.heat;have J:=P.2.2.1;have Q:=C.2.2;unfold WC at J;rw[Zc unO y,jBj,gi1,jTj (by unfold Qg;have:=C.1;omega),jTj (by unfold Qg;omega),jTj (by unfold Qg;omega),<-Xj,jtj];rfl
 | .bill,_,hg,ha=>by
  have f:=hg.kind;dsimp only[kw] at f;obtain⟨a,t,rfl,rfl,e⟩:=hg.d11 rfl rfl;obtain⟨d,p,j,m⟩:=QS ha;have o:okT r t:=okt d e;simp only[jCj,jnj];refine Eq.trans ?_ (show some ((t,r.level,r.filled,r.tripped,r.light+WP r t,r.heat+WP r t,r.money+Gr (oAt r.offers a),r.sectors.map Sd,r.mirrors.map Q1,(r.offers.set (iO r.offers a) (zp (oAt r.offers a))).map Zs):wq)=some (Wd (app .bill r [a] [t])) from rfl);unfold Qy;rw[gi0,Wq g hc v o,jBj];(iterate 16 rw[jFj (dne f (by decide))])
  rw[jTj f];have A:ZG (nmO r.offers) a=true:=WN j;obtain⟨s,z,y⟩:=J6 A;have C:=g.offs _ (jgj y);have q:=hltO s z;rw[gs0,QfK _ (by have:=g.lenO;omega) (by have:=g.lenO;omega),jBj,ZQ _ _ (by rw[Wy];have:=g.lenO;omega) (by rw[Wy];have:=g.lenO;omega),jBj,jTj q,s];have O:=(Kg C).2.2.2;have U:=g.money;have K:(nth (List.set (r.offers.map Zs) (Int.toNat (iO r.offers a:Int)) (Zs (zp (oAt r.offers a))):jVj) (Int.toNat (iO r.offers a:Int))).bind Z4=some (zp (oAt r.offers a)):=by rw[jtj,Xj];have:=Zc (i:=iO r.offers a) (l:=r.offers.set (iO r.offers a) (zp (oAt r.offers a))) (x:=zp (oAt r.offers a)) unO (by rw[List.getElem?_set_self z]);rwa [jtj] at this
  have F:okO (zp (oAt r.offers a)):=C;have H:Gr (zp (oAt r.offers a))=Gr (oAt r.offers a):=rfl;rw[Zc unO y,jBj];refine Eq.trans (congrArg (fun x:Option Off=>x.bind _) K) ?_;rw[jBj,QcA n F,jBj,H,jTj (by unfold Qg;omega),<-Xj,jtj];rfl
 | .undo,h,_,_=>absurd rfl h
theorem Qg8 {n c:Nat}(v:1700<=n){r:Reg}(g:Inv c r)(hc:c<=992){num:Int}{kind E:jSj}{names:List jSj}{vals:List Int}{evs H:jVj} :
  ∀{k:Ki},k≠.undo->Good (num,kind,names,vals,E) k->acc k r names vals=0->Qw n num kind (names.map Sd) (vals.map I) E evs H r.tick r.level r.filled r.tripped r.light r.heat r.money (r.sectors.map Sd) (r.mirrors.map Q1) (r.offers.map Zs)=some (Wd (app k r names vals))
 | .sector,_,hg,ha=>by have f:=hg.kind;dsimp only[kw] at f;obtain⟨a,t,rfl,rfl,e⟩:=hg.d11 rfl rfl;obtain⟨d,p,j,m⟩:=QS ha;have o:okT r t:=okt d e;simp only[jCj,jnj];refine Eq.trans ?_ (show some (rtM r t ((r.sectors++[a]).map Sd) (r.mirrors.map Q1) (r.offers.map Zs))=some (Wd (app .sector r [a] [t])) from rfl);unfold Qw;rw[gi0,Wk g hc v o,jBj];rw[jTj f];rw[gs0,jTj (rmS g),List.map_append];rfl
 | .mirror,_,hg,ha=>by
  have f:=hg.kind;dsimp only[kw] at f;obtain⟨a,b,t,u,rfl,rfl,e⟩:=hg.d22 rfl rfl;obtain⟨d,p,j,m⟩:=QS ha;have o:okT r t:=okt d e;simp only[jCj,jnj];refine Eq.trans ?_ (show some (rtM r t (r.sectors.map Sd) ((r.mirrors++[((a,b,u,0,false,false):Mir)]).map Q1) (r.offers.map Zs))=some (Wd (app .mirror r [a,b] [t,u])) from rfl);unfold Qw;rw[gi0,Wk g hc v o,jBj];(iterate 1 rw[jFj (dne f (by decide))])
  rw[jTj f];rw[gs0,gs1,gi1,jTj (rmM g (by omega)),List.map_append];rfl
 | .soil,_,hg,ha=>by
  have f:=hg.kind;dsimp only[kw] at f;obtain⟨a,t,u,rfl,rfl,e⟩:=hg.d12 rfl rfl;obtain⟨d,p,j,m⟩:=QS ha;have o:okT r t:=okt d e;simp only[jCj,jnj];refine Eq.trans ?_ (show some (rtM r t (r.sectors.map Sd) ((r.mirrors.set (iM r.mirrors a) (kO (mAt r.mirrors a) u)).map Q1) (r.offers.map Zs))=some (Wd (app .soil r [a] [t,u])) from rfl);unfold Qw;rw[gi0,Wk g hc v o,jBj];(iterate 2 rw[jFj (dne f (by decide))])
  rw[jTj f];have A:ZG (nmM r.mirrors) a=true:=WN j;obtain⟨s,z,y⟩:=VM A;have q:=zm s z;rw[gs0,UE _ (by have:=g.lenM;omega) (by have:=g.lenM;omega),jBj,ZQ _ _ (by rw[Zh];have:=g.lenM;omega) (by rw[Zh];have:=g.lenM;omega),jBj,jTj q,s];rw[gi1];rw[Zc unM y,jBj,<-Yl,jtj];rfl
 | .clean,_,hg,ha=>by
  have f:=hg.kind;dsimp only[kw] at f;obtain⟨a,t,rfl,rfl,e⟩:=hg.d11 rfl rfl;obtain⟨d,p,j,m⟩:=QS ha;have o:okT r t:=okt d e;simp only[jCj,jnj];refine Eq.trans ?_ (show some (rtM r t (r.sectors.map Sd) ((r.mirrors.set (iM r.mirrors a) (kO (mAt r.mirrors a) 0)).map Q1) (r.offers.map Zs))=some (Wd (app .clean r [a] [t])) from rfl);unfold Qw;rw[gi0,Wk g hc v o,jBj];(iterate 3 rw[jFj (dne f (by decide))])
  rw[jTj f];have A:ZG (nmM r.mirrors) a=true:=WN j;obtain⟨s,z,y⟩:=VM A;have q:=zm s z;rw[gs0,UE _ (by have:=g.lenM;omega) (by have:=g.lenM;omega),jBj,ZQ _ _ (by rw[Zh];have:=g.lenM;omega) (by rw[Zh];have:=g.lenM;omega),jBj,jTj q,s];rw[Zc unM y,jBj,<-Yl,jtj];rfl
 | .defect,_,hg,ha=>by
  have f:=hg.kind;dsimp only[kw] at f;obtain⟨a,t,rfl,rfl,e⟩:=hg.d11 rfl rfl;obtain⟨d,p,j,m⟩:=QS ha;have o:okT r t:=okt d e;simp only[jCj,jnj];refine Eq.trans ?_ (show some (rtM r t (r.sectors.map Sd) ((r.mirrors.set (iM r.mirrors a) (defM (mAt r.mirrors a) true)).map Q1) (r.offers.map Zs))=some (Wd (app .defect r [a] [t])) from rfl);unfold Qw;rw[gi0,Wk g hc v o,jBj];(iterate 4 rw[jFj (dne f (by decide))])
  rw[jTj f];have A:ZG (nmM r.mirrors) a=true:=WN j;obtain⟨s,z,y⟩:=VM A;have q:=zm s z;rw[gs0,UE _ (by have:=g.lenM;omega) (by have:=g.lenM;omega),jBj,ZQ _ _ (by rw[Zh];have:=g.lenM;omega) (by rw[Zh];have:=g.lenM;omega),jBj,jTj q,s];rw[Zc unM y,jBj,<-Yl,jtj];rfl
 | .repair,_,hg,ha=>by
  have f:=hg.kind;dsimp only[kw] at f;obtain⟨a,t,rfl,rfl,e⟩:=hg.d11 rfl rfl;obtain⟨d,p,j,m⟩:=QS ha;have o:okT r t:=okt d e;simp only[jCj,jnj];refine Eq.trans ?_ (show some (rtM r t (r.sectors.map Sd) ((r.mirrors.set (iM r.mirrors a) (defM (mAt r.mirrors a) false)).map Q1) (r.offers.map Zs))=some (Wd (app .repair r [a] [t])) from rfl);unfold Qw;rw[gi0,Wk g hc v o,jBj];(iterate 5 rw[jFj (dne f (by decide))])
  rw[jTj f];have A:ZG (nmM r.mirrors) a=true:=WN j;obtain⟨s,z,y⟩:=VM A;have q:=zm s z;rw[gs0,UE _ (by have:=g.lenM;omega) (by have:=g.lenM;omega),jBj,ZQ _ _ (by rw[Zh];have:=g.lenM;omega) (by rw[Zh];have:=g.lenM;omega),jBj,jTj q,s];rw[Zc unM y,jBj,<-Yl,jtj];rfl
 | .aim,_,hg,ha=>by
  have f:=hg.kind;dsimp only[kw] at f;obtain⟨a,t,rfl,rfl,e⟩:=hg.d11 rfl rfl;obtain⟨d,p,j,m⟩:=QS ha;have o:okT r t:=okt d e;simp only[jCj,jnj];refine Eq.trans ?_ (show some (rtM r t (r.sectors.map Sd) ((r.mirrors.set (iM r.mirrors a) (aimM (mAt r.mirrors a))).map Q1) (r.offers.map Zs))=some (Wd (app .aim r [a] [t])) from rfl);unfold Qw;rw[gi0,Wk g hc v o,jBj];(iterate 6 rw[jFj (dne f (by decide))])
  rw[jTj f];have A:ZG (nmM r.mirrors) a=true:=WN j;obtain⟨s,z,y⟩:=VM A;have q:=zm s z;rw[gs0,UE _ (by have:=g.lenM;omega) (by have:=g.lenM;omega),jBj,ZQ _ _ (by rw[Zh];have:=g.lenM;omega) (by rw[Zh];have:=g.lenM;omega),jBj,jTj q,s];rw[Zc unM y,jBj,<-Yl,jtj];rfl
 | .park,_,hg,ha=>by
  have f:=hg.kind;dsimp only[kw] at f;obtain⟨a,t,rfl,rfl,e⟩:=hg.d11 rfl rfl;obtain⟨d,p,j,m⟩:=QS ha;have o:okT r t:=okt d e;simp only[jCj,jnj];refine Eq.trans ?_ (show some (rtM r t (r.sectors.map Sd) ((r.mirrors.set (iM r.mirrors a) (Xi (mAt r.mirrors a))).map Q1) (r.offers.map Zs))=some (Wd (app .park r [a] [t])) from rfl);unfold Qw;rw[gi0,Wk g hc v o,jBj];(iterate 7 rw[jFj (dne f (by decide))])
  rw[jTj f];have A:ZG (nmM r.mirrors) a=true:=WN j;obtain⟨s,z,y⟩:=VM A;have q:=zm s z;rw[gs0,UE _ (by have:=g.lenM;omega) (by have:=g.lenM;omega),jBj,ZQ _ _ (by rw[Zh];have:=g.lenM;omega) (by rw[Zh];have:=g.lenM;omega),jBj,jTj q,s];rw[Zc unM y,jBj,<-Yl,jtj];rfl
 | .dim,_,hg,ha=>by
  have f:=hg.kind;dsimp only[kw] at f;obtain⟨a,t,rfl,rfl,e⟩:=hg.d11 rfl rfl;obtain⟨d,p,j,m⟩:=QS ha;have o:okT r t:=okt d e;simp only[jCj,jnj];refine Eq.trans ?_ (show some (rtM r t (r.sectors.map Sd) ((r.mirrors.map (kf a)).map Q1) (r.offers.map Zs))=some (Wd (app .dim r [a] [t])) from rfl);unfold Qw;rw[gi0,Wk g hc v o,jBj];(iterate 8 rw[jFj (dne f (by decide))])
  rw[jTj f];rw[QjY _ (by have:=g.lenM;omega) (by have:=g.lenM;omega),jBj]
 | .sun,_,hg,ha=>by
  have f:=hg.kind;dsimp only[kw] at f;obtain⟨t,u,rfl,rfl,e⟩:=hg.d02 rfl rfl;obtain⟨d,p,j,m⟩:=QS ha;have o:okT r t:=okt d e;simp only[jCj,jnj];refine Eq.trans ?_ (show some ((t,u,r.filled,r.tripped,r.light+WP r t,r.heat+WP r t,r.money,r.sectors.map Sd,r.mirrors.map Q1,r.offers.map Zs):wq)=some (Wd (app .sun r [] [t,u])) from rfl);unfold Qw;rw[gi0,Wk g hc v o,jBj];(iterate 9 rw[jFj (dne f (by decide))])
  rw[jTj f];rw[gi1]
 | .fill,_,hg,ha=>by
  have f:=hg.kind;dsimp only[kw] at f;obtain⟨t,rfl,rfl,e⟩:=hg.d01 rfl rfl;obtain⟨d,p,j,m⟩:=QS ha;have o:okT r t:=okt d e;simp only[jCj,jnj];refine Eq.trans ?_ (show some ((t,r.level,true,r.tripped,r.light+WP r t,r.heat+WP r t,r.money,r.sectors.map Sd,r.mirrors.map Q1,r.offers.map Zs):wq)=some (Wd (app .fill r [] [t])) from rfl);unfold Qw;rw[gi0,Wk g hc v o,jBj];(iterate 10 rw[jFj (dne f (by decide))])
  rw[jTj f]
 | .drain,_,hg,ha=>by
  have f:=hg.kind;dsimp only[kw] at f;obtain⟨t,rfl,rfl,e⟩:=hg.d01 rfl rfl;obtain⟨d,p,j,m⟩:=QS ha;have o:okT r t:=okt d e;simp only[jCj,jnj];refine Eq.trans ?_ (show some ((t,r.level,false,r.tripped,r.light+WP r t,r.heat+WP r t,r.money,r.sectors.map Sd,r.mirrors.map Q1,r.offers.map Zs):wq)=some (Wd (app .drain r [] [t])) from rfl);unfold Qw;rw[gi0,Wk g hc v o,jBj];(iterate 11 rw[jFj (dne f (by decide))])
  rw[jTj f]
 | .trip,_,hg,ha=>by
  have f:=hg.kind;dsimp only[kw] at f;obtain⟨t,rfl,rfl,e⟩:=hg.d01 rfl rfl;obtain⟨d,p,j,m⟩:=QS ha;have o:okT r t:=okt d e;simp only[jCj,jnj];refine Eq.trans ?_ (show some ((t,r.level,r.filled,true,r.light+WP r t,r.heat+WP r t,r.money,r.sectors.map Sd,(r.mirrors.map Xi).map Q1,r.offers.map Zs):wq)=some (Wd (app .trip r [] [t])) from rfl);unfold Qw;rw[gi0,Wk g hc v o,jBj];(iterate 12 rw[jFj (dne f (by decide))])
  rw[jTj f];rw[QjX _ (by have:=g.lenM;omega) (by have:=g.lenM;omega),jBj]
 | .reset,_,hg,ha=>by
  have f:=hg.kind;dsimp only[kw] at f;obtain⟨t,rfl,rfl,e⟩:=hg.d01 rfl rfl;obtain⟨d,p,j,m⟩:=QS ha;have o:okT r t:=okt d e;simp only[jCj,jnj];refine Eq.trans ?_ (show some ((t,r.level,r.filled,false,r.light+WP r t,r.heat+WP r t,r.money,r.sectors.map Sd,r.mirrors.map Q1,r.offers.map Zs):wq)=some (Wd (app .reset r [] [t])) from rfl);unfold Qw;rw[gi0,Wk g hc v o,jBj];(iterate 13 rw[jFj (dne f (by decide))])
  rw[jTj f]
 | .offer,_,hg,ha=>by
  have f:=hg.kind;dsimp only[kw] at f;obtain⟨a,t,u,G,N,O,rfl,rfl,e⟩:=hg.d15 rfl rfl;obtain⟨d,p,j,m⟩:=QS ha;have o:okT r t:=okt d e;simp only[jCj,jnj];refine Eq.trans ?_ (show some (rtM r t (r.sectors.map Sd) (r.mirrors.map Q1) ((r.offers++[((a,u,G,N,O,0,false):Off)]).map Zs))=some (Wd (app .offer r [a] [t,u,G,N,O])) from rfl);unfold Qw;rw[gi0,Wk g hc v o,jBj];(iterate 14 rw[jFj (dne f (by decide))])
  rw[jTj f];have M:∃w,Vb n num kind [Sd a] [I t,I u,I G,I N,I O] E=some (u,G,w):=by
   unfold Vb;rw[gi1,gi2,gi0];by_cases h:u<t
   ·rw[jTj h];exact⟨14,rfl⟩
   ·rw[jFj h,QR];exact⟨_,rfl⟩
  obtain⟨w,M⟩:=M;rw[M,jBj,gs0,gi3,gi4,jTj (rmO g (by omega)),List.map_append];rfl
 | .deliver,_,hg,ha=>by
  have f:=hg.kind;dsimp only[kw] at f;obtain⟨a,t,u,rfl,rfl,e⟩:=hg.d12 rfl rfl;obtain⟨d,p,j,m⟩:=QS ha;have o:okT r t:=okt d e;simp only[jCj,jnj];refine Eq.trans ?_ (show some ((t,r.level,r.filled,r.tripped,r.light+WP r t,r.heat+WP r t - 1000000*u,r.money,r.sectors.map Sd,r.mirrors.map Q1,(r.offers.set (iO r.offers a) (delO (oAt r.offers a) u)).map Zs):wq)=some (Wd (app .deliver r [a] [t,u])) from rfl);unfold Qw;rw[gi0,Wk g hc v o,jBj];(iterate 15 rw[jFj (dne f (by decide))])
  rw[jTj f];have A:ZG (nmO r.offers) a=true:=WN j;obtain⟨s,z,y⟩:=J6 A;have C:=g.offs _ (jgj y);have q:=hltO s z;rw[gs0,X8 _ (by have:=g.lenO;omega) (by have:=g.lenO;omega),jBj,ZQ _ _ (by rw[Wy];have:=g.lenO;omega) (by rw[Wy];have:=g.lenO;omega),jBj,jTj q,s];have Q:=wi m;have P:=Kg C;have W:=hg.val u (by simp);have T:=qe g hc o;have U:=g.heat;have K:=Q.2.2.1;have S:=C.2.2;unfold WC at K;rw[Zc unO y,jBj,gi1,jTj (by unfold Qg;have:=C.1;omega),jTj (by unfold Qg;omega),jTj (by unfold Qg;omega),<-Xj,jtj];rfl
 | .bill,_,hg,ha=>by
  have f:=hg.kind;dsimp only[kw] at f;obtain⟨a,t,rfl,rfl,e⟩:=hg.d11 rfl rfl;obtain⟨d,p,j,m⟩:=QS ha;have o:okT r t:=okt d e;simp only[jCj,jnj];refine Eq.trans ?_ (show some ((t,r.level,r.filled,r.tripped,r.light+WP r t,r.heat+WP r t,r.money+Gr (oAt r.offers a),r.sectors.map Sd,r.mirrors.map Q1,(r.offers.set (iO r.offers a) (zp (oAt r.offers a))).map Zs):wq)=some (Wd (app .bill r [a] [t])) from rfl);unfold Qw;rw[gi0,Wk g hc v o,jBj];(iterate 16 rw[jFj (dne f (by decide))])
  rw[jTj f];have A:ZG (nmO r.offers) a=true:=WN j;obtain⟨s,z,y⟩:=J6 A;have C:=g.offs _ (jgj y);have q:=hltO s z;rw[gs0,X8 _ (by have:=g.lenO;omega) (by have:=g.lenO;omega),jBj,ZQ _ _ (by rw[Wy];have:=g.lenO;omega) (by rw[Wy];have:=g.lenO;omega),jBj,jTj q,s];have P:=(Kg C).2.2.2;have V:=g.money;have L:(nth (List.set (r.offers.map Zs) (Int.toNat (iO r.offers a:Int)) (Zs (zp (oAt r.offers a))):jVj) (Int.toNat (iO r.offers a:Int))).bind Z4=some (zp (oAt r.offers a)):=by rw[jtj,Xj];have:=Zc (i:=iO r.offers a) (l:=r.offers.set (iO r.offers a) (zp (oAt r.offers a))) (x:=zp (oAt r.offers a)) unO (by rw[List.getElem?_set_self z]);rwa [jtj] at this
  have F:okO (zp (oAt r.offers a)):=C;have J:Gr (zp (oAt r.offers a))=Gr (oAt r.offers a):=rfl;rw[Zc unO y,jBj];refine Eq.trans (congrArg (fun x:Option Off=>x.bind _) L) ?_;rw[jBj,QcA n F,jBj,J,jTj (by unfold Qg;omega),<-Xj,jtj];rfl
 | .undo,h,_,_=>absurd rfl h
theorem Qcm {x b a:Int}(c:b<=x)(d:x<=a):inR x b a=0:=WS.2 ⟨c,d⟩
theorem uS {a:Int}(l:List Int)(h:a=0):QK (a::l)=QK l:=by unfold QK;rw[jTj h];cases l<;>rfl
theorem QgQ {a:Int}(l:List Int)(h:a≠0):QK (a::l)=a:=by unfold QK;rw[jFj h]
theorem QgP {x:Int}:QK [x]=x:=by
 simp only[QK];split
 ·rename_i h;exact h.symm
 ·rfl
theorem Vt {c d:Nat}(h:c<=d){r:Reg}(a:Inv c r):Inv d r :=
 ⟨a.tick,a.level,a.light,a.heat,by have:=a.money;omega,a.secs,by have:=a.lenM;omega,by have:=a.lenO;omega,a.mirs,a.offs⟩
theorem Ya {c:Nat}{r:Reg}(a:Inv c r)(hc:c<=992){t:Int}(f:okT r t)(d:Gq r t=0):Inv c (bkd r t):=by
 have l:=(qe a hc f).2;have i:=a.light;have j:=a.heat;have k:=a.tick;have b : r.light+WP r t<=1000000000000000/\r.heat+WP r t<=1000000000000000:=by
  unfold Gq at d;split at d
  ·rename_i h;exact h
  ·cases d
 obtain⟨g,e⟩:=f;exact⟨⟨show 0<=t by omega,e⟩,a.level,⟨show 0<=r.light+WP r t by omega,b.1⟩,⟨show 0<=r.heat+WP r t by omega,b.2⟩,a.money,a.secs,a.lenM,a.lenO,a.mirs,a.offs⟩
theorem Xs {c:Nat}{q:Reg}(b:Inv c q)(a:jSj){m:Mir}(d:okM m):Inv c (chgM q a m) :=
 ⟨b.tick,b.level,b.light,b.heat,b.money,b.secs,by show(q.mirrors.set _ _).length<=min c 32;rw[List.length_set];exact b.lenM,b.lenO,fun x e=>by
  obtain h|h:=List.mem_or_eq_of_mem_set e
  ·exact b.mirs x h
  ·rw[h];exact d,b.offs⟩
theorem QdN {c:Nat}{q:Reg}(b:Inv c q)(a:jSj){o:Off}(d:okO o):Inv c (chgO q a o) :=
 ⟨b.tick,b.level,b.light,b.heat,b.money,b.secs,b.lenM,by show(q.offers.set _ _).length<=min c 32;rw[List.length_set];exact b.lenO,b.mirs,fun x e=>by
  obtain h|h:=List.mem_or_eq_of_mem_set e
  ·exact b.offs x h
  ·rw[h];exact d⟩
theorem QdO {c:Nat}{q:Reg}(a:Inv c q)(f:Mir->Mir)(b:∀m,okM m->okM (f m)):Inv c { q with mirrors:=q.mirrors.map f } :=
 ⟨a.tick,a.level,a.light,a.heat,a.money,a.secs,by show(q.mirrors.map f).length<=min c 32;rw[jlj];exact a.lenM,a.lenO,fun x d=>by obtain⟨y,e,rfl⟩:=List.mem_map.1 d;exact b y (a.mirs y e),a.offs⟩
theorem Qkk (s:jSj)(m:Mir)(h:okM m):okM (kf s m):=by
 unfold kf;split
 ·exact h
 ·exact h
theorem Qjf {c:Nat}{r:Reg}(p:Inv c r)(hc:c<=990){num:Int}{kind A:jSj}{names:List jSj}{vals:List Int} :
  ∀{k:Ki},k≠.undo->Good (num,kind,names,vals,A) k->acc k r names vals=0->Inv (c+1) (app k r names vals)
 | .sector,_,hg,ha=>by
  obtain⟨a,t,rfl,rfl,i⟩:=hg.d11 rfl rfl;obtain⟨g,f,l,j⟩:=QS ha;have n:okT r t:=okt g i;have d:=Vt (Nat.le_succ c) (Ya p (by omega) n f);have J:=Ub (e:=5) (b:=((r.sectors.length:Int)==8)) (by decide) j;have K : ¬(r.sectors.length:Int)=8:=by simpa using J
  have q:=p.secs;exact⟨d.tick,d.level,d.light,d.heat,d.money,by show(r.sectors++[a]).length<=8;simp;omega,d.lenM,d.lenO,d.mirs,d.offs⟩
 | .mirror,_,hg,ha=>by
  obtain⟨a,b,t,v,rfl,rfl,i⟩:=hg.d22 rfl rfl;obtain⟨g,f,l,j⟩:=QS ha;have n:okT r t:=okt g i;have d:=Vt (Nat.le_succ c) (Ya p (by omega) n f);have F:=WS.1 (Zl j (inR v 1 100) (by simp));have x:=Ub (e:=5) (b:=((r.mirrors.length:Int)==32)) (by decide) (Zl j (QD ((r.mirrors.length:Int)==32) 5) (by simp));have z : ¬(r.mirrors.length:Int)=32:=by simpa using x
  have N:=p.lenM;refine⟨d.tick,d.level,d.light,d.heat,d.money,d.secs,by show(r.mirrors++[_]).length<=min (c+1) 32;rw[jaj,List.length_singleton];omega,d.lenO,fun m u=>?_,d.offs⟩;obtain h|h:=List.mem_append.1 u
  ·exact p.mirs m h
  ·rw[List.mem_singleton.1 h];exact⟨F,⟨Int.le_refl 0,show(0:Int)<=1000 by decide⟩⟩
 | .soil,_,hg,ha=>by obtain⟨a,t,v,rfl,rfl,i⟩:=hg.d12 rfl rfl;obtain⟨g,f,l,j⟩:=QS ha;have n:okT r t:=okt g i;have d:=Vt (Nat.le_succ c) (Ya p (by omega) n f);have s:ZG (nmM r.mirrors) a=true:=WN l;have u:=p.mirs _ (jgj (VM s).2.2);exact Xs d a (m:=kO (mAt r.mirrors a) v) ⟨u.1,WS.1 j⟩
 | .clean,_,hg,ha=>by obtain⟨a,t,rfl,rfl,i⟩:=hg.d11 rfl rfl;obtain⟨g,f,l,j⟩:=QS ha;have n:okT r t:=okt g i;have d:=Vt (Nat.le_succ c) (Ya p (by omega) n f);have s:ZG (nmM r.mirrors) a=true:=WN l;have u:=p.mirs _ (jgj (VM s).2.2);exact Xs d a (m:=kO (mAt r.mirrors a) 0) ⟨u.1,⟨Int.le_refl 0,show(0:Int)<=1000 by decide⟩⟩
 | .defect,_,hg,ha=>by obtain⟨a,t,rfl,rfl,i⟩:=hg.d11 rfl rfl;obtain⟨g,f,l,j⟩:=QS ha;have n:okT r t:=okt g i;have d:=Vt (Nat.le_succ c) (Ya p (by omega) n f);have s:ZG (nmM r.mirrors) a=true:=WN l;have u:=p.mirs _ (jgj (VM s).2.2);exact Xs d a (m:=defM (mAt r.mirrors a) true) u
 | .repair,_,hg,ha=>by obtain⟨a,t,rfl,rfl,i⟩:=hg.d11 rfl rfl;obtain⟨g,f,l,j⟩:=QS ha;have n:okT r t:=okt g i;have d:=Vt (Nat.le_succ c) (Ya p (by omega) n f);have s:ZG (nmM r.mirrors) a=true:=WN l;have u:=p.mirs _ (jgj (VM s).2.2);exact Xs d a (m:=defM (mAt r.mirrors a) false) u
 | .aim,_,hg,ha=>by obtain⟨a,t,rfl,rfl,i⟩:=hg.d11 rfl rfl;obtain⟨g,f,l,j⟩:=QS ha;have n:okT r t:=okt g i;have d:=Vt (Nat.le_succ c) (Ya p (by omega) n f);have s:ZG (nmM r.mirrors) a=true:=WN l;have u:=p.mirs _ (jgj (VM s).2.2);exact Xs d a (m:=aimM (mAt r.mirrors a)) u
 | .park,_,hg,ha=>by obtain⟨a,t,rfl,rfl,i⟩:=hg.d11 rfl rfl;obtain⟨g,f,l,j⟩:=QS ha;have n:okT r t:=okt g i;have d:=Vt (Nat.le_succ c) (Ya p (by omega) n f);have s:ZG (nmM r.mirrors) a=true:=WN l;have u:=p.mirs _ (jgj (VM s).2.2);exact Xs d a (m:=Xi (mAt r.mirrors a)) u
 | .dim,_,hg,ha=>by obtain⟨a,t,rfl,rfl,i⟩:=hg.d11 rfl rfl;obtain⟨g,f,l,j⟩:=QS ha;have n:okT r t:=okt g i;have d:=Vt (Nat.le_succ c) (Ya p (by omega) n f);exact QdO d (kf a) (Qkk a)
 | .sun,_,hg,ha=>by obtain⟨t,v,rfl,rfl,i⟩:=hg.d02 rfl rfl;obtain⟨g,f,l,j⟩:=QS ha;have n:okT r t:=okt g i;have d:=Vt (Nat.le_succ c) (Ya p (by omega) n f);exact⟨d.tick,WS.1 j,d.light,d.heat,d.money,d.secs,d.lenM,d.lenO,d.mirs,d.offs⟩
 | .fill,_,hg,ha=>by obtain⟨t,rfl,rfl,i⟩:=hg.d01 rfl rfl;obtain⟨g,f,l,j⟩:=QS ha;have n:okT r t:=okt g i;have d:=Vt (Nat.le_succ c) (Ya p (by omega) n f);exact⟨d.tick,d.level,d.light,d.heat,d.money,d.secs,d.lenM,d.lenO,d.mirs,d.offs⟩
 | .drain,_,hg,ha=>by obtain⟨t,rfl,rfl,i⟩:=hg.d01 rfl rfl;obtain⟨g,f,l,j⟩:=QS ha;have n:okT r t:=okt g i;have d:=Vt (Nat.le_succ c) (Ya p (by omega) n f);exact⟨d.tick,d.level,d.light,d.heat,d.money,d.secs,d.lenM,d.lenO,d.mirs,d.offs⟩
 | .trip,_,hg,ha=>by obtain⟨t,rfl,rfl,i⟩:=hg.d01 rfl rfl;obtain⟨g,f,l,j⟩:=QS ha;have n:okT r t:=okt g i;have d:=Vt (Nat.le_succ c) (Ya p (by omega) n f);have:=QdO d Xi (fun m h=>h);exact⟨this.tick,this.level,this.light,this.heat,this.money,this.secs,this.lenM,this.lenO,this.mirs,this.offs⟩
 | .reset,_,hg,ha=>by obtain⟨t,rfl,rfl,i⟩:=hg.d01 rfl rfl;obtain⟨g,f,l,j⟩:=QS ha;have n:okT r t:=okt g i;have d:=Vt (Nat.le_succ c) (Ya p (by omega) n f);exact⟨d.tick,d.level,d.light,d.heat,d.money,d.secs,d.lenM,d.lenO,d.mirs,d.offs⟩
 | .offer,_,hg,ha=>by
  obtain⟨a,t,v,V,E,Q,rfl,rfl,i⟩:=hg.d15 rfl rfl;obtain⟨g,f,l,j⟩:=QS ha;have n:okT r t:=okt g i;have d:=Vt (Nat.le_succ c) (Ya p (by omega) n f);have G:=WS.1 (Zl j (inR E 1 1000) (by simp));have H:=WS.1 (Zl j (inR Q 0 1000) (by simp));have x:=Ub (e:=5) (b:=((r.offers.length:Int)==32)) (by decide) (Zl j (QD ((r.offers.length:Int)==32) 5) (by simp));have z : ¬(r.offers.length:Int)=32:=by simpa using x
  have N:=p.lenO;refine⟨d.tick,d.level,d.light,d.heat,d.money,d.secs,d.lenM,by show(r.offers++[_]).length<=min (c+1) 32;rw[jaj,List.length_singleton];omega,d.mirs,fun o y=>?_⟩;obtain h|h:=List.mem_append.1 y
  ·exact p.offs o h
  ·rw[List.mem_singleton.1 h];exact⟨G,H,⟨Int.le_refl 0,show(0:Int)<=E by omega⟩⟩
 | .deliver,_,hg,ha=>by obtain⟨a,t,v,rfl,rfl,i⟩:=hg.d12 rfl rfl;obtain⟨g,f,l,j⟩:=QS ha;have n:okT r t:=okt g i;have d:=Vt (Nat.le_succ c) (Ya p (by omega) n f);have s:ZG (nmO r.offers) a=true:=WN l;have y:=p.offs _ (jgj (J6 s).2.2);have L:=wi j;have T:=hg.val v (by simp);have C:=L.2.2.1;unfold WC at C;obtain⟨O,P,U⟩:=y;have q:=QdN d a (o:=delO (oAt r.offers a) v) ⟨O,P,⟨show 0<=(oAt r.offers a).2.2.2.2.2.1+v by omega,show(oAt r.offers a).2.2.2.2.2.1+v<=(oAt r.offers a).2.2.2.1 by omega⟩⟩;have s:=d.heat;have M:0<=r.heat+WP r t/\r.heat+WP r t<=1000000000000000:=s;exact⟨q.tick,q.level,q.light,⟨show 0<=r.heat+WP r t - 1000000*v by omega,show r.heat+WP r t - 1000000*v<=1000000000000000 by omega⟩,q.money,q.secs,q.lenM,q.lenO,q.mirs,q.offs⟩
 | .bill,_,hg,ha=>by obtain⟨a,t,rfl,rfl,i⟩:=hg.d11 rfl rfl;obtain⟨g,f,l,j⟩:=QS ha;have n:okT r t:=okt g i;have d:=Vt (Nat.le_succ c) (Ya p (by omega) n f);have s:ZG (nmO r.offers) a=true:=WN l;have y:=p.offs _ (jgj (J6 s).2.2);have q:=QdN d a (o:=zp (oAt r.offers a)) y;have S:=(Kg y).2.2.2;have u:=p.money;exact⟨q.tick,q.level,q.light,q.heat,⟨show -(2000000*((c+1:Nat):Int))<=r.money+Gr (oAt r.offers a) by omega,show r.money+Gr (oAt r.offers a)<=2000000*((c+1:Nat):Int) by omega⟩,q.secs,q.lenM,q.lenO,q.mirs,q.offs⟩
 | .undo,h,_,_=>absurd rfl h
theorem Qh8:Inv 0 Reg.zero:=⟨by decide,by decide,by decide,by decide,by decide,by decide,jLj _,jLj _,fun m a=>(List.not_mem_nil a).elim,fun o b=>(List.not_mem_nil b).elim⟩
def kdE (e:Ev):Option Ki:=zl e.2.1.data.toList
def appE (r:Reg)(e:Ev):Reg:=match kdE e with
 | some k=>app k r e.2.2.1 e.2.2.2.1
 | none=>r
def accE (r:Reg)(e:Ev):Int:=match kdE e with
 | some k=>acc k r e.2.2.1 e.2.2.2.1
 | none=>0
def QN (l:List Ev):Reg:=l.foldl appE Reg.zero
theorem Kx (l:List Ev)(e:Ev):QN (l++[e])=appE (QN l) e:=by unfold QN;rw[List.foldl_append];rfl
theorem Qcl {e:Ev}{k:Ki}(h:Good e k):kdE e=some k:=by unfold kdE;rw[h.kind,qZ]
theorem JX {e:Ev}{k:Ki}(h:Good e k)(r:Reg):appE r e=app k r e.2.2.1 e.2.2.2.1:=by unfold appE;rw[Qcl h]
theorem zh {e:Ev}{k:Ki}(h:Good e k)(r:Reg):accE r e=acc k r e.2.2.1 e.2.2.2.1:=by unfold accE;rw[Qcl h]
def OkL (l:List Ev):Prop:=∀(i:Nat) (e:Ev),l[i]?=some e->∃k,k≠.undo/\Good e k/\acc k (QN (l.take i)) e.2.2.1 e.2.2.2.1=0
theorem wD:OkL []:=fun i e h=>by simp at h
theorem Qdu {l:List Ev}(h:OkL l)(j:Nat):OkL (l.take j):=fun i e a=>by
 rw[List.getElem?_take] at a;split at a
 ·rename_i f;obtain⟨k,b,c,d⟩:=h i e a;refine⟨k,b,c,?_⟩;rw[List.take_take,Nat.min_eq_left (by omega)];exact d
 ·cases a
theorem Qdw {l:List Ev}(h:OkL l){e:Ev}{k:Ki}(j:k≠.undo)(f:Good e k)(d:acc k (QN l) e.2.2.1 e.2.2.2.1=0):OkL (l++[e]):=fun i x a=>by
 by_cases g:i<l.length
 ·rw[List.getElem?_append_left g] at a;rw[List.take_append_of_le_length (by omega)];exact h i x a
 ·rw[List.getElem?_append_right (by omega)] at a;have b:i - l.length=0:=by
   obtain c|c:=Nat.eq_zero_or_pos (i - l.length)
   ·exact c
   ·rw[List.getElem?_eq_none (by simp;omega)] at a;cases a
  rw[b] at a;cases a;have:i=l.length:=by omega
  subst this;rw[List.take_left];exact⟨k,j,f,d⟩
theorem Qb9 {l:List Ev}(h:OkL l)(d:l.length<=990):∀j,j<=l.length->Inv j (QN (l.take j))
 | 0,_=>by rw[List.take_zero];exact Qh8
 | j+1,hj=>by have f:=Qb9 h d j (by omega);have e:=jej (l:=l) (i:=j) (by omega);obtain⟨k,b,a,c⟩:=h j _ e;rw[List.take_succ_eq_append_getElem (by omega),Kx,JX a];exact Qjf f (by omega) b a c
theorem qR {l:List Ev}(h:OkL l)(a:l.length<=990):Inv l.length (QN l):=by have:=Qb9 h a l.length (jLj _);rwa [List.take_length] at this
def isU (e:Ev):Bool:=decide (kdE e=some .undo)
def Uk (i:Nat)(a:List Ev)(e:Ev):Int:=if chk e=0 then(if e.1=(i:Int)+1 then(if isU e=true then QcU a else accE (QN a) e) else 11) else chk e
def YV (a:List Ev)(e:Ev):List Ev:=if isU e=true then a.dropLast else a++[e]
def rep:Nat->List Ev->List Ev->(Int×Int)⊕List Ev
 | _,cnt,[]=>.inr cnt
 | i,cnt,e::l=>if Uk i cnt e=0 then rep (i+1) (YV cnt e) l else .inl ((i:Int)+1,Uk i cnt e)
theorem Xr {e:Ev}{k:Ki}(h:Good e k):isU e=decide (k=.undo):=by
 unfold isU;rw[Qcl h];by_cases a:k=.undo
 ·simp[a]
 ·simp[a]
theorem jY {i:Nat}{a:List Ev}{e:Ev}(h:Uk i a e=0):∃k,Good e k/\e.1=(i:Int)+1/\(if isU e=true then QcU a else accE (QN a) e)=0:=by
 unfold Uk at h;by_cases hc:chk e=0
 ·rw[jTj hc] at h;obtain⟨k,c⟩:=Qec hc;by_cases b:e.1=(i:Int)+1
  ·rw[jTj b] at h;exact⟨k,c,b,h⟩
  ·rw[jFj b] at h;cases h
 ·rw[jFj hc] at h;exact absurd h hc
theorem Qen {a:List Ev}(h:QcU a=0):a≠[]:=by intro e;subst e;cases h
theorem Qdv {i:Nat}{a:List Ev}(f:OkL a)(hc:a.length<=i){e:Ev}(h:Uk i a e=0):OkL (YV a e)/\(YV a e).length<=i+1:=by
 obtain⟨k,d,_,c⟩:=jY h;unfold YV;by_cases b:isU e=true
 ·rw[jTj b];rw[List.dropLast_eq_take];exact⟨Qdu f _,by simp;omega⟩
 ·rw[jFj b] at c ⊢;rw[Xr d] at b;rw[zh d] at c;exact⟨Qdw f (by simpa using b) d c,by simp;omega⟩
theorem wC {x:D}(l:jVj):l.take ((List.replicate (Int.toNat ((l.length:Nat):Int)) (x:D)):jVj).length++(List.replicate (Int.toNat ((l.length:Nat):Int)) (x:D)).drop l.length=l:=by rw[List.length_replicate,jtj,List.take_length,List.drop_eq_nil_of_le (by rw[List.length_replicate];exact jLj _),List.append_nil]
theorem jl {n:Nat}(j:1700<=n){a:List Ev}(i:OkL a)(hc:a.length<=990){evs:jVj}(f:evs.length<=5000){e:Ev}(g:chk e=0) :
  Qq n e.1 e.2.1 (e.2.2.1.map Sd) (e.2.2.2.1.map I) e.2.2.2.2 evs (a.map Q5) (QN a).tick (QN a).level (QN a).filled (QN a).tripped (QN a).light (QN a).heat (QN a).money ((QN a).sectors.map Sd) ((QN a).mirrors.map Q1) ((QN a).offers.map Zs)=some (Uk evs.length a e):=by
 obtain⟨k,c⟩:=Qec g;unfold Uk;rw[jTj g];by_cases d:isU e=true
 ·have b:k=.undo:=by rw[Xr c] at d;exact of_decide_eq_true d
  subst b;rw[QcK (QN a) f a (by omega) c,jTj d]
 ·have b:k≠.undo:=fun h=>d (by rw[Xr c];exact jDj h);rw[Qfj j (qR i hc) (by omega) f b c,jFj d,zh c]
abbrev AddT:=jVj×jVj×Int×Int×Bool×Bool×Int×Int×Int×jVj×jVj×jVj
def VJ (evs a:jVj)(r:Reg):AddT:=(evs,a,Wd r)
theorem unEs (e:Ev):(Option.map Q5 (some e)).bind Wc=some (e.1,e.2.1,e.2.2.1.map Sd,e.2.2.2.1.map I,e.2.2.2.2):=rfl
theorem Qi9 {n:Nat}(S:1700<=n){E:Int}{F:jSj}{G H:jVj}{J:jSj}{K:jVj}{a:List Ev}{L M:Int}{N d:Bool}{f g h:Int}{j o p:jVj}(A:OkL a)(hc:a.length<=990)(C:a≠[]) :
  QU (Zn n E F G H J K (a.map Q5) L M N d f g h j o p) n (.inl ())=some (if a.dropLast=[] then .inl () else .inr (Wd (QN a.dropLast))):=by
 have b:((a.map Q5).take (Int.toNat (((a.map Q5).length:Int) - 1)))=a.dropLast.map Q5:=by
  rw[jlj,List.dropLast_eq_take,List.map_take];congr 1
  have:=List.length_pos_iff.2 C;omega
 have z:OkL a.dropLast:=by rw[List.dropLast_eq_take];exact Qdu A _
 have q:a.dropLast.length<=990:=by simp;omega
 generalize a.dropLast=l at b z q ⊢;have step:∀(i:Nat) (e:Ev),l[i]?=some e->Qy n e.1 e.2.1 (e.2.2.1.map Sd) (e.2.2.2.1.map I) e.2.2.2.2 (QN (l.take i)).tick (QN (l.take i)).level (QN (l.take i)).filled (QN (l.take i)).tripped (QN (l.take i)).light (QN (l.take i)).heat (QN (l.take i)).money ((QN (l.take i)).sectors.map Sd) ((QN (l.take i)).mirrors.map Q1) ((QN (l.take i)).offers.map Zs)=some (Wd (QN (l.take (i+1)))):=by
  intro i e c;have v:=(jGj c).1;obtain⟨k,P,O,Q⟩:=z i e c;have r:=Qb9 z q i (by omega);rw[Qiy S r (by omega) P O Q];have:l.take (i+1)=l.take i++[e]:=by rw[List.take_succ_eq_append_getElem v];rw[jej v] at c;rw[Option.some.inj c]
  rw[this,Kx,JX O]
 have t:∀(m i k:Nat),0<i->i+m=l.length->m<k->QU (Zn n E F G H J K (a.map Q5) L M N d f g h j o p) k (.inr ((i:Int),Wd (QN (l.take i))))=some (.inr (Wd (QN l))):=by
  intro m;induction m with
  | zero =>
   intro i k u v A;have:i=l.length:=by omega
   subst this;rw[List.take_length];rw[W7 (by omega)];unfold Zn;dsimp only;rw[b,jFj (by simp)]
  | succ m ih =>
   intro i k u v A;have c:=jej (l:=l) (i:=i) (by omega);rw[Y5 (s':=.inr (((i+1:Nat):Int),Wd (QN (l.take (i+1))))) (by omega) ?_]
   ·exact ih (i+1) (k - 1) (by omega) (by omega) (by omega)
   ·unfold Zn;dsimp only;rw[b,jTj (ZF c),jTj ⟨Int.natCast_nonneg i,ZF c⟩,jtj,U4,List.getElem?_map,c,unEs,jBj];refine Eq.trans (congrArg (fun x=>Option.bind x _) (step i _ c)) ?_;rw[jBj,jTj (by unfold Qg;omega)];rfl
 by_cases y:l=[]
 ·rw[jTj y];refine W7 (by omega) ?_;unfold Zn;dsimp only;rw[b,y,jFj (by decide)]
 ·rw[jFj y];have s:=List.length_pos_iff.2 y;have c:=jej (l:=l) (i:=0) s;rw[Y5 (s':=.inr (((1:Nat):Int),Wd (QN (l.take 1)))) (by omega) ?_]
  ·exact t (l.length - 1) 1 (n - 1) (by omega) (by omega) (by omega)
  ·unfold Zn;dsimp only;rw[b,jTj (by simp;omega),jTj (by simp;omega),U4,List.getElem?_map,c,unEs,jBj];have u:=step 0 _ c;rw[List.take_zero] at u;refine Eq.trans (congrArg (fun x=>Option.bind x _) u) ?_;rfl
theorem addE {n:Nat}(m:1700<=n){a:List Ev}(l:OkL a)(hc:a.length<=990){evs:jVj}(r:evs.length<=4000){e:Ev}(q:Shw n e)(h:Uk evs.length a e=0) :
  WF n e.1 e.2.1 (e.2.2.1.map Sd) (e.2.2.2.1.map I) e.2.2.2.2 evs (a.map Q5) (QN a).tick (QN a).level (QN a).filled (QN a).tripped (QN a).light (QN a).heat (QN a).money ((QN a).sectors.map Sd) ((QN a).mirrors.map Q1) ((QN a).offers.map Zs)=some (VJ (evs++[Q5 e]) ((YV a e).map Q5) (QN (YV a e))):=by
 obtain⟨k,d,o,i⟩:=jY h;obtain⟨s,t,u⟩:=q;unfold WF;rw[jTj (by rw[jlj];omega),jTj (by rw[jlj];omega),jTj (UO (by decide) (by omega)),wC,wC];unfold YV;by_cases f:isU e=true
 ·have b:k=.undo:=by rw[Xr d] at f;exact of_decide_eq_true f
  subst b;rw[jTj f] at i;have g:=Qen i;have p:=List.length_pos_iff.2 g;have c:((a.map Q5).take (Int.toNat (((a.map Q5).length:Int) - 1)))=a.dropLast.map Q5:=by
   rw[jlj,List.dropLast_eq_take,List.map_take];congr 1
   omega
  rw[jTj (keq d.kind rfl),jTj (by rw[jlj];unfold Qg;omega),jTj (by rw[jlj];omega),Qi9 m l hc g,jBj,jTj f];by_cases j:a.dropLast=[]
  ·rw[jTj j,c,j];rfl
  ·rw[jFj j,c];rfl
 ·have b:k≠.undo:=fun h=>f (by rw[Xr d];exact jDj h);rw[jFj f,zh d] at i;rw[jFj (by rw[kq,d.kind];intro h;exact b (by have:=qZ k;rw[h] at this;exact(Option.some.inj this).symm)),jTj (UO (by decide) (by rw[jlj];omega)),Qg8 m (qR l hc) (by omega) b d i,jBj,jFj f,Kx,JX d,List.map_append];rfl
abbrev StT:=Int×Int×Bool×Bool×Int×Int×Int×jVj×jVj×jVj×jVj×jVj
def stS (evs a:jVj)(r:Reg):StT:=(r.tick,r.level,r.filled,r.tripped,r.light,r.heat,r.money,evs,a,r.sectors.map Sd,r.mirrors.map Q1,r.offers.map Zs)
theorem el_E {l:List Ev}{i:Nat}{e:Ev}(h:l[i]?=some e):el Wc (l.map Q5) (i:Int)=some (e.1,e.2.1,e.2.2.1.map Sd,e.2.2.2.1.map I,e.2.2.2.2):=by unfold el;rw[jTj (Int.natCast_nonneg i),jtj,U4,List.getElem?_map,h];rfl
theorem wS {i:Nat}{a:List Ev}{e:Ev}(h:¬chk e=0):Uk i a e=chk e:=by unfold Uk;rw[jFj h]
theorem Qdf {n:Nat}(p:1700<=n)(l:List Ev)(y:l.length<=990)(u:∀e,e∈l->Shw n e):∀(m pre a:List Ev) (k:Nat),l=pre++m->pre≠[]->OkL a->a.length<=pre.length->m.length<k ->
  (match rep pre.length a m with
   | .inr c=>QU (QP n (l.map Q5)) k (.inr ((pre.length:Int),stS (pre.map Q5) (a.map Q5) (QN a)))=some (.inr (.inr (.inr (stS (l.map Q5) (c.map Q5) (QN c)))))/\OkL c/\c.length<=l.length
   | .inl (i,err)=>err≠0/\∃w,QU (QP n (l.map Q5)) k (.inr ((pre.length:Int),stS (pre.map Q5) (a.map Q5) (QN a)))=some (.inl (i,err,w)))
 | [],pre,a,k,hl0,hne,hok,hc,hk=>by rw[List.append_nil] at hl0;subst hl0;unfold rep;refine⟨?_,hok,hc⟩;refine W7 (by omega) ?_;unfold QP;dsimp only;rw[jFj (by rw[jlj];omega)]
 | e::m,pre,a,k,hl0,hne,hok,hc,hk=>by
  have t:l.length=pre.length+(m.length+1):=by rw[hl0];simp
  have o:l[pre.length]?=some e:=by rw[hl0,List.getElem?_append_right (jLj _),Nat.sub_self];rfl
  have g:=u e (jgj o);have b:(pre.map Q5).length=pre.length:=jlj _;unfold rep;by_cases h:chk e=0
  ·have d:=jl p hok (by omega) (evs:=pre.map Q5) (by rw[b];omega) h;rw[b] at d;by_cases f:Uk pre.length a e=0
   ·rw[jTj f];obtain⟨r,s⟩:=Qdv hok hc f;have q:=addE p hok (by omega) (evs:=pre.map Q5) (by rw[b];omega) g (by rw[b];exact f);have j:QP n (l.map Q5) (.inr ((pre.length:Int),stS (pre.map Q5) (a.map Q5) (QN a)))=some (.inl (.inr (((pre++[e]).length:Int),stS ((pre++[e]).map Q5) ((YV a e).map Q5) (QN (YV a e))))):=by unfold QP;dsimp only;rw[jTj (ZF o),el_E o,jBj,VS p e g,jBj,jTj h];refine Eq.trans (congrArg (fun x=>Option.bind x _) d) ?_;rw[jBj,jTj f];refine Eq.trans (congrArg (fun x=>Option.bind x _) q) ?_;rw[jBj,jTj (by unfold Qg;omega),List.map_append,jaj];rfl
    rw[Y5 (by omega) j];have:=Qdf p l y u m (pre++[e]) (YV a e) (k - 1) (by rw[hl0];simp) (by simp) r (by rw[jaj];exact s) (by simp at hk;omega);have v:(pre++[e]).length=pre.length+1:=by simp
    rw[v] at this ⊢;exact this
   ·rw[jFj f];refine⟨f,stS (pre.map Q5) (a.map Q5) (QN a),?_⟩;refine W7 (by omega) ?_;unfold QP;dsimp only;rw[jTj (ZF o),el_E o,jBj,VS p e g,jBj,jTj h];refine Eq.trans (congrArg (fun x=>Option.bind x _) d) ?_;rw[jBj,jFj f,jTj (by unfold Qg;omega)];try rfl
  ·have f:¬Uk pre.length a e=0:=by rw[wS h];exact h
   rw[jFj f,wS h];refine⟨h,stS (pre.map Q5) (a.map Q5) (QN a),?_⟩;refine W7 (by omega) ?_;unfold QP;dsimp only;rw[jTj (ZF o),el_E o,jBj,VS p e g,jBj,jFj h,jTj (by unfold Qg;omega)];try rfl
theorem EZ {n:Nat}(s:1700<=n)(l:List Ev)(C:l.length<=990)(E:∀e,e∈l->Shw n e) :
  (match rep 0 [] l with
   | .inr c=>ZK n (l.map Q5)=some (0,0,l.map Q5,c.map Q5,Wd (QN c))/\OkL c/\c.length<=l.length
   | .inl (i,err)=>err≠0/\∃w,ZK n (l.map Q5)=some (i,err,w)):=by
 have g:¬(((l.map Q5).length:Int)>1000):=by rw[jlj];omega
 cases l with
 | nil =>
  unfold rep ZK;refine⟨?_,wD,jLj _⟩;rw[jFj g];have:QU (QP n (([]:List Ev).map Q5)) n (.inl ())=some (.inr (.inr (.inl ()))):=by refine W7 (by omega) ?_;unfold QP;dsimp only;rw[jFj (by decide)]
  rw[this];rfl
 | cons e m =>
  have A:(e::m)[0]?=some e:=rfl;have h:=E e jMj;have d:(0:Int)<(((e::m).map Q5).length:Int):=by simp only[jCj,List.length_cons];omega
  unfold rep;by_cases o:chk e=0
  ·have j:=jl s wD (by simp) (evs:=[]) (by simp) o;by_cases f:Uk 0 [] e=0
   ·rw[jTj f];obtain⟨y,z⟩:=Qdv wD (jLj _) f;have t:=addE s wD (by simp) (evs:=[]) (by simp) h f;have r:QP n ((e::m).map Q5) (.inl ())=some (.inl (.inr ((([e]:List Ev).length:Int),stS ([e].map Q5) ((YV [] e).map Q5) (QN (YV [] e))))):=by unfold QP;dsimp only;rw[jTj d,show el Wc ((e::m).map Q5) 0=_ from el_E A,jBj,VS s e h,jBj,jTj o];refine Eq.trans (congrArg (fun x=>Option.bind x _) j) ?_;rw[jBj,jTj (show Uk ([]:jVj).length [] e=0 from f)];refine Eq.trans (congrArg (fun x=>Option.bind x _) t) ?_;rfl
    have a:=Qdf s (e::m) C E m [e] (YV [] e) (n - 1) rfl (by simp) y (by simpa using z) (by simp at C;omega);have b:=Y5 (k:=n) (by omega) r;have q:([e]:List Ev).length=0+1:=rfl;rw[q] at a b;unfold ZK;rw[jFj g,b];cases hr:rep (0+1) (YV [] e) m with
    | inr c =>
     rw[hr] at a;obtain⟨u,v,F⟩:=a;refine⟨?_,v,F⟩;rw[u];rfl
    | inl p =>
     obtain⟨i,err⟩:=p;rw[hr] at a;obtain⟨u,w,v⟩:=a;refine⟨u,?_⟩;rw[v];exact⟨_,rfl⟩
   ·rw[jFj f];refine⟨f,?_⟩;unfold ZK;have:QU (QP n ((e::m).map Q5)) n (.inl ())=some (.inl (1,Uk 0 [] e,0,0,false,false,0,0,0,[],[],[],[],[])):=by refine W7 (by omega) ?_;unfold QP;dsimp only;rw[jTj d,show el Wc ((e::m).map Q5) 0=_ from el_E A,jBj,VS s e h,jBj,jTj o];refine Eq.trans (congrArg (fun x=>Option.bind x _) j) ?_;rw[jBj,jFj (show ¬Uk ([]:jVj).length [] e=0 from f)];rfl
    rw[jFj g,this];exact⟨_,rfl⟩
  ·have f:¬Uk 0 [] e=0:=by rw[wS o];exact o
   rw[jFj f,wS o];refine⟨o,?_⟩;unfold ZK;have:QU (QP n ((e::m).map Q5)) n (.inl ())=some (.inr (.inl (chk e))):=by refine W7 (by omega) ?_;unfold QP;dsimp only;rw[jTj d,show el Wc ((e::m).map Q5) 0=_ from el_E A,jBj,VS s e h,jBj,jFj o]
   rw[jFj g,this];exact⟨_,rfl⟩
def z0:D:=jZj
instance (e:Ev):Decidable (Short e):=by unfold Short;infer_instance
set_option maxRecDepth 10000
set_option maxHeartbeats 4000000
def VZ (n:Nat)(f:jVj)(b:Int):Option (Int×Int×Int) := (ZK n f).bind fun a=>(ZJ n b 0 999999999).bind fun g=>(Qm n (decide (b<a.2.2.2.2.1)) 22).bind fun h=>(Qi n ([I a.2.1,I g,I h])).bind fun c=>if c=0 then(Qn n b a.2.2.1 a.2.2.2.1 a.2.2.2.2.1 a.2.2.2.2.2.1 a.2.2.2.2.2.2.1 a.2.2.2.2.2.2.2.1 a.2.2.2.2.2.2.2.2.1 a.2.2.2.2.2.2.2.2.2.1 a.2.2.2.2.2.2.2.2.2.2.1 a.2.2.2.2.2.2.2.2.2.2.2.1 a.2.2.2.2.2.2.2.2.2.2.2.2.1 a.2.2.2.2.2.2.2.2.2.2.2.2.2).bind fun d=>if d=0 then(Q9 n b a.2.2.1 a.2.2.2.1 a.2.2.2.2.1 a.2.2.2.2.2.1 a.2.2.2.2.2.2.1 a.2.2.2.2.2.2.2.1 a.2.2.2.2.2.2.2.2.1 a.2.2.2.2.2.2.2.2.2.1 a.2.2.2.2.2.2.2.2.2.2.1 a.2.2.2.2.2.2.2.2.2.2.2.1 a.2.2.2.2.2.2.2.2.2.2.2.2.1 a.2.2.2.2.2.2.2.2.2.2.2.2.2).bind fun e=>some (e.1,e.2,0) else some (0,0,d) else some (0,0,c)
theorem qx {n c e r}(h:VZ n c e=some r):Computes cx 11 [.lst false 5 c,I e] (.tup [.agg [I r.1,I r.2.1],I r.2.2]):=by
 unfold VZ at h;have⟨t1,h1,h⟩:=bo h;have⟨t2,h2,h⟩:=bo h;have⟨t3,h3,h⟩:=bo h;have⟨t4,h4,h⟩:=bo h;have q:=Qb (leF (Qv h4)) (Qb (Qs h3) (Qb (Va h2) (Qb (KO h1) QA)));let o(l:jOj):=.obj none (.tup [.ptr 0 0 0 0 0,.d (I t1.1),.d (I t1.2.1)]) (Qa' t1.2.2) []::.ret (I t2)::.ret (I t3)::.ret (I t4)::l;obtain⟨a,h⟩|⟨a,h⟩:=io h
 ·have⟨t6,h6,h⟩:=bo h;have q:=Qb (Qu h6) (Qb (nef a) q);let o l:=o (b0::.obj (some 11) (.d (I t6)) (Qa' t1.2.2) Zj::l);obtain⟨b,h⟩|⟨b,h⟩:=io h
  ·have⟨t8,h8,h⟩:=bo h;cases h;exact rf (o [b0,.obj (some 11) (.d (.agg [I t8.1,I t8.2])) (Qa' t1.2.2) Zj]) (Qb (WT h8) (Qb (nef b) q))
  cases h;exact rf (o [b1]) (Qb (net b) q)
 cases h;exact rf (o [b1]) (Qb (net a) q)
def Wa (n:Nat)(c:jVj)(d e:Int)(f:jVj×Bool)(a:(Int×jVj)):Option (Int×jVj⊕jVj) := if a.1<((a.2).length:Int) then if 0<=a.1/\a.1<((a.2).length:Int) then((nth (a.2) (Int.toNat a.1)).bind UX).bind fun b=>if Qg (a.1+1) then some (.inl ((a.1+1),(List.set a.2 (Int.toNat a.1) (.agg [I b.1,I 0]:D)))) else none else none else some (.inr a.2)
noncomputable def EO (a:jVj)(c f:Int)(g:jVj×Bool):Lp (Int×jVj) (jVj):=⟨fun b=>[(0,.d (.lst false 2 a)),(1,.d (.v (.int .u8 c))),(7,.d (.lst false 2 g.1)),(9,.d (I (Int.tmod (IntKind.wrap .i64 f) (((a).length:Int)+1)))),(10,.own 19 0),(11,.d (I b.1))],fun b=>[(19,.row 0 2 b.2)],fun _=>(.exit 0),fun _=>[(0,.d (.lst false 2 a)),(1,.d (.v (.int .u8 c))),(7,.d (.lst false 2 g.1)),(9,.d (I (Int.tmod (IntKind.wrap .i64 f) (((a).length:Int)+1)))),(10,.own 19 0)],fun e=>[(19,.row 0 2 e)]⟩
theorem EI {n b c d f}(e)(r)(h:Wa n b c d f e=some r):Rl (Zt cx.P 3 0) 394 0 false (EO b c d f) e r:=by
 unfold Wa at h;obtain⟨a,h⟩|⟨a,h⟩:=io h
 ·have⟨ha2,h⟩:=gd h;have⟨ta3,ha3,h⟩:=bo h;have⟨ha4,h⟩:=gd h;cases h;exact rn 23 [b1,b1,.el (Ux ta3)] [] [0,1,7,9,10,11] [19] (Qb ha4 (Qb (Q0 Yz ha3) (Qb ha2 (Qb (jDj a) QA))))
 cases h;exact rx 23 [b0] [] [0,1,7,9,10] [19] (Qb (jEj a) QA)
def Ze (n:Nat)(A:jVj)(C:Int)(t11:jVj×Int×Int×Int×Int)(c:(Int×Int×Int×Bool×Bool×Int×Int×Int×jVj×jVj×jVj×jVj×jVj)):Option (Int×Int×Int×Bool×Bool×Int×Int×Int×jVj×jVj×jVj×jVj×jVj⊕Int×Int×Bool×Bool×Int×Int×Int×jVj×jVj×jVj×jVj×jVj) := if c.1<((A).length:Int) then(el UX A c.1).bind fun z=>if Qg (10*c.1) then(QT n (10*c.1)).bind fun d=>if(⟨#[115,117,110,32]⟩:jSj).size+d.size<=9223372036854775807 then if((⟨#[115,117,110,32]⟩:jSj)++d).size+(⟨#[32]⟩:jSj).size<=9223372036854775807 then(QT n z.2).bind fun t=>if(((⟨#[115,117,110,32]⟩:jSj)++d)++(⟨#[32]⟩:jSj)).size+t.size<=9223372036854775807 then if c.1=(Int.tmod (IntKind.wrap .i64 C) (((A).length:Int)+1)) then if(⟨#[116,114,105,112,32]⟩:jSj).size+d.size<=9223372036854775807 then(el V5 t11.1 c.1).bind fun v=>if v>0 then(QT n c.1).bind fun b=>if(⟨#[111]⟩:jSj).size+b.size<=9223372036854775807 then if(⟨#[111,102,102,101,114,32]⟩:jSj).size+((⟨#[111]⟩:jSj)++b).size<=9223372036854775807 then if((⟨#[111,102,102,101,114,32]⟩:jSj)++((⟨#[111]⟩:jSj)++b)).size+(⟨#[32]⟩:jSj).size<=9223372036854775807 then if(((⟨#[111,102,102,101,114,32]⟩:jSj)++((⟨#[111]⟩:jSj)++b))++(⟨#[32]⟩:jSj)).size+d.size<=9223372036854775807 then if((((⟨#[111,102,102,101,114,32]⟩:jSj)++((⟨#[111]⟩:jSj)++b))++(⟨#[32]⟩:jSj))++d).size+(⟨#[32]⟩:jSj).size<=9223372036854775807 then if Qg ((10*c.1)+10) then(QT n ((10*c.1)+10)).bind fun o=>if(((((⟨#[111,102,102,101,114,32]⟩:jSj)++((⟨#[111]⟩:jSj)++b))++(⟨#[32]⟩:jSj))++d)++(⟨#[32]⟩:jSj)).size+o.size<=9223372036854775807 then if((((((⟨#[111,102,102,101,114,32]⟩:jSj)++((⟨#[111]⟩:jSj)++b))++(⟨#[32]⟩:jSj))++d)++(⟨#[32]⟩:jSj))++o).size+(⟨#[32]⟩:jSj).size<=9223372036854775807 then if Qg ((10*c.1)+20) then(QT n ((10*c.1)+20)).bind fun q=>if(((((((⟨#[111,102,102,101,114,32]⟩:jSj)++((⟨#[111]⟩:jSj)++b))++(⟨#[32]⟩:jSj))++d)++(⟨#[32]⟩:jSj))++o)++(⟨#[32]⟩:jSj)).size+q.size<=9223372036854775807 then if((((((((⟨#[111,102,102,101,114,32]⟩:jSj)++((⟨#[111]⟩:jSj)++b))++(⟨#[32]⟩:jSj))++d)++(⟨#[32]⟩:jSj))++o)++(⟨#[32]⟩:jSj))++q).size+(⟨#[32]⟩:jSj).size<=9223372036854775807 then(QT n v).bind fun s=>if(((((((((⟨#[111,102,102,101,114,32]⟩:jSj)++((⟨#[111]⟩:jSj)++b))++(⟨#[32]⟩:jSj))++d)++(⟨#[32]⟩:jSj))++o)++(⟨#[32]⟩:jSj))++q)++(⟨#[32]⟩:jSj)).size+s.size<=9223372036854775807 then if((((((((((⟨#[111,102,102,101,114,32]⟩:jSj)++((⟨#[111]⟩:jSj)++b))++(⟨#[32]⟩:jSj))++d)++(⟨#[32]⟩:jSj))++o)++(⟨#[32]⟩:jSj))++q)++(⟨#[32]⟩:jSj))++s).size+(⟨#[32]⟩:jSj).size<=9223372036854775807 then(QT n z.1).bind fun y=>if(((((((((((⟨#[111,102,102,101,114,32]⟩:jSj)++((⟨#[111]⟩:jSj)++b))++(⟨#[32]⟩:jSj))++d)++(⟨#[32]⟩:jSj))++o)++(⟨#[32]⟩:jSj))++q)++(⟨#[32]⟩:jSj))++s)++(⟨#[32]⟩:jSj)).size+y.size<=9223372036854775807 then if(⟨#[100,101,108,105,118,101,114,32]⟩:jSj).size+((⟨#[111]⟩:jSj)++b).size<=9223372036854775807 then if((⟨#[100,101,108,105,118,101,114,32]⟩:jSj)++((⟨#[111]⟩:jSj)++b)).size+(⟨#[32]⟩:jSj).size<=9223372036854775807 then if(((⟨#[100,101,108,105,118,101,114,32]⟩:jSj)++((⟨#[111]⟩:jSj)++b))++(⟨#[32]⟩:jSj)).size+o.size<=9223372036854775807 then if((((⟨#[100,101,108,105,118,101,114,32]⟩:jSj)++((⟨#[111]⟩:jSj)++b))++(⟨#[32]⟩:jSj))++o).size+(⟨#[32]⟩:jSj).size<=9223372036854775807 then if(((((⟨#[100,101,108,105,118,101,114,32]⟩:jSj)++((⟨#[111]⟩:jSj)++b))++(⟨#[32]⟩:jSj))++o)++(⟨#[32]⟩:jSj)).size+s.size<=9223372036854775807 then(Qj n ((((⟨#[115,117,110,32]⟩:jSj)++d)++(⟨#[32]⟩:jSj))++t) c.2.2.2.2.2.2.2.2.1 c.2.2.2.2.2.2.2.2.2.1 c.2.1 c.2.2.1 c.2.2.2.1 c.2.2.2.2.1 c.2.2.2.2.2.1 c.2.2.2.2.2.2.1 c.2.2.2.2.2.2.2.1 c.2.2.2.2.2.2.2.2.2.2.1 c.2.2.2.2.2.2.2.2.2.2.2.1 c.2.2.2.2.2.2.2.2.2.2.2.2).bind fun g=>if g.2.1=0 then(Qj n ((⟨#[116,114,105,112,32]⟩:jSj)++d) g.2.2.1 g.2.2.2.1 g.2.2.2.2.1 g.2.2.2.2.2.1 g.2.2.2.2.2.2.1 g.2.2.2.2.2.2.2.1 g.2.2.2.2.2.2.2.2.1 g.2.2.2.2.2.2.2.2.2.1 g.2.2.2.2.2.2.2.2.2.2.1 g.2.2.2.2.2.2.2.2.2.2.2.1 g.2.2.2.2.2.2.2.2.2.2.2.2.1 g.2.2.2.2.2.2.2.2.2.2.2.2.2).bind fun i=>if i.2.1=0 then(Qj n ((((((((((((⟨#[111,102,102,101,114,32]⟩:jSj)++((⟨#[111]⟩:jSj)++b))++(⟨#[32]⟩:jSj))++d)++(⟨#[32]⟩:jSj))++o)++(⟨#[32]⟩:jSj))++q)++(⟨#[32]⟩:jSj))++s)++(⟨#[32]⟩:jSj))++y) i.2.2.1 i.2.2.2.1 i.2.2.2.2.1 i.2.2.2.2.2.1 i.2.2.2.2.2.2.1 i.2.2.2.2.2.2.2.1 i.2.2.2.2.2.2.2.2.1 i.2.2.2.2.2.2.2.2.2.1 i.2.2.2.2.2.2.2.2.2.2.1 i.2.2.2.2.2.2.2.2.2.2.2.1 i.2.2.2.2.2.2.2.2.2.2.2.2.1 i.2.2.2.2.2.2.2.2.2.2.2.2.2).bind fun k=>if k.2.1=0 then(Qj n ((((((⟨#[100,101,108,105,118,101,114,32]⟩:jSj)++((⟨#[111]⟩:jSj)++b))++(⟨#[32]⟩:jSj))++o)++(⟨#[32]⟩:jSj))++s) k.2.2.1 k.2.2.2.1 k.2.2.2.2.1 k.2.2.2.2.2.1 k.2.2.2.2.2.2.1 k.2.2.2.2.2.2.2.1 k.2.2.2.2.2.2.2.2.1 k.2.2.2.2.2.2.2.2.2.1 k.2.2.2.2.2.2.2.2.2.2.1 k.2.2.2.2.2.2.2.2.2.2.2.1 k.2.2.2.2.2.2.2.2.2.2.2.2.1 k.2.2.2.2.2.2.2.2.2.2.2.2.2).bind fun l=>if l.2.1=0 then if Qg (c.1+1) then some (.inl ((c.1+1),l.2.2.2.2.1,l.2.2.2.2.2.1,l.2.2.2.2.2.2.1,l.2.2.2.2.2.2.2.1,l.2.2.2.2.2.2.2.2.1,l.2.2.2.2.2.2.2.2.2.1,l.2.2.2.2.2.2.2.2.2.2.1,l.2.2.1,l.2.2.2.1,l.2.2.2.2.2.2.2.2.2.2.2.1,l.2.2.2.2.2.2.2.2.2.2.2.2.1,l.2.2.2.2.2.2.2.2.2.2.2.2.2)) else none else none else none else none else none else none else none else none else none else none else none else none else none else none else none else none else none else none else none else none else none else none else none else none else(Qj n ((((⟨#[115,117,110,32]⟩:jSj)++d)++(⟨#[32]⟩:jSj))++t) c.2.2.2.2.2.2.2.2.1 c.2.2.2.2.2.2.2.2.2.1 c.2.1 c.2.2.1 c.2.2.2.1 c.2.2.2.2.1 c.2.2.2.2.2.1 c.2.2.2.2.2.2.1 c.2.2.2.2.2.2.2.1 c.2.2.2.2.2.2.2.2.2.2.1 c.2.2.2.2.2.2.2.2.2.2.2.1 c.2.2.2.2.2.2.2.2.2.2.2.2).bind fun b=>if b.2.1=0 then(Qj n ((⟨#[116,114,105,112,32]⟩:jSj)++d) b.2.2.1 b.2.2.2.1 b.2.2.2.2.1 b.2.2.2.2.2.1 b.2.2.2.2.2.2.1 b.2.2.2.2.2.2.2.1 b.2.2.2.2.2.2.2.2.1 b.2.2.2.2.2.2.2.2.2.1 b.2.2.2.2.2.2.2.2.2.2.1 b.2.2.2.2.2.2.2.2.2.2.2.1 b.2.2.2.2.2.2.2.2.2.2.2.2.1 b.2.2.2.2.2.2.2.2.2.2.2.2.2).bind fun e=>if e.2.1=0 then if Qg (c.1+1) then some (.inl ((c.1+1),e.2.2.2.2.1,e.2.2.2.2.2.1,e.2.2.2.2.2.2.1,e.2.2.2.2.2.2.2.1,e.2.2.2.2.2.2.2.2.1,e.2.2.2.2.2.2.2.2.2.1,e.2.2.2.2.2.2.2.2.2.2.1,e.2.2.1,e.2.2.2.1,e.2.2.2.2.2.2.2.2.2.2.2.1,e.2.2.2.2.2.2.2.2.2.2.2.2.1,e.2.2.2.2.2.2.2.2.2.2.2.2.2)) else none else none else none else none else(el V5 t11.1 c.1).bind fun u=>if u>0 then(QT n c.1).bind fun a=>if(⟨#[111]⟩:jSj).size+a.size<=9223372036854775807 then if(⟨#[111,102,102,101,114,32]⟩:jSj).size+((⟨#[111]⟩:jSj)++a).size<=9223372036854775807 then if((⟨#[111,102,102,101,114,32]⟩:jSj)++((⟨#[111]⟩:jSj)++a)).size+(⟨#[32]⟩:jSj).size<=9223372036854775807 then if(((⟨#[111,102,102,101,114,32]⟩:jSj)++((⟨#[111]⟩:jSj)++a))++(⟨#[32]⟩:jSj)).size+d.size<=9223372036854775807 then if((((⟨#[111,102,102,101,114,32]⟩:jSj)++((⟨#[111]⟩:jSj)++a))++(⟨#[32]⟩:jSj))++d).size+(⟨#[32]⟩:jSj).size<=9223372036854775807 then if Qg ((10*c.1)+10) then(QT n ((10*c.1)+10)).bind fun m=>if(((((⟨#[111,102,102,101,114,32]⟩:jSj)++((⟨#[111]⟩:jSj)++a))++(⟨#[32]⟩:jSj))++d)++(⟨#[32]⟩:jSj)).size+m.size<=9223372036854775807 then if((((((⟨#[111,102,102,101,114,32]⟩:jSj)++((⟨#[111]⟩:jSj)++a))++(⟨#[32]⟩:jSj))++d)++(⟨#[32]⟩:jSj))++m).size+(⟨#[32]⟩:jSj).size<=9223372036854775807 then if Qg ((10*c.1)+20) then(QT n ((10*c.1)+20)).bind fun p=>if(((((((⟨#[111,102,102,101,114,32]⟩:jSj)++((⟨#[111]⟩:jSj)++a))++(⟨#[32]⟩:jSj))++d)++(⟨#[32]⟩:jSj))++m)++(⟨#[32]⟩:jSj)).size+p.size<=9223372036854775807 then if((((((((⟨#[111,102,102,101,114,32]⟩:jSj)++((⟨#[111]⟩:jSj)++a))++(⟨#[32]⟩:jSj))++d)++(⟨#[32]⟩:jSj))++m)++(⟨#[32]⟩:jSj))++p).size+(⟨#[32]⟩:jSj).size<=9223372036854775807 then(QT n u).bind fun r=>if(((((((((⟨#[111,102,102,101,114,32]⟩:jSj)++((⟨#[111]⟩:jSj)++a))++(⟨#[32]⟩:jSj))++d)++(⟨#[32]⟩:jSj))++m)++(⟨#[32]⟩:jSj))++p)++(⟨#[32]⟩:jSj)).size+r.size<=9223372036854775807 then if((((((((((⟨#[111,102,102,101,114,32]⟩:jSj)++((⟨#[111]⟩:jSj)++a))++(⟨#[32]⟩:jSj))++d)++(⟨#[32]⟩:jSj))++m)++(⟨#[32]⟩:jSj))++p)++(⟨#[32]⟩:jSj))++r).size+(⟨#[32]⟩:jSj).size<=9223372036854775807 then(QT n z.1).bind fun x=>if(((((((((((⟨#[111,102,102,101,114,32]⟩:jSj)++((⟨#[111]⟩:jSj)++a))++(⟨#[32]⟩:jSj))++d)++(⟨#[32]⟩:jSj))++m)++(⟨#[32]⟩:jSj))++p)++(⟨#[32]⟩:jSj))++r)++(⟨#[32]⟩:jSj)).size+x.size<=9223372036854775807 then if(⟨#[100,101,108,105,118,101,114,32]⟩:jSj).size+((⟨#[111]⟩:jSj)++a).size<=9223372036854775807 then if((⟨#[100,101,108,105,118,101,114,32]⟩:jSj)++((⟨#[111]⟩:jSj)++a)).size+(⟨#[32]⟩:jSj).size<=9223372036854775807 then if(((⟨#[100,101,108,105,118,101,114,32]⟩:jSj)++((⟨#[111]⟩:jSj)++a))++(⟨#[32]⟩:jSj)).size+m.size<=9223372036854775807 then if((((⟨#[100,101,108,105,118,101,114,32]⟩:jSj)++((⟨#[111]⟩:jSj)++a))++(⟨#[32]⟩:jSj))++m).size+(⟨#[32]⟩:jSj).size<=9223372036854775807 then if(((((⟨#[100,101,108,105,118,101,114,32]⟩:jSj)++((⟨#[111]⟩:jSj)++a))++(⟨#[32]⟩:jSj))++m)++(⟨#[32]⟩:jSj)).size+r.size<=9223372036854775807 then(Qj n ((((⟨#[115,117,110,32]⟩:jSj)++d)++(⟨#[32]⟩:jSj))++t) c.2.2.2.2.2.2.2.2.1 c.2.2.2.2.2.2.2.2.2.1 c.2.1 c.2.2.1 c.2.2.2.1 c.2.2.2.2.1 c.2.2.2.2.2.1 c.2.2.2.2.2.2.1 c.2.2.2.2.2.2.2.1 c.2.2.2.2.2.2.2.2.2.2.1 c.2.2.2.2.2.2.2.2.2.2.2.1 c.2.2.2.2.2.2.2.2.2.2.2.2).bind fun f=>if f.2.1=0 then(Qj n ((((((((((((⟨#[111,102,102,101,114,32]⟩:jSj)++((⟨#[111]⟩:jSj)++a))++(⟨#[32]⟩:jSj))++d)++(⟨#[32]⟩:jSj))++m)++(⟨#[32]⟩:jSj))++p)++(⟨#[32]⟩:jSj))++r)++(⟨#[32]⟩:jSj))++x) f.2.2.1 f.2.2.2.1 f.2.2.2.2.1 f.2.2.2.2.2.1 f.2.2.2.2.2.2.1 f.2.2.2.2.2.2.2.1 f.2.2.2.2.2.2.2.2.1 f.2.2.2.2.2.2.2.2.2.1 f.2.2.2.2.2.2.2.2.2.2.1 f.2.2.2.2.2.2.2.2.2.2.2.1 f.2.2.2.2.2.2.2.2.2.2.2.2.1 f.2.2.2.2.2.2.2.2.2.2.2.2.2).bind fun h=>if h.2.1=0 then(Qj n ((((((⟨#[100,101,108,105,118,101,114,32]⟩:jSj)++((⟨#[111]⟩:jSj)++a))++(⟨#[32]⟩:jSj))++m)++(⟨#[32]⟩:jSj))++r) h.2.2.1 h.2.2.2.1 h.2.2.2.2.1 h.2.2.2.2.2.1 h.2.2.2.2.2.2.1 h.2.2.2.2.2.2.2.1 h.2.2.2.2.2.2.2.2.1 h.2.2.2.2.2.2.2.2.2.1 h.2.2.2.2.2.2.2.2.2.2.1 h.2.2.2.2.2.2.2.2.2.2.2.1 h.2.2.2.2.2.2.2.2.2.2.2.2.1 h.2.2.2.2.2.2.2.2.2.2.2.2.2).bind fun j=>if j.2.1=0 then if Qg (c.1+1) then some (.inl ((c.1+1),j.2.2.2.2.1,j.2.2.2.2.2.1,j.2.2.2.2.2.2.1,j.2.2.2.2.2.2.2.1,j.2.2.2.2.2.2.2.2.1,j.2.2.2.2.2.2.2.2.2.1,j.2.2.2.2.2.2.2.2.2.2.1,j.2.2.1,j.2.2.2.1,j.2.2.2.2.2.2.2.2.2.2.2.1,j.2.2.2.2.2.2.2.2.2.2.2.2.1,j.2.2.2.2.2.2.2.2.2.2.2.2.2)) else none else none else none else none else none else none else none else none else none else none else none else none else none else none else none else none else none else none else none else none else none else none else none else(Qj n ((((⟨#[115,117,110,32]⟩:jSj)++d)++(⟨#[32]⟩:jSj))++t) c.2.2.2.2.2.2.2.2.1 c.2.2.2.2.2.2.2.2.2.1 c.2.1 c.2.2.1 c.2.2.2.1 c.2.2.2.2.1 c.2.2.2.2.2.1 c.2.2.2.2.2.2.1 c.2.2.2.2.2.2.2.1 c.2.2.2.2.2.2.2.2.2.2.1 c.2.2.2.2.2.2.2.2.2.2.2.1 c.2.2.2.2.2.2.2.2.2.2.2.2).bind fun a=>if a.2.1=0 then if Qg (c.1+1) then some (.inl ((c.1+1),a.2.2.2.2.1,a.2.2.2.2.2.1,a.2.2.2.2.2.2.1,a.2.2.2.2.2.2.2.1,a.2.2.2.2.2.2.2.2.1,a.2.2.2.2.2.2.2.2.2.1,a.2.2.2.2.2.2.2.2.2.2.1,a.2.2.1,a.2.2.2.1,a.2.2.2.2.2.2.2.2.2.2.2.1,a.2.2.2.2.2.2.2.2.2.2.2.2.1,a.2.2.2.2.2.2.2.2.2.2.2.2.2)) else none else none else none else none else none else none else some (.inr (c.2.1,c.2.2.1,c.2.2.2.1,c.2.2.2.2.1,c.2.2.2.2.2.1,c.2.2.2.2.2.2.1,c.2.2.2.2.2.2.2.1,c.2.2.2.2.2.2.2.2.1,c.2.2.2.2.2.2.2.2.2.1,c.2.2.2.2.2.2.2.2.2.2.1,c.2.2.2.2.2.2.2.2.2.2.2.1,c.2.2.2.2.2.2.2.2.2.2.2.2))
noncomputable def EN (b:jVj)(c:Int)(t11:jVj×Int×Int×Int×Int):Lp (Int×Int×Int×Bool×Bool×Int×Int×Int×jVj×jVj×jVj×jVj×jVj) (Int×Int×Bool×Bool×Int×Int×Int×jVj×jVj×jVj×jVj×jVj):=⟨fun a=>[(0,.d (.lst false 2 b)),(9,.d (I (Int.tmod (IntKind.wrap .i64 c) (((b).length:Int)+1)))),(16,.d (.lst false 1 t11.1)),(17,.ptr 74 0 0 0 0),(19,.ptr 90 0 0 0 0),(127,.d (.lst false 2 b)),(128,.d (I ((b).length:Int))),(129,.d (I a.1))],fun a=>[(74,.box (.d (.agg [I t11.2.1,I t11.2.2.1,I t11.2.2.2.1]))),(90,.box (.agg [.own 109 0,.own 110 0,.d (I a.2.1),.d (I a.2.2.1),.d (B a.2.2.2.1),.d (B a.2.2.2.2.1),.d (I a.2.2.2.2.2.1),.d (I a.2.2.2.2.2.2.1),.d (I a.2.2.2.2.2.2.2.1),.own 118 0,.own 119 0,.own 120 0])),(109,.row 0 5 a.2.2.2.2.2.2.2.2.1),(110,.row 0 5 a.2.2.2.2.2.2.2.2.2.1),(118,.row 0 1 a.2.2.2.2.2.2.2.2.2.2.1),(119,.row 0 6 a.2.2.2.2.2.2.2.2.2.2.2.1),(120,.row 0 7 a.2.2.2.2.2.2.2.2.2.2.2.2)],fun _=>(.exit 2),fun _=>[(0,.d (.lst false 2 b)),(9,.d (I (Int.tmod (IntKind.wrap .i64 c) (((b).length:Int)+1)))),(17,.ptr 74 0 0 0 0),(19,.ptr 90 0 0 0 0)],fun e=>[(74,.box (.d (.agg [I t11.2.1,I t11.2.2.1,I t11.2.2.2.1]))),(90,.box (.agg [.own 109 0,.own 110 0,.d (I e.1),.d (I e.2.1),.d (B e.2.2.1),.d (B e.2.2.2.1),.d (I e.2.2.2.2.1),.d (I e.2.2.2.2.2.1),.d (I e.2.2.2.2.2.2.1),.own 118 0,.own 119 0,.own 120 0])),(109,.row 0 5 e.2.2.2.2.2.2.2.1),(110,.row 0 5 e.2.2.2.2.2.2.2.2.1),(118,.row 0 1 e.2.2.2.2.2.2.2.2.2.1),(119,.row 0 6 e.2.2.2.2.2.2.2.2.2.2.1),(120,.row 0 7 e.2.2.2.2.2.2.2.2.2.2.2)]⟩
theorem EH {n v x t11}(y)(r)(h:Ze n v x t11 y=some r):Rl (Zt cx.P 3 1) 394 0 false (EN v x t11) y r:=by
 unfold Ze at h;obtain⟨t,h⟩|⟨t,h⟩:=io h
 ·have⟨ta2,ha2,h⟩:=bo h;have⟨ha3,h⟩:=gd h;have⟨ta4,ha4,h⟩:=bo h;have⟨ha5,h⟩:=gd h;have⟨ha6,h⟩:=gd h;have⟨ta7,ha7,h⟩:=bo h;have⟨ha8,h⟩:=gd h;have q:=Qb ha8 (Qb (QG ha7) (Qb ha6 (Qb ha5 (Qb (QG ha4) (Qb ha3 (Q2 Yz ha2 (Qb (jDj t) QA)))))));let o(l:jOj):=b1::.el (Ux ta2)::.ret (Qe ta4)::.ret (Qe ta7)::l;obtain⟨u,h⟩|⟨u,h⟩:=io h
  ·have⟨ha10,h⟩:=gd h;have⟨ta11,c,h⟩:=bo h;have q:=Q2 QM c (Qb ha10 (Qb (QG ha4) (Qb ha3 (Qb (eqt u) q))));let o l:=o (b1::.ret (Qe ta4)::.no::.no::.el (Zi ta11)::l);obtain⟨e,h⟩|⟨e,h⟩:=io h
   ·have⟨ta13,a,h⟩:=bo h;have⟨b,h⟩:=gd h;have⟨ha15,h⟩:=gd h;have⟨f,h⟩:=gd h;have⟨ha17,h⟩:=gd h;have⟨ha18,h⟩:=gd h;have⟨ha19,h⟩:=gd h;have⟨ta20,ha20,h⟩:=bo h;have⟨ha21,h⟩:=gd h;have⟨ha22,h⟩:=gd h;have⟨ha23,h⟩:=gd h;have⟨ta24,ha24,h⟩:=bo h;have⟨ha25,h⟩:=gd h;have⟨ha26,h⟩:=gd h;have⟨ta27,ha27,h⟩:=bo h;have⟨ha28,h⟩:=gd h;have⟨ha29,h⟩:=gd h;have⟨ta30,ha30,h⟩:=bo h;have⟨ha31,h⟩:=gd h;have⟨ha32,h⟩:=gd h;have⟨ha33,h⟩:=gd h;have⟨ha34,h⟩:=gd h;have⟨ha35,h⟩:=gd h;have⟨ha36,h⟩:=gd h;have⟨ta37,g,h⟩:=bo h;obtain⟨i,h⟩|⟨i,h⟩:=io h
    ·have⟨ta39,j,h⟩:=bo h;obtain⟨k,h⟩|⟨k,h⟩:=io h
     ·have⟨ta41,m,h⟩:=bo h;obtain⟨p,h⟩|⟨p,h⟩:=io h
      ·have⟨ta43,ha43,h⟩:=bo h;obtain⟨s,h⟩|⟨s,h⟩:=io h
       ·have⟨ha45,h⟩:=gd h;cases h;exact rn 240 (o (b1::.ret (Qe ta13)::.ret (Qe ta4)::.ret (Qe ta20)::.ret (Qe ta24)::.el (Zi ta11)::.ret (Qe ta27)::.ret (Qe ta30)::.ret (Qe ta20)::.el (Zi ta11)::.ret (Qe ta27)::(no 5 [.obj (some 90) (.d (.tup [Qe ta37.1,I ta37.2.1])) (Qa' ta37.2.2) [],b0,.no,.no,.no,.no,.obj (some 90) (.d (.tup [Qe ta39.1,I ta39.2.1])) (Qa' ta39.2.2) [],b0,.no,.no,.no,.no,.obj (some 90) (.d (.tup [Qe ta41.1,I ta41.2.1])) (Qa' ta41.2.2) [],b0,.no,.no,.no,.no,.obj (some 90) (.d (.tup [Qe ta43.1,I ta43.2.1])) (Qa' ta43.2.2) [],b0,.no,.no]))) [] [0,9,16,17,19,127,128,129] [74,90,109,110,118,119,120] (Qb ha45 (Qb ((by unfold Qg;omega):Qg 4) (Qb (nef s) (Qb (Qo ha43) (Qb ((by unfold Qg;omega):Qg 3) (Qb (nef p) (Qb (Qo m) (Qb ((by unfold Qg;omega):Qg 2) (Qb (nef k) (Qb (Qo j) (Qb ((by unfold Qg;omega):Qg 1) (Qb (nef i) (Qb (Qo g) (Qb ha36 (Qb (QG ha27) (Q2 QM c (Qb ha35 (Qb ha34 (Qb (QG ha20) (Qb ha19 (Qb ha3 (Qb ha33 (Qb ha32 (Qb ha31 (Qb (QG ha30) (Qb ha29 (Qb ha28 (Qb (QG ha27) (Q2 QM c (Qb ha26 (Qb ha25 (Qb (QG ha24) (Qb ha23 (Qb ha3 (Qb ha22 (Qb ha21 (Qb (QG ha20) (Qb ha19 (Qb ha3 (Qb ha18 (Qb ha17 (Qb (QG ha4) (Qb ha3 (Qb f (Qb ha15 (Qb b (Qb (QG a) (Qb (jDj e) q))))))))))))))))))))))))))))))))))))))))))))))))
       cases h
      cases h
     cases h
    cases h
   have⟨ta13,a,h⟩:=bo h;obtain⟨b,h⟩|⟨b,h⟩:=io h
   ·have⟨ta15,ha15,h⟩:=bo h;obtain⟨f,h⟩|⟨f,h⟩:=io h
    ·have⟨ha17,h⟩:=gd h;cases h;exact rn 240 (o [b0,.no,.no,.no,.no,.obj (some 90) (.d (.tup [Qe ta13.1,I ta13.2.1])) (Qa' ta13.2.2) [],b0,.no,.no,.no,.no,.obj (some 90) (.d (.tup [Qe ta15.1,I ta15.2.1])) (Qa' ta15.2.2) [],b0,.no,.no]) [] [0,9,16,17,19,127,128,129] [74,90,109,110,118,119,120] (Qb ha17 (Qb ((by unfold Qg;omega):Qg 2) (Qb (nef f) (Qb (Qo ha15) (Qb ((by unfold Qg;omega):Qg 1) (Qb (nef b) (Qb (Qo a) (Qb (jEj e) q))))))))
    cases h
   cases h
  have⟨ta10,ha10,h⟩:=bo h;have q:=Q2 QM ha10 (Qb (eqf u) q);let o l:=o (b0::.el (Zi ta10)::l);obtain⟨c,h⟩|⟨c,h⟩:=io h
  ·have⟨ta12,e,h⟩:=bo h;have⟨a,h⟩:=gd h;have⟨b,h⟩:=gd h;have⟨ha15,h⟩:=gd h;have⟨f,h⟩:=gd h;have⟨ha17,h⟩:=gd h;have⟨ha18,h⟩:=gd h;have⟨ta19,ha19,h⟩:=bo h;have⟨ha20,h⟩:=gd h;have⟨ha21,h⟩:=gd h;have⟨ha22,h⟩:=gd h;have⟨ta23,ha23,h⟩:=bo h;have⟨ha24,h⟩:=gd h;have⟨ha25,h⟩:=gd h;have⟨ta26,ha26,h⟩:=bo h;have⟨ha27,h⟩:=gd h;have⟨ha28,h⟩:=gd h;have⟨ta29,ha29,h⟩:=bo h;have⟨ha30,h⟩:=gd h;have⟨ha31,h⟩:=gd h;have⟨ha32,h⟩:=gd h;have⟨ha33,h⟩:=gd h;have⟨ha34,h⟩:=gd h;have⟨ha35,h⟩:=gd h;have⟨ta36,ha36,h⟩:=bo h;obtain⟨g,h⟩|⟨g,h⟩:=io h
   ·have⟨ta38,i,h⟩:=bo h;obtain⟨j,h⟩|⟨j,h⟩:=io h
    ·have⟨ta40,k,h⟩:=bo h;obtain⟨m,h⟩|⟨m,h⟩:=io h
     ·have⟨p,h⟩:=gd h;cases h;exact rn 240 (o (b1::.ret (Qe ta12)::.ret (Qe ta4)::.ret (Qe ta19)::.ret (Qe ta23)::.el (Zi ta10)::.ret (Qe ta26)::.ret (Qe ta29)::.ret (Qe ta19)::.el (Zi ta10)::.ret (Qe ta26)::(no 6 [.obj (some 90) (.d (.tup [Qe ta36.1,I ta36.2.1])) (Qa' ta36.2.2) [],b0,.no,.no,.no,.no,.obj (some 90) (.d (.tup [Qe ta38.1,I ta38.2.1])) (Qa' ta38.2.2) [],b0,.no,.no,.no,.no,.obj (some 90) (.d (.tup [Qe ta40.1,I ta40.2.1])) (Qa' ta40.2.2) [],b0,.no,.no]))) [] [0,9,16,17,19,127,128,129] [74,90,109,110,118,119,120] (Qb p (Qb ((by unfold Qg;omega):Qg 3) (Qb (nef m) (Qb (Qo k) (Qb ((by unfold Qg;omega):Qg 2) (Qb (nef j) (Qb (Qo i) (Qb ((by unfold Qg;omega):Qg 1) (Qb (nef g) (Qb (Qo ha36) (Qb ha35 (Qb (QG ha26) (Q2 QM ha10 (Qb ha34 (Qb ha33 (Qb (QG ha19) (Qb ha18 (Qb ha3 (Qb ha32 (Qb ha31 (Qb ha30 (Qb (QG ha29) (Qb ha28 (Qb ha27 (Qb (QG ha26) (Q2 QM ha10 (Qb ha25 (Qb ha24 (Qb (QG ha23) (Qb ha22 (Qb ha3 (Qb ha21 (Qb ha20 (Qb (QG ha19) (Qb ha18 (Qb ha3 (Qb ha17 (Qb f (Qb (QG ha4) (Qb ha3 (Qb ha15 (Qb b (Qb a (Qb (QG e) (Qb (jDj c) q)))))))))))))))))))))))))))))))))))))))))))))
     cases h
    cases h
   cases h
  have⟨ta12,e,h⟩:=bo h;obtain⟨a,h⟩|⟨a,h⟩:=io h
  ·have⟨b,h⟩:=gd h;cases h;exact rn 240 (o [b0,.no,.no,.no,.obj (some 90) (.d (.tup [Qe ta12.1,I ta12.2.1])) (Qa' ta12.2.2) [],b0,.no,.no]) [] [0,9,16,17,19,127,128,129] [74,90,109,110,118,119,120] (Qb b (Qb ((by unfold Qg;omega):Qg 1) (Qb (nef a) (Qb (Qo e) (Qb (jEj c) q)))))
  cases h
 cases h;exact rx 240 [b0] [] [0,9,17,19] [74,90,109,110,118,119,120] (Qb (jEj t) QA)
def YH (n:Nat)(l:jVj)(O N:Int):Option (Bool) := (VL n l).bind fun J=>if J.2=true then if Qg (((l).length:Int)+1) then if(((l).length:Int)+1)≠0 then if Wi 16 (0+(J.1).length) then(QU (Wa n l O N J) n ((Int.tmod (IntKind.wrap .i64 N) (((l).length:Int)+1)),J.1)).bind fun Q=>if Vk J.1=false then(VH n 60 0 (Int.tmod (IntKind.wrap .i64 O) 31) J.1).bind fun F=>if Wi 16 (0+(Q).length) then if Vk Q=false then(VH n 60 0 (Int.tmod (IntKind.wrap .i64 O) 31) Q).bind fun t11=>(Qj n (⟨#[115,101,99,116,111,114,32,110,32,48]⟩) ([]) ([]) 0 0 false false 0 0 0 ([]) ([]) ([])).bind fun o=>if o.2.1=0 then(Qj n (⟨#[109,105,114,114,111,114,32,97,32,110,32,48,32,49,48,48]⟩) o.2.2.1 o.2.2.2.1 o.2.2.2.2.1 o.2.2.2.2.2.1 o.2.2.2.2.2.2.1 o.2.2.2.2.2.2.2.1 o.2.2.2.2.2.2.2.2.1 o.2.2.2.2.2.2.2.2.2.1 o.2.2.2.2.2.2.2.2.2.2.1 o.2.2.2.2.2.2.2.2.2.2.2.1 o.2.2.2.2.2.2.2.2.2.2.2.2.1 o.2.2.2.2.2.2.2.2.2.2.2.2.2).bind fun p=>if p.2.1=0 then(Qj n (⟨#[102,105,108,108,32,48]⟩) p.2.2.1 p.2.2.2.1 p.2.2.2.2.1 p.2.2.2.2.2.1 p.2.2.2.2.2.2.1 p.2.2.2.2.2.2.2.1 p.2.2.2.2.2.2.2.2.1 p.2.2.2.2.2.2.2.2.2.1 p.2.2.2.2.2.2.2.2.2.2.1 p.2.2.2.2.2.2.2.2.2.2.2.1 p.2.2.2.2.2.2.2.2.2.2.2.2.1 p.2.2.2.2.2.2.2.2.2.2.2.2.2).bind fun q=>if q.2.1=0 then(Qj n (⟨#[97,105,109,32,97,32,48]⟩) q.2.2.1 q.2.2.2.1 q.2.2.2.2.1 q.2.2.2.2.2.1 q.2.2.2.2.2.2.1 q.2.2.2.2.2.2.2.1 q.2.2.2.2.2.2.2.2.1 q.2.2.2.2.2.2.2.2.2.1 q.2.2.2.2.2.2.2.2.2.2.1 q.2.2.2.2.2.2.2.2.2.2.2.1 q.2.2.2.2.2.2.2.2.2.2.2.2.1 q.2.2.2.2.2.2.2.2.2.2.2.2.2).bind fun r=>if r.2.1=0 then if F.2.2.2.2=0 then if t11.2.2.2.2=0 then if((t11.1).length:Int)=((l).length:Int) then if t11.2.1>F.2.1 then none else(QU (Ze n l N t11) n (0,r.2.2.2.2.1,r.2.2.2.2.2.1,r.2.2.2.2.2.2.1,r.2.2.2.2.2.2.2.1,r.2.2.2.2.2.2.2.2.1,r.2.2.2.2.2.2.2.2.2.1,r.2.2.2.2.2.2.2.2.2.2.1,r.2.2.1,r.2.2.2.1,r.2.2.2.2.2.2.2.2.2.2.2.1,r.2.2.2.2.2.2.2.2.2.2.2.2.1,r.2.2.2.2.2.2.2.2.2.2.2.2.2)).bind fun a=>if Qg (10*((l).length:Int)) then if(Int.tmod (IntKind.wrap .i64 N) (((l).length:Int)+1))=((l).length:Int) then(QT n (10*((l).length:Int))).bind fun t=>if(⟨#[116,114,105,112,32]⟩:jSj).size+t.size<=9223372036854775807 then(Qj n ((⟨#[116,114,105,112,32]⟩:jSj)++t) a.2.2.2.2.2.2.2.1 a.2.2.2.2.2.2.2.2.1 a.1 a.2.1 a.2.2.1 a.2.2.2.1 a.2.2.2.2.1 a.2.2.2.2.2.1 a.2.2.2.2.2.2.1 a.2.2.2.2.2.2.2.2.2.1 a.2.2.2.2.2.2.2.2.2.2.1 a.2.2.2.2.2.2.2.2.2.2.2).bind fun d=>if d.2.1=0 then(QW n d.2.2.1 d.2.2.2.1 d.2.2.2.2.1 d.2.2.2.2.2.1 d.2.2.2.2.2.2.1 d.2.2.2.2.2.2.2.1 d.2.2.2.2.2.2.2.2.1 d.2.2.2.2.2.2.2.2.2.1 d.2.2.2.2.2.2.2.2.2.2.1 d.2.2.2.2.2.2.2.2.2.2.2.1 d.2.2.2.2.2.2.2.2.2.2.2.2.1 d.2.2.2.2.2.2.2.2.2.2.2.2.2).bind fun P=>if Qg ((10*((l).length:Int))+1000) then(VZ n P ((10*((l).length:Int))+1000)).bind fun m=>if(⟨#[111,102,102,101,114,32,114,101,115,116,32]⟩:jSj).size+t.size<=9223372036854775807 then if((⟨#[111,102,102,101,114,32,114,101,115,116,32]⟩:jSj)++t).size+(⟨#[32]⟩:jSj).size<=9223372036854775807 then(QT n ((10*((l).length:Int))+1000)).bind fun u=>if(((⟨#[111,102,102,101,114,32,114,101,115,116,32]⟩:jSj)++t)++(⟨#[32]⟩:jSj)).size+u.size<=9223372036854775807 then if((((⟨#[111,102,102,101,114,32,114,101,115,116,32]⟩:jSj)++t)++(⟨#[32]⟩:jSj))++u).size+(⟨#[32]⟩:jSj).size<=9223372036854775807 then if Qg ((10*((l).length:Int))+1010) then(QT n ((10*((l).length:Int))+1010)).bind fun e=>if(((((⟨#[111,102,102,101,114,32,114,101,115,116,32]⟩:jSj)++t)++(⟨#[32]⟩:jSj))++u)++(⟨#[32]⟩:jSj)).size+e.size<=9223372036854775807 then if((((((⟨#[111,102,102,101,114,32,114,101,115,116,32]⟩:jSj)++t)++(⟨#[32]⟩:jSj))++u)++(⟨#[32]⟩:jSj))++e).size+(⟨#[32,49,48,48,32,53]⟩:jSj).size<=9223372036854775807 then(Qj n (((((((⟨#[111,102,102,101,114,32,114,101,115,116,32]⟩:jSj)++t)++(⟨#[32]⟩:jSj))++u)++(⟨#[32]⟩:jSj))++e)++(⟨#[32,49,48,48,32,53]⟩:jSj)) d.2.2.1 d.2.2.2.1 d.2.2.2.2.1 d.2.2.2.2.2.1 d.2.2.2.2.2.2.1 d.2.2.2.2.2.2.2.1 d.2.2.2.2.2.2.2.2.1 d.2.2.2.2.2.2.2.2.2.1 d.2.2.2.2.2.2.2.2.2.2.1 d.2.2.2.2.2.2.2.2.2.2.2.1 d.2.2.2.2.2.2.2.2.2.2.2.2.1 d.2.2.2.2.2.2.2.2.2.2.2.2.2).bind fun f=>if f.2.1=0 then if t11.2.2.1>0 then if(⟨#[100,101,108,105,118,101,114,32,114,101,115,116,32]⟩:jSj).size+u.size<=9223372036854775807 then if((⟨#[100,101,108,105,118,101,114,32,114,101,115,116,32]⟩:jSj)++u).size+(⟨#[32]⟩:jSj).size<=9223372036854775807 then(QT n t11.2.2.1).bind fun L=>if(((⟨#[100,101,108,105,118,101,114,32,114,101,115,116,32]⟩:jSj)++u)++(⟨#[32]⟩:jSj)).size+L.size<=9223372036854775807 then(Qj n ((((⟨#[100,101,108,105,118,101,114,32,114,101,115,116,32]⟩:jSj)++u)++(⟨#[32]⟩:jSj))++L) f.2.2.1 f.2.2.2.1 f.2.2.2.2.1 f.2.2.2.2.2.1 f.2.2.2.2.2.2.1 f.2.2.2.2.2.2.2.1 f.2.2.2.2.2.2.2.2.1 f.2.2.2.2.2.2.2.2.2.1 f.2.2.2.2.2.2.2.2.2.2.1 f.2.2.2.2.2.2.2.2.2.2.2.1 f.2.2.2.2.2.2.2.2.2.2.2.2.1 f.2.2.2.2.2.2.2.2.2.2.2.2.2).bind fun b=>if b.2.1=0 then if Qg ((10*((l).length:Int))+1005) then(QT n ((10*((l).length:Int))+1005)).bind fun g=>if(⟨#[100,101,108,105,118,101,114,32,114,101,115,116,32]⟩:jSj).size+g.size<=9223372036854775807 then if((⟨#[100,101,108,105,118,101,114,32,114,101,115,116,32]⟩:jSj)++g).size+(⟨#[32,49]⟩:jSj).size<=9223372036854775807 then(Qj n (((⟨#[100,101,108,105,118,101,114,32,114,101,115,116,32]⟩:jSj)++g)++(⟨#[32,49]⟩:jSj)) b.2.2.1 b.2.2.2.1 b.2.2.2.2.1 b.2.2.2.2.2.1 b.2.2.2.2.2.2.1 b.2.2.2.2.2.2.2.1 b.2.2.2.2.2.2.2.2.1 b.2.2.2.2.2.2.2.2.2.1 b.2.2.2.2.2.2.2.2.2.2.1 b.2.2.2.2.2.2.2.2.2.2.2.1 b.2.2.2.2.2.2.2.2.2.2.2.2.1 b.2.2.2.2.2.2.2.2.2.2.2.2.2).bind fun h=>if(⟨#[97,105,109,32,97,32]⟩:jSj).size+g.size<=9223372036854775807 then(Qj n ((⟨#[97,105,109,32,97,32]⟩:jSj)++g) h.2.2.1 h.2.2.2.1 h.2.2.2.2.1 h.2.2.2.2.2.1 h.2.2.2.2.2.2.1 h.2.2.2.2.2.2.2.1 h.2.2.2.2.2.2.2.2.1 h.2.2.2.2.2.2.2.2.2.1 h.2.2.2.2.2.2.2.2.2.2.1 h.2.2.2.2.2.2.2.2.2.2.2.1 h.2.2.2.2.2.2.2.2.2.2.2.2.1 h.2.2.2.2.2.2.2.2.2.2.2.2.2).bind fun k=>(QW n k.2.2.1 k.2.2.2.1 k.2.2.2.2.1 k.2.2.2.2.2.1 k.2.2.2.2.2.2.1 k.2.2.2.2.2.2.2.1 k.2.2.2.2.2.2.2.2.1 k.2.2.2.2.2.2.2.2.2.1 k.2.2.2.2.2.2.2.2.2.2.1 k.2.2.2.2.2.2.2.2.2.2.2.1 k.2.2.2.2.2.2.2.2.2.2.2.2.1 k.2.2.2.2.2.2.2.2.2.2.2.2.2).bind fun C=>(Wf n C (⟨#[114,101,115,116]⟩)).bind fun E=>(Vp n C (⟨#[114,101,115,116]⟩)).bind fun G=>(WO n ([.agg [I 5,I 0]]) ([I 30]) ([I (Zv t11.2.2.1 30)]) 10).bind fun M=>if m.2.2=0 then if Qg (t11.2.2.1*1000000) then if m.2.1=(t11.2.2.1*1000000) then if h.2.1=16 then if k.2.1=29 then if E.2=0 then if G.2=0 then if M.2.2=0 then if Qg (100 - t11.2.2.1) then if E.1=(100 - t11.2.2.1) then if Qg (5*t11.2.2.1) then if Qg (10*E.1) then if Qg ((5*t11.2.2.1) - (10*E.1)) then if G.1=((5*t11.2.2.1) - (10*E.1)) then if t11.2.2.1>30 then(Zz n).bind fun Y=>some Y else if Qg (G.1+700) then if M.1=(G.1+700) then(Zz n).bind fun Z=>some Z else none else none else none else none else none else none else none else none else none else none else none else none else none else none else none else none else none else none else none else none else none else none else none else none else if Qg ((10*((l).length:Int))+1005) then(QT n ((10*((l).length:Int))+1005)).bind fun c=>if(⟨#[100,101,108,105,118,101,114,32,114,101,115,116,32]⟩:jSj).size+c.size<=9223372036854775807 then if((⟨#[100,101,108,105,118,101,114,32,114,101,115,116,32]⟩:jSj)++c).size+(⟨#[32,49]⟩:jSj).size<=9223372036854775807 then(Qj n (((⟨#[100,101,108,105,118,101,114,32,114,101,115,116,32]⟩:jSj)++c)++(⟨#[32,49]⟩:jSj)) f.2.2.1 f.2.2.2.1 f.2.2.2.2.1 f.2.2.2.2.2.1 f.2.2.2.2.2.2.1 f.2.2.2.2.2.2.2.1 f.2.2.2.2.2.2.2.2.1 f.2.2.2.2.2.2.2.2.2.1 f.2.2.2.2.2.2.2.2.2.2.1 f.2.2.2.2.2.2.2.2.2.2.2.1 f.2.2.2.2.2.2.2.2.2.2.2.2.1 f.2.2.2.2.2.2.2.2.2.2.2.2.2).bind fun b=>if(⟨#[97,105,109,32,97,32]⟩:jSj).size+c.size<=9223372036854775807 then(Qj n ((⟨#[97,105,109,32,97,32]⟩:jSj)++c) b.2.2.1 b.2.2.2.1 b.2.2.2.2.1 b.2.2.2.2.2.1 b.2.2.2.2.2.2.1 b.2.2.2.2.2.2.2.1 b.2.2.2.2.2.2.2.2.1 b.2.2.2.2.2.2.2.2.2.1 b.2.2.2.2.2.2.2.2.2.2.1 b.2.2.2.2.2.2.2.2.2.2.2.1 b.2.2.2.2.2.2.2.2.2.2.2.2.1 b.2.2.2.2.2.2.2.2.2.2.2.2.2).bind fun i=>(QW n i.2.2.1 i.2.2.2.1 i.2.2.2.2.1 i.2.2.2.2.2.1 i.2.2.2.2.2.2.1 i.2.2.2.2.2.2.2.1 i.2.2.2.2.2.2.2.2.1 i.2.2.2.2.2.2.2.2.2.1 i.2.2.2.2.2.2.2.2.2.2.1 i.2.2.2.2.2.2.2.2.2.2.2.1 i.2.2.2.2.2.2.2.2.2.2.2.2.1 i.2.2.2.2.2.2.2.2.2.2.2.2.2).bind fun g=>(Wf n g (⟨#[114,101,115,116]⟩)).bind fun z=>(Vp n g (⟨#[114,101,115,116]⟩)).bind fun j=>(WO n ([.agg [I 5,I 0]]) ([I 30]) ([I (Zv t11.2.2.1 30)]) 10).bind fun h=>if m.2.2=0 then if Qg (t11.2.2.1*1000000) then if m.2.1=(t11.2.2.1*1000000) then if b.2.1=16 then if i.2.1=29 then if z.2=0 then if j.2=0 then if h.2.2=0 then if Qg (100 - t11.2.2.1) then if z.1=(100 - t11.2.2.1) then if Qg (5*t11.2.2.1) then if Qg (10*z.1) then if Qg ((5*t11.2.2.1) - (10*z.1)) then if j.1=((5*t11.2.2.1) - (10*z.1)) then if t11.2.2.1>30 then(Zz n).bind fun U=>some U else if Qg (j.1+700) then if h.1=(j.1+700) then(Zz n).bind fun V=>some V else none else none else none else none else none else none else none else none else none else none else none else none else none else none else none else none else none else none else none else none else none else none else none else none else none else none else none else none else none else none else none else(QW n a.2.2.2.2.2.2.2.1 a.2.2.2.2.2.2.2.2.1 a.1 a.2.1 a.2.2.1 a.2.2.2.1 a.2.2.2.2.1 a.2.2.2.2.2.1 a.2.2.2.2.2.2.1 a.2.2.2.2.2.2.2.2.2.1 a.2.2.2.2.2.2.2.2.2.2.1 a.2.2.2.2.2.2.2.2.2.2.2).bind fun t=>if Qg ((10*((l).length:Int))+1000) then(VZ n t ((10*((l).length:Int))+1000)).bind fun d=>(QT n (10*((l).length:Int))).bind fun v=>if(⟨#[111,102,102,101,114,32,114,101,115,116,32]⟩:jSj).size+v.size<=9223372036854775807 then if((⟨#[111,102,102,101,114,32,114,101,115,116,32]⟩:jSj)++v).size+(⟨#[32]⟩:jSj).size<=9223372036854775807 then(QT n ((10*((l).length:Int))+1000)).bind fun m=>if(((⟨#[111,102,102,101,114,32,114,101,115,116,32]⟩:jSj)++v)++(⟨#[32]⟩:jSj)).size+m.size<=9223372036854775807 then if((((⟨#[111,102,102,101,114,32,114,101,115,116,32]⟩:jSj)++v)++(⟨#[32]⟩:jSj))++m).size+(⟨#[32]⟩:jSj).size<=9223372036854775807 then if Qg ((10*((l).length:Int))+1010) then(QT n ((10*((l).length:Int))+1010)).bind fun H=>if(((((⟨#[111,102,102,101,114,32,114,101,115,116,32]⟩:jSj)++v)++(⟨#[32]⟩:jSj))++m)++(⟨#[32]⟩:jSj)).size+H.size<=9223372036854775807 then if((((((⟨#[111,102,102,101,114,32,114,101,115,116,32]⟩:jSj)++v)++(⟨#[32]⟩:jSj))++m)++(⟨#[32]⟩:jSj))++H).size+(⟨#[32,49,48,48,32,53]⟩:jSj).size<=9223372036854775807 then(Qj n (((((((⟨#[111,102,102,101,114,32,114,101,115,116,32]⟩:jSj)++v)++(⟨#[32]⟩:jSj))++m)++(⟨#[32]⟩:jSj))++H)++(⟨#[32,49,48,48,32,53]⟩:jSj)) a.2.2.2.2.2.2.2.1 a.2.2.2.2.2.2.2.2.1 a.1 a.2.1 a.2.2.1 a.2.2.2.1 a.2.2.2.2.1 a.2.2.2.2.2.1 a.2.2.2.2.2.2.1 a.2.2.2.2.2.2.2.2.2.1 a.2.2.2.2.2.2.2.2.2.2.1 a.2.2.2.2.2.2.2.2.2.2.2).bind fun e=>if e.2.1=0 then if t11.2.2.1>0 then if(⟨#[100,101,108,105,118,101,114,32,114,101,115,116,32]⟩:jSj).size+m.size<=9223372036854775807 then if((⟨#[100,101,108,105,118,101,114,32,114,101,115,116,32]⟩:jSj)++m).size+(⟨#[32]⟩:jSj).size<=9223372036854775807 then(QT n t11.2.2.1).bind fun K=>if(((⟨#[100,101,108,105,118,101,114,32,114,101,115,116,32]⟩:jSj)++m)++(⟨#[32]⟩:jSj)).size+K.size<=9223372036854775807 then(Qj n ((((⟨#[100,101,108,105,118,101,114,32,114,101,115,116,32]⟩:jSj)++m)++(⟨#[32]⟩:jSj))++K) e.2.2.1 e.2.2.2.1 e.2.2.2.2.1 e.2.2.2.2.2.1 e.2.2.2.2.2.2.1 e.2.2.2.2.2.2.2.1 e.2.2.2.2.2.2.2.2.1 e.2.2.2.2.2.2.2.2.2.1 e.2.2.2.2.2.2.2.2.2.2.1 e.2.2.2.2.2.2.2.2.2.2.2.1 e.2.2.2.2.2.2.2.2.2.2.2.2.1 e.2.2.2.2.2.2.2.2.2.2.2.2.2).bind fun c=>if c.2.1=0 then if Qg ((10*((l).length:Int))+1005) then(QT n ((10*((l).length:Int))+1005)).bind fun b=>if(⟨#[100,101,108,105,118,101,114,32,114,101,115,116,32]⟩:jSj).size+b.size<=9223372036854775807 then if((⟨#[100,101,108,105,118,101,114,32,114,101,115,116,32]⟩:jSj)++b).size+(⟨#[32,49]⟩:jSj).size<=9223372036854775807 then(Qj n (((⟨#[100,101,108,105,118,101,114,32,114,101,115,116,32]⟩:jSj)++b)++(⟨#[32,49]⟩:jSj)) c.2.2.1 c.2.2.2.1 c.2.2.2.2.1 c.2.2.2.2.2.1 c.2.2.2.2.2.2.1 c.2.2.2.2.2.2.2.1 c.2.2.2.2.2.2.2.2.1 c.2.2.2.2.2.2.2.2.2.1 c.2.2.2.2.2.2.2.2.2.2.1 c.2.2.2.2.2.2.2.2.2.2.2.1 c.2.2.2.2.2.2.2.2.2.2.2.2.1 c.2.2.2.2.2.2.2.2.2.2.2.2.2).bind fun g=>if(⟨#[97,105,109,32,97,32]⟩:jSj).size+b.size<=9223372036854775807 then(Qj n ((⟨#[97,105,109,32,97,32]⟩:jSj)++b) g.2.2.1 g.2.2.2.1 g.2.2.2.2.1 g.2.2.2.2.2.1 g.2.2.2.2.2.2.1 g.2.2.2.2.2.2.2.1 g.2.2.2.2.2.2.2.2.1 g.2.2.2.2.2.2.2.2.2.1 g.2.2.2.2.2.2.2.2.2.2.1 g.2.2.2.2.2.2.2.2.2.2.2.1 g.2.2.2.2.2.2.2.2.2.2.2.2.1 g.2.2.2.2.2.2.2.2.2.2.2.2.2).bind fun j=>(QW n j.2.2.1 j.2.2.2.1 j.2.2.2.2.1 j.2.2.2.2.2.1 j.2.2.2.2.2.2.1 j.2.2.2.2.2.2.2.1 j.2.2.2.2.2.2.2.2.1 j.2.2.2.2.2.2.2.2.2.1 j.2.2.2.2.2.2.2.2.2.2.1 j.2.2.2.2.2.2.2.2.2.2.2.1 j.2.2.2.2.2.2.2.2.2.2.2.2.1 j.2.2.2.2.2.2.2.2.2.2.2.2.2).bind fun h=>(Wf n h (⟨#[114,101,115,116]⟩)).bind fun A=>(Vp n h (⟨#[114,101,115,116]⟩)).bind fun k=>(WO n ([.agg [I 5,I 0]]) ([I 30]) ([I (Zv t11.2.2.1 30)]) 10).bind fun C=>if d.2.2=0 then if Qg (t11.2.2.1*1000000) then if d.2.1=(t11.2.2.1*1000000) then if g.2.1=16 then if j.2.1=29 then if A.2=0 then if k.2=0 then if C.2.2=0 then if Qg (100 - t11.2.2.1) then if A.1=(100 - t11.2.2.1) then if Qg (5*t11.2.2.1) then if Qg (10*A.1) then if Qg ((5*t11.2.2.1) - (10*A.1)) then if k.1=((5*t11.2.2.1) - (10*A.1)) then if t11.2.2.1>30 then(Zz n).bind fun W=>some W else if Qg (k.1+700) then if C.1=(k.1+700) then(Zz n).bind fun X=>some X else none else none else none else none else none else none else none else none else none else none else none else none else none else none else none else none else none else none else none else none else none else none else none else none else if Qg ((10*((l).length:Int))+1005) then(QT n ((10*((l).length:Int))+1005)).bind fun x=>if(⟨#[100,101,108,105,118,101,114,32,114,101,115,116,32]⟩:jSj).size+x.size<=9223372036854775807 then if((⟨#[100,101,108,105,118,101,114,32,114,101,115,116,32]⟩:jSj)++x).size+(⟨#[32,49]⟩:jSj).size<=9223372036854775807 then(Qj n (((⟨#[100,101,108,105,118,101,114,32,114,101,115,116,32]⟩:jSj)++x)++(⟨#[32,49]⟩:jSj)) e.2.2.1 e.2.2.2.1 e.2.2.2.2.1 e.2.2.2.2.2.1 e.2.2.2.2.2.2.1 e.2.2.2.2.2.2.2.1 e.2.2.2.2.2.2.2.2.1 e.2.2.2.2.2.2.2.2.2.1 e.2.2.2.2.2.2.2.2.2.2.1 e.2.2.2.2.2.2.2.2.2.2.2.1 e.2.2.2.2.2.2.2.2.2.2.2.2.1 e.2.2.2.2.2.2.2.2.2.2.2.2.2).bind fun c=>if(⟨#[97,105,109,32,97,32]⟩:jSj).size+x.size<=9223372036854775807 then(Qj n ((⟨#[97,105,109,32,97,32]⟩:jSj)++x) c.2.2.1 c.2.2.2.1 c.2.2.2.2.1 c.2.2.2.2.2.1 c.2.2.2.2.2.2.1 c.2.2.2.2.2.2.2.1 c.2.2.2.2.2.2.2.2.1 c.2.2.2.2.2.2.2.2.2.1 c.2.2.2.2.2.2.2.2.2.2.1 c.2.2.2.2.2.2.2.2.2.2.2.1 c.2.2.2.2.2.2.2.2.2.2.2.2.1 c.2.2.2.2.2.2.2.2.2.2.2.2.2).bind fun s=>(QW n s.2.2.1 s.2.2.2.1 s.2.2.2.2.1 s.2.2.2.2.2.1 s.2.2.2.2.2.2.1 s.2.2.2.2.2.2.2.1 s.2.2.2.2.2.2.2.2.1 s.2.2.2.2.2.2.2.2.2.1 s.2.2.2.2.2.2.2.2.2.2.1 s.2.2.2.2.2.2.2.2.2.2.2.1 s.2.2.2.2.2.2.2.2.2.2.2.2.1 s.2.2.2.2.2.2.2.2.2.2.2.2.2).bind fun b=>(Wf n b (⟨#[114,101,115,116]⟩)).bind fun y=>(Vp n b (⟨#[114,101,115,116]⟩)).bind fun i=>(WO n ([.agg [I 5,I 0]]) ([I 30]) ([I (Zv t11.2.2.1 30)]) 10).bind fun g=>if d.2.2=0 then if Qg (t11.2.2.1*1000000) then if d.2.1=(t11.2.2.1*1000000) then if c.2.1=16 then if s.2.1=29 then if y.2=0 then if i.2=0 then if g.2.2=0 then if Qg (100 - t11.2.2.1) then if y.1=(100 - t11.2.2.1) then if Qg (5*t11.2.2.1) then if Qg (10*y.1) then if Qg ((5*t11.2.2.1) - (10*y.1)) then if i.1=((5*t11.2.2.1) - (10*y.1)) then if t11.2.2.1>30 then(Zz n).bind fun S=>some S else if Qg (i.1+700) then if g.1=(i.1+700) then(Zz n).bind fun T=>some T else none else none else none else none else none else none else none else none else none else none else none else none else none else none else none else none else none else none else none else none else none else none else none else none else none else none else none else none else none else none else none else none else none else if F.2.2.2.2=0 then if t11.2.2.2.2=0 then if((t11.1).length:Int)=((l).length:Int) then if t11.2.1>F.2.1 then none else none else none else none else none else if F.2.2.2.2=0 then if t11.2.2.2.2=0 then if((t11.1).length:Int)=((l).length:Int) then if t11.2.1>F.2.1 then none else none else none else none else none else if F.2.2.2.2=0 then if t11.2.2.2.2=0 then if((t11.1).length:Int)=((l).length:Int) then if t11.2.1>F.2.1 then none else none else none else none else none else if F.2.2.2.2=0 then if t11.2.2.2.2=0 then if((t11.1).length:Int)=((l).length:Int) then if t11.2.1>F.2.1 then none else none else none else none else none else none else none else none else none else none else none else(Zz n).bind fun t3=>some t3
theorem wj {n X a1 a2 r}(h:YH n X a1 a2=some r):Computes cx 3 [.lst false 2 X,.v (.int .u8 a1),.v (.int .u8 a2)] (B r):=by
 unfold YH at h;have⟨t1,h1,h⟩:=bo h;have q:=Qb (zo h1) QA;let o(l:jOj):=.ret (.tup [.lst false 2 t1.1,B t1.2])::l;obtain⟨h2,h⟩|⟨h2,h⟩:=io h
 ·have⟨h3,h⟩:=gd h;have⟨h4,h⟩:=gd h;have⟨h5,h⟩:=gd h;have⟨t6,h6,h⟩:=bo h;have⟨h7,h⟩:=gd h;have⟨t8,h8,h⟩:=bo h;have⟨h9,h⟩:=gd h;have⟨h10,h⟩:=gd h;have⟨t11,h11,h⟩:=bo h;have⟨t12,h12,h⟩:=bo h;have q:=Qb (Qo h12) (Qb (Jn h11) (Qb h10 (Qb (ro 28 h9) (Qb (Jn h8) (Qb h7 (Qb (ro 28 h5) (Qb ((by decide):(31:Int)≠0) (Qb (QE EI h6) (Qb (ro 28 h5) (Qb h4 (Qb h3 (Qb (zV h2) q))))))))))));let o l:=o (b0::.ix (-8)::b1::.lp [] [0,1,7,9,10,11] [19] (.exit 0) [(0,.d (.lst false 2 X)),(1,.d (.v (.int .u8 a1))),(7,.d (.lst false 2 t1.1)),(9,.d (I (Int.tmod (IntKind.wrap .i64 a2) (((X).length:Int)+1)))),(10,.own 19 0)] [(19,.row 0 2 t6)] 46::b1::b0::.ix 0::.ret (.tup [.lst false 1 t8.1,.agg [I t8.2.1,I t8.2.2.1,I t8.2.2.2.1],I t8.2.2.2.2])::b1::b0::.ix 0::.ret (.tup [.lst false 1 t11.1,.agg [I t11.2.1,I t11.2.2.1,I t11.2.2.2.1],I t11.2.2.2.2])::b1::b1::.no::.no::.no::.no::.obj (some 90) (.d (.tup [Qe t12.1,I t12.2.1])) (Qa' t12.2.2) []::b0::.no::.no::.no::l);obtain⟨a5,h⟩|⟨a5,h⟩:=io h
  ·have⟨t14,Y,h⟩:=bo h;have q:=Qb (Qo Y) (Qb ((by unfold Qg;omega):Qg 1) (Qb (nef a5) q));let o l:=o (.obj (some 90) (.d (.tup [Qe t14.1,I t14.2.1])) (Qa' t14.2.2) []::b0::.no::.no::.no::l);obtain⟨Q,h⟩|⟨Q,h⟩:=io h
   ·have⟨t16,K,h⟩:=bo h;have q:=Qb (Qo K) (Qb ((by unfold Qg;omega):Qg 2) (Qb (nef Q) q));let o l:=o (.obj (some 90) (.d (.tup [Qe t16.1,I t16.2.1])) (Qa' t16.2.2) []::b0::.no::.no::.no::l);obtain⟨y,h⟩|⟨y,h⟩:=io h
    ·have⟨t18,L,h⟩:=bo h;have q:=Qb (Qo L) (Qb ((by unfold Qg;omega):Qg 3) (Qb (nef y) q));let o l:=o (.obj (some 90) (.d (.tup [Qe t18.1,I t18.2.1])) (Qa' t18.2.2) []::b0::.no::.no::b0::b0::b0::b0::.no::l);obtain⟨z,h⟩|⟨z,h⟩:=io h
     ·have q:=Qb ((by unfold Qg;omega):Qg 4) (Qb (nef z) q);obtain⟨A,h⟩|⟨A,h⟩:=io h
      ·have q:=Qb (nef A) q;obtain⟨C,h⟩|⟨C,h⟩:=io h
       ·have q:=Qb (nef C) q;obtain⟨S,h⟩|⟨S,h⟩:=io h
        ·have q:=Qb (nef S) q;obtain⟨T,h⟩|⟨T,h⟩:=io h
         ·cases h
         have⟨t24,h24,h⟩:=bo h;have⟨h25,h⟩:=gd h;have q:=Qb h25 (Qb (QE EH h24) (Qb (jEj T) q));let o l:=o (.lp [] [0,9,16,17,19,127,128,129] [74,90,109,110,118,119,120] (.exit 2) [(0,.d (.lst false 2 X)),(9,.d (I (Int.tmod (IntKind.wrap .i64 a2) (((X).length:Int)+1)))),(17,.ptr 74 0 0 0 0),(19,.ptr 90 0 0 0 0)] [(74,.box (.d (.agg [I t11.2.1,I t11.2.2.1,I t11.2.2.2.1]))),(90,.box (.agg [.own 109 0,.own 110 0,.d (I t24.1),.d (I t24.2.1),.d (B t24.2.2.1),.d (B t24.2.2.2.1),.d (I t24.2.2.2.2.1),.d (I t24.2.2.2.2.2.1),.d (I t24.2.2.2.2.2.2.1),.own 118 0,.own 119 0,.own 120 0])),(109,.row 0 5 t24.2.2.2.2.2.2.2.1),(110,.row 0 5 t24.2.2.2.2.2.2.2.2.1),(118,.row 0 1 t24.2.2.2.2.2.2.2.2.2.1),(119,.row 0 6 t24.2.2.2.2.2.2.2.2.2.2.1),(120,.row 0 7 t24.2.2.2.2.2.2.2.2.2.2.2)] 457::l);obtain⟨a4,h⟩|⟨a4,h⟩:=io h
         ·have⟨t27,h27,h⟩:=bo h;have⟨h28,h⟩:=gd h;have⟨t29,h29,h⟩:=bo h;have q:=Qb (Qo h29) (Qb h28 (Qb (QG h27) (Qb (eqt a4) q)));let o l:=o (b1::.ret (Qe t27)::.obj (some 90) (.d (.tup [Qe t29.1,I t29.2.1])) (Qa' t29.2.2) []::b0::l);obtain⟨Z,h⟩|⟨Z,h⟩:=io h
          ·have⟨t31,h31,h⟩:=bo h;have⟨h32,h⟩:=gd h;have⟨t33,h33,h⟩:=bo h;have⟨h34,h⟩:=gd h;have⟨h35,h⟩:=gd h;have⟨t36,h36,h⟩:=bo h;have⟨h37,h⟩:=gd h;have⟨h38,h⟩:=gd h;have⟨h39,h⟩:=gd h;have⟨t40,h40,h⟩:=bo h;have⟨a3,h⟩:=gd h;have⟨U,h⟩:=gd h;have⟨t43,h43,h⟩:=bo h;have q:=Qb (Qo h43) (Qb U (Qb a3 (Qb (QG h40) (Qb h39 (Qb h38 (Qb h37 (Qb (QG h36) (Qb h32 (Qb h35 (Qb h34 (Qb (QG h27) (Qb (qx h33) (Qb h32 (Qb (Q4 h31) (Qb (nef Z) q)))))))))))))));let o l:=o (.obj (some 90) (.d (.lst false 5 t31)) (Qa' t29.2.2) Zj::.ret (.tup [.agg [I t33.1,I t33.2.1],I t33.2.2])::.ret (Qe t27)::.ret (Qe t36)::.ret (Qe t40)::.obj (some 90) (.d (.tup [Qe t43.1,I t43.2.1])) (Qa' t43.2.2) []::b0::l);obtain⟨M,h⟩|⟨M,h⟩:=io h
           ·have q:=Qb (nef M) q;obtain⟨N,h⟩|⟨N,h⟩:=io h
            ·have⟨h46,h⟩:=gd h;have⟨h47,h⟩:=gd h;have⟨t48,E,h⟩:=bo h;have⟨h49,h⟩:=gd h;have⟨t50,h50,h⟩:=bo h;have q:=Qb (Qo h50) (Qb h49 (Qb (QG E) (Qb h47 (Qb h46 (Qb (QG h36) (Qb h32 (Qb (jDj N) q)))))));let o l:=o (b1::.ret (Qe t36)::.ret (Qe t48)::.ix (-9)::.obj (some 90) (.d (.tup [Qe t50.1,I t50.2.1])) (Qa' t50.2.2) []::b0::l);obtain⟨F,h⟩|⟨F,h⟩:=io h
             ·have⟨h52,h⟩:=gd h;have⟨t53,h53,h⟩:=bo h;have⟨G,h⟩:=gd h;have⟨h55,h⟩:=gd h;have⟨t56,k,h⟩:=bo h;have⟨m,h⟩:=gd h;have⟨t58,H,h⟩:=bo h;have⟨t59,c,h⟩:=bo h;have⟨t60,e,h⟩:=bo h;have⟨t61,p,h⟩:=bo h;have⟨t62,s,h⟩:=bo h;have q:=Qb (((Y8 s).le (.cons (.full _ _ _) (.cons (.full _ _ _) (.cons (.full _ _ _) (.cons (.refl _) (.nil))))) (.refl _)):Computes cx 15 [.lst true 2 [.agg [I 5,I 0]],.lst true 1 [I 30],.lst true 1 [I (Zv t11.2.2.1 30)],I 10] (.tup [I t62.1,.lst false 2 t62.2.1,I t62.2.2])) (Qb (Kc p) (Qb (Q4 c) (Qb (YY e) (Qb (Q4 c) (Qb (Qo H) (Qb m (Qb (QG h53) (Qb h52 (Qb (Qo k) (Qb h55 (Qb G (Qb (QG h53) (Qb h52 (Qb (nef F) q))))))))))))));let o l:=o (.ret (Qe t53)::.obj (some 90) (.d (.tup [Qe t56.1,I t56.2.1])) (Qa' t56.2.2) []::.ret (Qe t53)::.obj (some 90) (.d (.tup [Qe t58.1,I t58.2.1])) (Qa' t58.2.2) []::.obj (some 90) (.d (.lst false 5 t59)) (Qa' t58.2.2) Zj::.ret (.tup [I t60.1,I t60.2])::.obj (some 90) (.d (.lst false 5 t59)) (Qa' t58.2.2) Zj::.ret (.tup [I t61.1,I t61.2])::.ret (.tup [I t62.1,.lst false 2 t62.2.1,I t62.2.2])::b0::b0::b0::b0::b0::b0::b0::b0::b0::l);obtain⟨a,h⟩|⟨a,h⟩:=io h
              ·have⟨t,h⟩:=gd h;have q:=Qb t (Qb (nef a) q);obtain⟨u,h⟩|⟨u,h⟩:=io h
               ·have q:=Qb (nef u) q;obtain⟨f,h⟩|⟨f,h⟩:=io h
                ·have q:=Qb (nef f) q;obtain⟨g,h⟩|⟨g,h⟩:=io h
                 ·have q:=Qb (nef g) q;obtain⟨i,h⟩|⟨i,h⟩:=io h
                  ·have q:=Qb (nef i) q;obtain⟨b,h⟩|⟨b,h⟩:=io h
                   ·have q:=Qb (nef b) q;obtain⟨j,h⟩|⟨j,h⟩:=io h
                    ·have⟨x,h⟩:=gd h;have q:=Qb x (Qb (nef j) q);obtain⟨J,h⟩|⟨J,h⟩:=io h
                     ·have⟨O,h⟩:=gd h;have⟨P,h⟩:=gd h;have⟨h75,h⟩:=gd h;have q:=Qb h75 (Qb P (Qb O (Qb (nef J) q)));obtain⟨V,h⟩|⟨V,h⟩:=io h
                      ·have q:=Qb (nef V) q;obtain⟨W,h⟩|⟨W,h⟩:=io h
                       ·have⟨t78,h78,h⟩:=bo h;obtain rfl:=oi h;exact rf (o [b1,.no,.ret (B t78)]) (Qb (W9 h78) (Qb (jDj W) q))
                       have⟨h78,h⟩:=gd h;obtain⟨a6,h⟩|⟨a6,h⟩:=io h
                       ·have⟨t80,h80,h⟩:=bo h;obtain rfl:=oi h;exact rf (o [b0,b1,.ret (B t80)]) (Qb (W9 h80) (Qb (eqt a6) (Qb h78 (Qb (jEj W) q))))
                       cases h
                      cases h
                     cases h
                    cases h
                   cases h
                  cases h
                 cases h
                cases h
               cases h
              cases h
             cases h
            have⟨h46,h⟩:=gd h;have⟨t47,h47,h⟩:=bo h;have⟨E,h⟩:=gd h;have⟨h49,h⟩:=gd h;have⟨t50,h50,h⟩:=bo h;have⟨F,h⟩:=gd h;have⟨t52,h52,h⟩:=bo h;have⟨t53,h53,h⟩:=bo h;have⟨t54,G,h⟩:=bo h;have⟨t55,h55,h⟩:=bo h;have⟨t56,k,h⟩:=bo h;have q:=Qb (((Y8 k).le (.cons (.full _ _ _) (.cons (.full _ _ _) (.cons (.full _ _ _) (.cons (.refl _) (.nil))))) (.refl _)):Computes cx 15 [.lst true 2 [.agg [I 5,I 0]],.lst true 1 [I 30],.lst true 1 [I (Zv t11.2.2.1 30)],I 10] (.tup [I t56.1,.lst false 2 t56.2.1,I t56.2.2])) (Qb (Kc h55) (Qb (Q4 h53) (Qb (YY G) (Qb (Q4 h53) (Qb (Qo h52) (Qb F (Qb (QG h47) (Qb h46 (Qb (Qo h50) (Qb h49 (Qb E (Qb (QG h47) (Qb h46 (Qb (jEj N) q))))))))))))));let o l:=o (b0::.ret (Qe t47)::.obj (some 90) (.d (.tup [Qe t50.1,I t50.2.1])) (Qa' t50.2.2) []::.ret (Qe t47)::.obj (some 90) (.d (.tup [Qe t52.1,I t52.2.1])) (Qa' t52.2.2) []::.obj (some 90) (.d (.lst false 5 t53)) (Qa' t52.2.2) Zj::.ret (.tup [I t54.1,I t54.2])::.obj (some 90) (.d (.lst false 5 t53)) (Qa' t52.2.2) Zj::.ret (.tup [I t55.1,I t55.2])::.ret (.tup [I t56.1,.lst false 2 t56.2.1,I t56.2.2])::b0::b0::b0::b0::b0::b0::b0::b0::b0::l);obtain⟨m,h⟩|⟨m,h⟩:=io h
            ·have⟨H,h⟩:=gd h;have q:=Qb H (Qb (nef m) q);obtain⟨c,h⟩|⟨c,h⟩:=io h
             ·have q:=Qb (nef c) q;obtain⟨e,h⟩|⟨e,h⟩:=io h
              ·have q:=Qb (nef e) q;obtain⟨p,h⟩|⟨p,h⟩:=io h
               ·have q:=Qb (nef p) q;obtain⟨s,h⟩|⟨s,h⟩:=io h
                ·have q:=Qb (nef s) q;obtain⟨a,h⟩|⟨a,h⟩:=io h
                 ·have q:=Qb (nef a) q;obtain⟨t,h⟩|⟨t,h⟩:=io h
                  ·have⟨u,h⟩:=gd h;have q:=Qb u (Qb (nef t) q);obtain⟨f,h⟩|⟨f,h⟩:=io h
                   ·have⟨g,h⟩:=gd h;have⟨i,h⟩:=gd h;have⟨b,h⟩:=gd h;have q:=Qb b (Qb i (Qb g (Qb (nef f) q)));obtain⟨j,h⟩|⟨j,h⟩:=io h
                    ·have q:=Qb (nef j) q;obtain⟨x,h⟩|⟨x,h⟩:=io h
                     ·have⟨t72,J,h⟩:=bo h;obtain rfl:=oi h;exact rf (o [b1,.no,.ret (B t72)]) (Qb (W9 J) (Qb (jDj x) q))
                     have⟨J,h⟩:=gd h;obtain⟨O,h⟩|⟨O,h⟩:=io h
                     ·have⟨t74,P,h⟩:=bo h;obtain rfl:=oi h;exact rf (o [b0,b1,.ret (B t74)]) (Qb (W9 P) (Qb (eqt O) (Qb J (Qb (jEj x) q))))
                     cases h
                    cases h
                   cases h
                  cases h
                 cases h
                cases h
               cases h
              cases h
             cases h
            cases h
           cases h
          cases h
         have⟨t27,h27,h⟩:=bo h;have⟨h28,h⟩:=gd h;have⟨t29,h29,h⟩:=bo h;have⟨t30,Z,h⟩:=bo h;have⟨h31,h⟩:=gd h;have⟨h32,h⟩:=gd h;have⟨t33,h33,h⟩:=bo h;have⟨h34,h⟩:=gd h;have⟨h35,h⟩:=gd h;have⟨h36,h⟩:=gd h;have⟨t37,h37,h⟩:=bo h;have⟨h38,h⟩:=gd h;have⟨h39,h⟩:=gd h;have⟨t40,h40,h⟩:=bo h;have q:=Qb (Qo h40) (Qb h39 (Qb h38 (Qb (QG h37) (Qb h36 (Qb h35 (Qb h34 (Qb (QG h33) (Qb h28 (Qb h32 (Qb h31 (Qb (QG Z) (Qb (qx h29) (Qb h28 (Qb (Q4 h27) (Qb (eqf a4) q)))))))))))))));let o l:=o (b0::.obj (some 90) (.d (.lst false 5 t27)) (Qa t24.2.2.2.2.2.2.2.1 t24.2.2.2.2.2.2.2.2.1 t24.1 t24.2.1 t24.2.2.1 t24.2.2.2.1 t24.2.2.2.2.1 t24.2.2.2.2.2.1 t24.2.2.2.2.2.2.1 t24.2.2.2.2.2.2.2.2.2.1 t24.2.2.2.2.2.2.2.2.2.2.1 t24.2.2.2.2.2.2.2.2.2.2.2) Zj::.ret (.tup [.agg [I t29.1,I t29.2.1],I t29.2.2])::.ret (Qe t30)::.ret (Qe t33)::.ret (Qe t37)::.obj (some 90) (.d (.tup [Qe t40.1,I t40.2.1])) (Qa' t40.2.2) []::b0::l);obtain⟨a3,h⟩|⟨a3,h⟩:=io h
         ·have q:=Qb (nef a3) q;obtain⟨U,h⟩|⟨U,h⟩:=io h
          ·have⟨h43,h⟩:=gd h;have⟨M,h⟩:=gd h;have⟨t45,N,h⟩:=bo h;have⟨h46,h⟩:=gd h;have⟨t47,h47,h⟩:=bo h;have q:=Qb (Qo h47) (Qb h46 (Qb (QG N) (Qb M (Qb h43 (Qb (QG h33) (Qb h28 (Qb (jDj U) q)))))));let o l:=o (b1::.ret (Qe t33)::.ret (Qe t45)::.ix (-9)::.obj (some 90) (.d (.tup [Qe t47.1,I t47.2.1])) (Qa' t47.2.2) []::b0::l);obtain⟨E,h⟩|⟨E,h⟩:=io h
           ·have⟨h49,h⟩:=gd h;have⟨t50,h50,h⟩:=bo h;have⟨F,h⟩:=gd h;have⟨h52,h⟩:=gd h;have⟨t53,h53,h⟩:=bo h;have⟨G,h⟩:=gd h;have⟨t55,h55,h⟩:=bo h;have⟨t56,k,h⟩:=bo h;have⟨t57,m,h⟩:=bo h;have⟨t58,H,h⟩:=bo h;have⟨t59,c,h⟩:=bo h;have q:=Qb (((Y8 c).le (.cons (.full _ _ _) (.cons (.full _ _ _) (.cons (.full _ _ _) (.cons (.refl _) (.nil))))) (.refl _)):Computes cx 15 [.lst true 2 [.agg [I 5,I 0]],.lst true 1 [I 30],.lst true 1 [I (Zv t11.2.2.1 30)],I 10] (.tup [I t59.1,.lst false 2 t59.2.1,I t59.2.2])) (Qb (Kc H) (Qb (Q4 k) (Qb (YY m) (Qb (Q4 k) (Qb (Qo h55) (Qb G (Qb (QG h50) (Qb h49 (Qb (Qo h53) (Qb h52 (Qb F (Qb (QG h50) (Qb h49 (Qb (nef E) q))))))))))))));let o l:=o (.ret (Qe t50)::.obj (some 90) (.d (.tup [Qe t53.1,I t53.2.1])) (Qa' t53.2.2) []::.ret (Qe t50)::.obj (some 90) (.d (.tup [Qe t55.1,I t55.2.1])) (Qa' t55.2.2) []::.obj (some 90) (.d (.lst false 5 t56)) (Qa' t55.2.2) Zj::.ret (.tup [I t57.1,I t57.2])::.obj (some 90) (.d (.lst false 5 t56)) (Qa' t55.2.2) Zj::.ret (.tup [I t58.1,I t58.2])::.ret (.tup [I t59.1,.lst false 2 t59.2.1,I t59.2.2])::b0::b0::b0::b0::b0::b0::b0::b0::b0::l);obtain⟨e,h⟩|⟨e,h⟩:=io h
            ·have⟨p,h⟩:=gd h;have q:=Qb p (Qb (nef e) q);obtain⟨s,h⟩|⟨s,h⟩:=io h
             ·have q:=Qb (nef s) q;obtain⟨a,h⟩|⟨a,h⟩:=io h
              ·have q:=Qb (nef a) q;obtain⟨t,h⟩|⟨t,h⟩:=io h
               ·have q:=Qb (nef t) q;obtain⟨u,h⟩|⟨u,h⟩:=io h
                ·have q:=Qb (nef u) q;obtain⟨f,h⟩|⟨f,h⟩:=io h
                 ·have q:=Qb (nef f) q;obtain⟨g,h⟩|⟨g,h⟩:=io h
                  ·have⟨i,h⟩:=gd h;have q:=Qb i (Qb (nef g) q);obtain⟨b,h⟩|⟨b,h⟩:=io h
                   ·have⟨j,h⟩:=gd h;have⟨x,h⟩:=gd h;have⟨J,h⟩:=gd h;have q:=Qb J (Qb x (Qb j (Qb (nef b) q)));obtain⟨O,h⟩|⟨O,h⟩:=io h
                    ·have q:=Qb (nef O) q;obtain⟨P,h⟩|⟨P,h⟩:=io h
                     ·have⟨t75,h75,h⟩:=bo h;obtain rfl:=oi h;exact rf (o [b1,.no,.ret (B t75)]) (Qb (W9 h75) (Qb (jDj P) q))
                     have⟨h75,h⟩:=gd h;obtain⟨V,h⟩|⟨V,h⟩:=io h
                     ·have⟨t77,W,h⟩:=bo h;obtain rfl:=oi h;exact rf (o [b0,b1,.ret (B t77)]) (Qb (W9 W) (Qb (eqt V) (Qb h75 (Qb (jEj P) q))))
                     cases h
                    cases h
                   cases h
                  cases h
                 cases h
                cases h
               cases h
              cases h
             cases h
            cases h
           cases h
          have⟨h43,h⟩:=gd h;have⟨t44,M,h⟩:=bo h;have⟨N,h⟩:=gd h;have⟨h46,h⟩:=gd h;have⟨t47,h47,h⟩:=bo h;have⟨E,h⟩:=gd h;have⟨t49,h49,h⟩:=bo h;have⟨t50,h50,h⟩:=bo h;have⟨t51,F,h⟩:=bo h;have⟨t52,h52,h⟩:=bo h;have⟨t53,h53,h⟩:=bo h;have q:=Qb (((Y8 h53).le (.cons (.full _ _ _) (.cons (.full _ _ _) (.cons (.full _ _ _) (.cons (.refl _) (.nil))))) (.refl _)):Computes cx 15 [.lst true 2 [.agg [I 5,I 0]],.lst true 1 [I 30],.lst true 1 [I (Zv t11.2.2.1 30)],I 10] (.tup [I t53.1,.lst false 2 t53.2.1,I t53.2.2])) (Qb (Kc h52) (Qb (Q4 h50) (Qb (YY F) (Qb (Q4 h50) (Qb (Qo h49) (Qb E (Qb (QG M) (Qb h43 (Qb (Qo h47) (Qb h46 (Qb N (Qb (QG M) (Qb h43 (Qb (jEj U) q))))))))))))));let o l:=o (b0::.ret (Qe t44)::.obj (some 90) (.d (.tup [Qe t47.1,I t47.2.1])) (Qa' t47.2.2) []::.ret (Qe t44)::.obj (some 90) (.d (.tup [Qe t49.1,I t49.2.1])) (Qa' t49.2.2) []::.obj (some 90) (.d (.lst false 5 t50)) (Qa' t49.2.2) Zj::.ret (.tup [I t51.1,I t51.2])::.obj (some 90) (.d (.lst false 5 t50)) (Qa' t49.2.2) Zj::.ret (.tup [I t52.1,I t52.2])::.ret (.tup [I t53.1,.lst false 2 t53.2.1,I t53.2.2])::b0::b0::b0::b0::b0::b0::b0::b0::b0::l);obtain⟨G,h⟩|⟨G,h⟩:=io h
          ·have⟨h55,h⟩:=gd h;have q:=Qb h55 (Qb (nef G) q);obtain⟨k,h⟩|⟨k,h⟩:=io h
           ·have q:=Qb (nef k) q;obtain⟨m,h⟩|⟨m,h⟩:=io h
            ·have q:=Qb (nef m) q;obtain⟨H,h⟩|⟨H,h⟩:=io h
             ·have q:=Qb (nef H) q;obtain⟨c,h⟩|⟨c,h⟩:=io h
              ·have q:=Qb (nef c) q;obtain⟨e,h⟩|⟨e,h⟩:=io h
               ·have q:=Qb (nef e) q;obtain⟨p,h⟩|⟨p,h⟩:=io h
                ·have⟨s,h⟩:=gd h;have q:=Qb s (Qb (nef p) q);obtain⟨a,h⟩|⟨a,h⟩:=io h
                 ·have⟨t,h⟩:=gd h;have⟨u,h⟩:=gd h;have⟨f,h⟩:=gd h;have q:=Qb f (Qb u (Qb t (Qb (nef a) q)));obtain⟨g,h⟩|⟨g,h⟩:=io h
                  ·have q:=Qb (nef g) q;obtain⟨i,h⟩|⟨i,h⟩:=io h
                   ·have⟨t69,b,h⟩:=bo h;obtain rfl:=oi h;exact rf (o [b1,.no,.ret (B t69)]) (Qb (W9 b) (Qb (jDj i) q))
                   have⟨b,h⟩:=gd h;obtain⟨j,h⟩|⟨j,h⟩:=io h
                   ·have⟨t71,x,h⟩:=bo h;obtain rfl:=oi h;exact rf (o [b0,b1,.ret (B t71)]) (Qb (W9 x) (Qb (eqt j) (Qb b (Qb (jEj i) q))))
                   cases h
                  cases h
                 cases h
                cases h
               cases h
              cases h
             cases h
            cases h
           cases h
          cases h
         cases h
        cases h
       cases h
      cases h
     by_cases A:t8.2.2.2.2=0
     ·replace h:=U7 h A;by_cases C:t11.2.2.2.2=0
      ·replace h:=U7 h C;by_cases S:((t11.1).length:Int)=((X).length:Int)
       ·replace h:=U7 h S;by_cases T:t11.2.1>t8.2.1
        ·replace h:=U7 h T;cases h
        ·replace h:=U8 h T;cases h
       ·replace h:=U8 h S;cases h
      ·replace h:=U8 h C;cases h
     ·replace h:=U8 h A;cases h
    by_cases L:t8.2.2.2.2=0
    ·replace h:=U7 h L;by_cases z:t11.2.2.2.2=0
     ·replace h:=U7 h z;by_cases A:((t11.1).length:Int)=((X).length:Int)
      ·replace h:=U7 h A;by_cases C:t11.2.1>t8.2.1
       ·replace h:=U7 h C;cases h
       ·replace h:=U8 h C;cases h
      ·replace h:=U8 h A;cases h
     ·replace h:=U8 h z;cases h
    ·replace h:=U8 h L;cases h
   by_cases K:t8.2.2.2.2=0
   ·replace h:=U7 h K;by_cases y:t11.2.2.2.2=0
    ·replace h:=U7 h y;by_cases L:((t11.1).length:Int)=((X).length:Int)
     ·replace h:=U7 h L;by_cases z:t11.2.1>t8.2.1
      ·replace h:=U7 h z;cases h
      ·replace h:=U8 h z;cases h
     ·replace h:=U8 h L;cases h
    ·replace h:=U8 h y;cases h
   ·replace h:=U8 h K;cases h
  by_cases Y:t8.2.2.2.2=0
  ·replace h:=U7 h Y;by_cases Q:t11.2.2.2.2=0
   ·replace h:=U7 h Q;by_cases K:((t11.1).length:Int)=((X).length:Int)
    ·replace h:=U7 h K;by_cases y:t11.2.1>t8.2.1
     ·replace h:=U7 h y;cases h
     ·replace h:=U8 h y;cases h
    ·replace h:=U8 h K;cases h
   ·replace h:=U8 h Q;cases h
  ·replace h:=U8 h Y;cases h
 have⟨t3,h3,h⟩:=bo h;obtain rfl:=oi h;exact rf (o [b1,.ret (B t3)]) (Qb (W9 h3) (Qb (wG (Zy h2)) q))
set_option maxRecDepth 20000
theorem Qck {n:Nat}(j:1700<=n)(l:List Ev)(q:l.length<=990)(r:∀e,e∈l->Shw n e)(t:Int):VZ n (l.map Q5) t=some (match rep 0 [] l with
  | .inr c=>if QK [0,inR t 0 999999999,QD (decide (t<(QN c).tick)) 22]=0 then(if Gq (QN c) t=0 then((QN c).light+WP (QN c) t,(QN c).heat+WP (QN c) t,0) else(0,0,4)) else(0,0,QK [0,inR t 0 999999999,QD (decide (t<(QN c).tick)) 22])
  | .inl p=>(0,0,p.2)):=by
 have h:=EZ j l q r;unfold VZ;cases hr:rep 0 [] l with
 | inl p =>
  obtain⟨i,err⟩:=p;rw[hr] at h;obtain⟨f,w,g⟩:=h;rw[g,jBj,YR,jBj];dsimp only;rw[QR,jBj,uT (by omega),jBj,QgQ _ f,jFj f]
 | inr c =>
  rw[hr] at h;obtain⟨f,g,u⟩:=h;have a:=qR g (by omega);rw[f,jBj,YR,jBj];refine Eq.trans (congrArg (fun x=>Option.bind x _) (QR n (decide (t<(QN c).tick)) 22)) ?_;rw[jBj];dsimp only[Wd];rw[uT (by omega),jBj];by_cases d:QK [0,inR t 0 999999999,QD (decide (t<(QN c).tick)) 22]=0
  ·rw[jTj d,jTj d];have k:okT (QN c) t:=by have m:=WS.1 (Zl d (inR t 0 999999999) (by simp));have s:=of_decide_eq_false (Ub (e:=22) (by decide) (Zl d (QD (decide (t<(QN c).tick)) 22) (by simp)));exact⟨by omega,m.2⟩
   rw[Zd a (by omega) j k,jBj,Wk a (by omega) j k];by_cases b:Gq (QN c) t=0
   ·rw[jTj b,jTj b];rfl
   ·rw[jFj b,jFj b];have o:Gq (QN c) t=4:=by
     unfold Gq at b ⊢;split
     ·rename_i h;rw[jTj h] at b;exact absurd rfl b
     ·rfl
    rw[o]
  ·rw[jFj d,jFj d]
def cg (a:jSj)(s:Int×Int)(m:Mir):Int×Int:=if m.2.1=a then(s.1+1,if isA m=true then s.2+1 else s.2) else s
def ki (a:jSj)(ms:List Mir):Int×Int:=Kw (E:=Int×Int) (fun s m=>.inl (cg a s m)) (fun s=>s) ms (0,0)
theorem Qiu {a:jSj}{s:Int×Int}{m:Mir}{i:Nat}(h:(0<=s.1/\s.1<=(i:Int))/\0<=s.2/\s.2<=(i:Int)):(0<=(cg a s m).1/\(cg a s m).1<=((i+1:Nat):Int))/\0<=(cg a s m).2/\(cg a s m).2<=((i+1:Nat):Int):=by
 unfold cg;split
 ·split
  ·simp only[Int.natCast_add,Int.natCast_one];omega
  ·simp only[Int.natCast_add,Int.natCast_one];omega
 ·simp only[Int.natCast_add,Int.natCast_one];omega
theorem Qit {n:Nat}(a:jSj){g h:jVj}{j l:Int}{o p:Bool}{r t u:Int}{b c:jVj}(ms:List Mir)(H:ms.length<=4000)(z:ms.length<n):Vc n a g h j l o p r t u b (ms.map Q1) c=some (ki a ms):=by
 unfold Vc;have q:=Vr (step:=ZW n a g h j l o p r t u b (ms.map Q1) c) (E:=Int×Int) (fun(s:Int×Int) (m:Mir)=>.inl (cg a s m)) (fun s=>s) (fun i s=>(((i:Int),s.1,s.2):Int×Int×Int)) ms (fun i s=>(0<=s.1/\s.1<=(i:Int))/\0<=s.2/\s.2<=(i:Int))
  (fun i s m f v=>by
   have G:=(jGj f).1;refine⟨?_,Qiu v⟩;obtain⟨⟨b1,A⟩,C,F⟩:=v;unfold ZW;dsimp only;rw[jTj (ZF f),jTj ⟨Int.natCast_nonneg i,ZF f⟩,Zc unM f,jBj];by_cases d:m.2.1=a
   ·rw[jFj (by rw[beqS,jDj d];decide),jTj (by unfold Qg;omega)];by_cases e:m.2.2.2.2.2=true
    ·rw[jTj e,jTj (by unfold Qg;omega),jTj (by unfold Qg;omega),show cg a s m=(s.1+1,s.2+1) from by unfold cg isA;rw[jTj d,jTj e]];rfl
    ·rw[jFj e,jTj (by unfold Qg;omega),show cg a s m=(s.1+1,s.2) from by unfold cg isA;rw[jTj d,jFj e]];rfl
   ·rw[jTj (by rw[beqS,jEj d];rfl),jTj (by unfold Qg;omega),show cg a s m=s from by unfold cg;rw[jFj d]];rfl)
  (fun s _=>by unfold ZW;dsimp only;rw[jFj (by simp)]) (s:=(0,0)) (by simp) (k:=n) z
 exact(congrArg (fun x:Option (Int×Int)=>x.bind fun y=>some (y.1,y.2)) q)
theorem QhI {r:Reg}{c:Nat}(b:Inv c r){a:jSj}(h:ZG (nmO r.offers) a=true):okO (oAt r.offers a):=b.offs _ (jgj (J6 h).2.2)
theorem QdL {n:Nat}(q:1700<=n)(l:List Ev)(m:l.length<=990)(r:∀e,e∈l->Shw n e)(a:jSj):Wf n (l.map Q5) a=some (match rep 0 [] l with
  | .inr c=>if QD (!ZG (nmO (QN c).offers) a) 10=0 then(WC (oAt (QN c).offers a),0) else(0,QD (!ZG (nmO (QN c).offers) a) 10)
  | .inl p=>(0,p.2)):=by
 have h:=EZ q l m r;unfold Wf;cases hr:rep 0 [] l with
 | inl p =>
  obtain⟨i,err⟩:=p;rw[hr] at h;obtain⟨f,w,g⟩:=h;rw[g,jBj];dsimp only;rw[jFj f]
 | inr c =>
  rw[hr] at h;obtain⟨f,g,u⟩:=h;have b:=qR g (by omega);have o:=b.lenO;rw[f,jBj];dsimp only[Wd];rw[jTj rfl,X8 _ (by omega) (by omega),jBj,Wp _ _ (by rw[Wy];omega) (by rw[Wy];omega),jBj,QR,jBj];by_cases d:QD (!ZG (nmO (QN c).offers) a) 10=0
  ·have j:=WN d;obtain⟨k,s,t⟩:=J6 j;rw[jTj d,jTj d,ZQ _ _ (by rw[Wy];omega) (by rw[Wy];omega),jBj];refine Eq.trans (jTj (hltO k s)) ?_;rw[k,Zc unO t,jBj,jh n (QhI b j),jBj]
  ·rw[jFj d,jFj d]
theorem QeN {n:Nat}(q:1700<=n)(l:List Ev)(m:l.length<=990)(r:∀e,e∈l->Shw n e)(a:jSj):Vp n (l.map Q5) a=some (match rep 0 [] l with
  | .inr c=>if QD (!ZG (nmO (QN c).offers) a) 10=0 then(Gr (oAt (QN c).offers a),0) else(0,QD (!ZG (nmO (QN c).offers) a) 10)
  | .inl p=>(0,p.2)):=by
 have h:=EZ q l m r;unfold Vp;cases hr:rep 0 [] l with
 | inl p =>
  obtain⟨i,err⟩:=p;rw[hr] at h;obtain⟨f,w,g⟩:=h;rw[g,jBj];dsimp only;rw[jFj f]
 | inr c =>
  rw[hr] at h;obtain⟨f,g,u⟩:=h;have b:=qR g (by omega);have o:=b.lenO;rw[f,jBj];dsimp only[Wd];rw[jTj rfl,X8 _ (by omega) (by omega),jBj,Wp _ _ (by rw[Wy];omega) (by rw[Wy];omega),jBj,QR,jBj];by_cases d:QD (!ZG (nmO (QN c).offers) a) 10=0
  ·have j:=WN d;obtain⟨k,s,t⟩:=J6 j;rw[jTj d,jTj d,ZQ _ _ (by rw[Wy];omega) (by rw[Wy];omega),jBj];refine Eq.trans (jTj (hltO k s)) ?_;rw[k,Zc unO t,jBj,QcA n (QhI b j),jBj]
  ·rw[jFj d,jFj d]
theorem QkA {l:List Ev}{i:Nat}{e:Ev}(h:l[i]?=some e):(nth (l.map Q5) (Int.toNat (i:Int))).bind Wc=some (e.1,e.2.1,e.2.2.1.map Sd,e.2.2.2.1.map I,e.2.2.2.2):=by rw[jtj,U4,List.getElem?_map,h];rfl
theorem QkD (k:Ki):kn k<=60:=by cases k<;>decide
theorem QkC (k:Ki):kv k<=60:=by cases k<;>decide
theorem Qi2 {c:List Ev}(a:OkL c):∀e,e∈c->e.2.2.1.length<=60/\e.2.2.2.1.length<=60:=fun e d=>by obtain⟨i,f⟩:=List.getElem?_of_mem d;obtain⟨k,_,b,_⟩:=a i e f;rw[b.names,b.vals];exact⟨QkD k,QkC k⟩
theorem Qfx (e:Ev):∀(l a:List Ev) (i:Nat),rep i a (l++[e])=(match rep i a l with
  | .inr c=>if Uk (i+l.length) c e=0 then .inr (YV c e) else .inl (((i+l.length:Nat):Int)+1,Uk (i+l.length) c e)
  | .inl p=>.inl p)
 | [],a,i=>by
  show rep i a [e]=_;show(if Uk i a e=0 then rep (i+1) (YV a e) [] else .inl ((i:Int)+1,Uk i a e))=(if Uk i a e=0 then .inr (YV a e) else .inl (((i:Nat):Int)+1,Uk i a e))
  by_cases h:Uk i a e=0
  ·rw[jTj h,jTj h];rfl
  ·rw[jFj h,jFj h]
 | x::l,a,i=>by
  rw[List.cons_append];unfold rep;by_cases h:Uk i a x=0
  ·rw[jTj h,jTj h,Qfx e l,show i+1+l.length=i+(x::l).length by rw[List.length_cons];omega]
  ·rw[jFj h,jFj h]
def QbP (b:Bool):Wrd:=if b=true then[102,105,108,108,101,100] else[101,109,112,116,121]
def Qhh (b:Bool):Wrd:=if b=true then[116,114,105,112,112,101,100] else[114,101,97,100,121]
def Qav (r:Reg):List Wrd:=[QbP r.filled,Qhh r.tripped,Lib.itoa r.level]
def Qf8 (r:Reg):List Wrd:=[Lib.itoa (zP r)]
def Qay (r:Reg):List Wrd:=(kD r.mirrors).map dat
def Qax (r:Reg):List Wrd:=[Lib.itoa r.light,Lib.itoa r.heat,Lib.itoa r.money]
def opOf (o:Off):List Wrd:=if o.2.2.2.2.2.2=true then[] else[dat o.1,Lib.itoa (WC o)]
def Es (r:Reg):List Wrd:=r.offers.flatMap opOf
def Qf9 (r:Reg)(a:jSj):List Wrd:=[Lib.itoa (mAt r.mirrors a).2.2.2.1]
def Qaw (r:Reg)(a:jSj):List Wrd:=[Lib.itoa (ki a r.mirrors).1,Lib.itoa (ki a r.mirrors).2]
theorem QiR (n:Nat)(x:jSj)(d e:jVj){c:Nat}{r:Reg}(b:Inv c r):VD n x d e r.tick r.level r.filled r.tripped r.light r.heat r.money (r.sectors.map Sd) (r.mirrors.map Q1) (r.offers.map Zs)=some ((Qav r).map eS):=by unfold VD Kl Qav QbP Qhh;have h:=uH n (a:=r.level) (i64 (by have:=b.level;omega) (by have:=b.level;omega));by_cases f:r.filled=true<;>by_cases g:r.tripped=true<;>simp only[f,g,if_true,Bool.false_eq_true,if_false,jBj,h]<;>rfl
theorem Qdj {c:Nat}{r:Reg}(a:Inv c r)(hc:c<=992):0<=zP r/\zP r<=4000000000:=by have h:=jC a.level a.mirs;have b:=a.lenM;unfold zP;omega
theorem QjV {n:Nat}(f:3000<=n)(x:jSj)(b d:jVj){c:Nat}{r:Reg}(a:Inv c r)(hc:c<=992):VC n x b d r.tick r.level r.filled r.tripped r.light r.heat r.money (r.sectors.map Sd) (r.mirrors.map Q1) (r.offers.map Zs)=some ((Qf8 r).map eS):=by have e:=Qdj a hc;unfold VC Qf8;rw[Qfz _ _ _ _ _ _ _ _ _ _ _ a.level _ a.mirs (by have:=a.lenM;omega) (by omega),jBj];show(Wr n (zP r)).bind _=_;rw[uH n (i64 (by omega) (by omega))];rfl
theorem Qgu {n:Nat}(g j:jVj)(o p:Int)(r t:Bool)(u v y:Int)(d f:jVj)(ms:List Mir)(C:ms.length<=4000)(z:ms.length<n) :
  QU (Zk n g j o p r t u v y d (ms.map Q1) f) n (.inl 0)=some (if ms.filter isA=[] then .inl () else .inr ((ms.filter isA).map Q1)):=by
 have q:=Vr (step:=Zk n g j o p r t u v y d (ms.map Q1) f) (E:=Unit⊕jVj) (fun(s:List Mir) (m:Mir)=>.inl (if isA m=true then s++[m] else s)) (fun s=>if s=[] then .inl () else .inr (s.map Q1))
  (fun i s=>if s=[] then .inl (i:Int) else .inr ((i:Int),s.map Q1)) ms (fun i s=>s.length<=i)
  (fun i s m c F=>by
   have A:=(jGj c).1;refine⟨?_,by
    show(if isA m=true then s++[m] else s).length<=i+1;split
    ·rw[jaj,List.length_singleton];omega
    ·omega⟩
   by_cases b:s=[]
   ·subst b;rw[jTj rfl];unfold Zk;dsimp only;rw[jTj (ZF c),jTj ⟨Int.natCast_nonneg i,ZF c⟩,Zc unM c,jBj];unfold isA;by_cases a:m.2.2.2.2.2=true
    ·rw[jTj a,jTj a,jTj (by unfold Qg;omega),jFj (by simp)];rfl
    ·rw[jFj a,jFj a,jTj (by unfold Qg;omega),jTj rfl];rfl
   ·rw[jFj b];unfold Zk;dsimp only;rw[jTj (ZF c),jTj ⟨Int.natCast_nonneg i,ZF c⟩,Zc unM c,jBj];unfold isA;by_cases a:m.2.2.2.2.2=true
    ·rw[jTj a,jTj a,jTj (UO (by decide) (by rw[jlj];omega)),jTj (by unfold Qg;omega),jFj (by simp),List.map_append];rfl
    ·rw[jFj a,jFj a,jTj (by unfold Qg;omega),jFj b];rfl)
  (fun s _=>by
   by_cases b:s=[]
   ·subst b;rw[jTj rfl,jTj rfl];unfold Zk;dsimp only;rw[jFj (by simp)]
   ·rw[jFj b,jFj b];unfold Zk;dsimp only;rw[jFj (by simp)]) (s:=[]) (k:=n) (jLj _) z
 have e:∀(l:List Mir) (s:List Mir),Kw (E:=Unit⊕jVj) (fun(s:List Mir) (m:Mir)=>.inl (if isA m=true then s++[m] else s)) (fun s=>if s=[] then .inl () else .inr (s.map Q1)) l s=(if s++l.filter isA=[] then .inl () else .inr ((s++l.filter isA).map Q1)):=by
  intro l;induction l with
  | nil=>intro s;simp[Kw]
  | cons x l ih =>
   intro s;show Kw (E:=Unit⊕jVj) (fun(s:List Mir) (m:Mir)=>.inl (if isA m=true then s++[m] else s)) (fun s=>if s=[] then .inl () else .inr (s.map Q1)) l (if isA x=true then s++[x] else s)=_;rw[ih];by_cases h:isA x=true
   ·rw[jTj h,List.filter_cons_of_pos h,List.append_assoc];rfl
   ·rw[jFj h,List.filter_cons_of_neg h]
 rw[e] at q;exact q
theorem QiU {n:Nat}(l:3000<=n)(x:jSj)(d e:jVj){c:Nat}{r:Reg}(h:Inv c r)(hc:c<=992):VB n x d e r.tick r.level r.filled r.tripped r.light r.heat r.money (r.sectors.map Sd) (r.mirrors.map Q1) (r.offers.map Zs)=some ((Qay r).map eS):=by
 have g:=h.lenM;have f:(r.mirrors.filter isA).length<=r.mirrors.length:=List.length_filter_le _ _;unfold VB Qay;rw[Qgu _ _ _ _ _ _ _ _ _ _ _ r.mirrors (by omega) (by omega),jBj,map_dat];unfold kD;by_cases b:r.mirrors.filter isA=[]
 ·rw[jTj b,b];rfl
 ·rw[jFj b];dsimp only;have q:=Y4 (step:=Wm n d e r.tick r.level r.filled r.tripped r.light r.heat r.money (r.sectors.map Sd) (r.mirrors.map Q1) (r.offers.map Zs) ((r.mirrors.filter isA).map Q1)) (E:=jVj) (fun out=>out) (r.mirrors.filter isA) (fun x=>[Sd x.1]) (fun _=>jLj _)
   (fun i out x a m=>by have j:=(jGj a).1;unfold Wm QZ;dsimp only;rw[jTj (ZF a),jTj ⟨Int.natCast_nonneg i,ZF a⟩,Zc unM a,jBj,jBj,jTj (UO (by decide) (by omega)),jTj (by unfold Qg;omega)];rfl)
   (fun out _=>by unfold Wm;dsimp only;rw[jFj (by simp)]) (k:=n) (by omega)
  rw[q,jBj,wQ,List.map_map];rfl
theorem QfM {c:Nat}{r:Reg}(a:Inv c r)(hc:c<=992):Qg r.money:=i64 (by have:=a.money;omega) (by have:=a.money;omega)
theorem QiT {n:Nat}(f:3000<=n)(x:jSj)(d e:jVj){c:Nat}{r:Reg}(a:Inv c r)(hc:c<=992):VA n x d e r.tick r.level r.filled r.tripped r.light r.heat r.money (r.sectors.map Sd) (r.mirrors.map Q1) (r.offers.map Zs)=some ((Qax r).map eS):=by
 unfold VA Qax;have h:=QfO f [r.light,r.heat,r.money] (by simp) (fun v b=>by
  simp only[List.mem_cons,List.not_mem_nil,or_false] at b;obtain rfl|rfl|rfl:=b
  ·unfold Qg;have:=a.light;omega
  ·unfold Qg;have:=a.heat;omega
  ·exact QfM a hc)
 rw[show Wu n [I r.light,I r.heat,I r.money]=_ from h];rfl
def yw (o:Off):Bool:=!o.2.2.2.2.2.2
def opW (o:Off):List Wrd:=[dat o.1,Lib.itoa (WC o)]
theorem kV (l:List Off):l.flatMap opOf=(l.filter yw).flatMap opW:=by
 induction l with
 | nil=>rfl
 | cons o l ih =>
  rw[List.flatMap_cons,ih];unfold opOf;by_cases h:o.2.2.2.2.2.2=true
  ·rw[jTj h,List.filter_cons_of_neg (by simp[yw,h])];rfl
  ·rw[jFj h,List.filter_cons_of_pos (by simp[yw,h]),List.flatMap_cons];rfl
theorem QcW {a:Type}{f:a->jVj}{l:List a}{i:Nat}{x:a}(h:l[i]?=some x):el Qfo (l.map fun x=>.lst false 1 (f x)) (i:Int)=some (f x):=by unfold el;rw[jTj (Int.natCast_nonneg i),jtj,U4,List.getElem?_map,h];rfl
theorem QgZ {n:Nat}{h:Type}(f:h->jVj)(l:List h)(F:l.length<=1000)(v:l.length<n)(u:∀x,x∈l->(f x).length<=2):Yd n (l.map fun x=>.lst false 1 (f x))=some (l.flatMap f):=by
 have A:∀(a:List h) (i s K:Nat),l.drop i=a->i<=l.length->s<=2*i->a.length<K->∃t:Nat,t<=2*l.length/\QU (Ws n (l.map fun x=>.lst false 1 (f x))) K ((s:Int),(i:Int))=some (t:Int)/\(l.flatMap f=[]\/True):=by
  intro a;induction a with
  | nil =>
   intro i s K b m p e;obtain⟨K,rfl⟩:∃j,K=j+1:=⟨K - 1,by omega⟩
   have o:i=l.length:=by have:=List.drop_eq_nil_iff.1 b;omega
   refine⟨s,by omega,ZP ?_,.inr trivial⟩;unfold Ws;dsimp only;rw[jFj (by rw[jlj];omega)]
  | cons x a ih =>
   intro i s K b m p e;obtain⟨K,rfl⟩:∃j,K=j+1:=⟨K - 1,by omega⟩
   obtain⟨d,g,c⟩:=Qd1 b;have z:=u x (jgj g);obtain⟨t,y,q,E⟩:=ih (i+1) (s+(f x).length) K c d (by omega) (by simp at e;omega);refine⟨t,y,?_,E⟩;refine(W8 ?_).trans q;unfold Ws;dsimp only;rw[jTj (by rw[jlj];omega),QcW g,jBj,jTj (i64 (by omega) (by omega)),jFj (by omega),jTj (i64 (by omega) (by omega))];rfl
 have C:QU (ZR n (l.map fun x=>.lst false 1 (f x))) n (0,[])=some (l.flatMap f):=by
  have main:∀(a:List h) (i:Nat) (acc:jVj) (K:Nat),l.drop i=a->i<=l.length->acc.length<=2*i->a.length<K->QU (ZR n (l.map fun x=>.lst false 1 (f x))) K ((i:Int),acc)=some (acc++a.flatMap f):=by
   intro a;induction a with
   | nil =>
    intro i acc K b m p e;obtain⟨K,rfl⟩:∃j,K=j+1:=⟨K - 1,by omega⟩
    have o:i=l.length:=by have:=List.drop_eq_nil_iff.1 b;omega
    refine ZP ?_;unfold ZR;dsimp only;rw[jFj (by rw[jlj];omega)];simp
   | cons x a ih =>
    intro i acc K b m p e;obtain⟨K,rfl⟩:∃j,K=j+1:=⟨K - 1,by omega⟩
    obtain⟨d,g,c⟩:=Qd1 b;have z:=u x (jgj g);refine(W8 ?_).trans ((ih (i+1) (acc++f x) K c d (by simp;omega) (by simp at e;omega)).trans (by simp));unfold ZR;dsimp only;rw[jTj (by rw[jlj];omega),QcW g,jBj,jTj (UO (by decide) (by omega)),jTj (i64 (by omega) (by omega))];rfl
  exact(main l 0 [] n rfl (Nat.zero_le _) (Nat.zero_le _) v).trans (by simp)
 obtain⟨t,y,q,_⟩:=A l 0 0 n rfl (Nat.zero_le _) (Nat.zero_le _) v;have r : QU (Ws n (l.map fun x=>.lst false 1 (f x))) n (0,0)=some (t:Int):=q;unfold Yd;rw[r,jBj,jFj (by omega),jTj (i64 (by omega) (by omega)),C];by_cases k:((t:Int) - 0)>0
 ·rw[jTj k,jTj ⟨k,UO (by decide) (by omega)⟩,jTj ⟨by decide,by omega⟩];rfl
 ·rw[jFj k];rfl
theorem QhC {n:Nat}(C:3000<=n)(x:jSj)(f g:jVj){c:Nat}{r:Reg}(j:Inv c r)(hc:c<=992):Vz n x f g r.tick r.level r.filled r.tripped r.light r.heat r.money (r.sectors.map Sd) (r.mirrors.map Q1) (r.offers.map Zs)=some ((Es r).map eS):=by
 have u:=j.lenO;have s:(r.offers.filter yw).length<=r.offers.length:=List.length_filter_le _ _;unfold Vz;have q:=Y4 (step:=Wl n f g r.tick r.level r.filled r.tripped r.light r.heat r.money (r.sectors.map Sd) (r.mirrors.map Q1) (r.offers.map Zs)) (E:=jVj) (fun out=>out) r.offers (fun o=>if yw o=true then[Zs o] else[]) (fun o=>by split<;>simp)
  (fun i out o a y=>by
   have t:=(jGj a).1;unfold Wl Ye;dsimp only;rw[jTj (ZF a),jTj ⟨Int.natCast_nonneg i,ZF a⟩,Zc unO a,jBj,jBj];unfold yw;by_cases d:(!o.2.2.2.2.2.2)=true
   ·rw[jTj d,jTj d,jTj (UO (by decide) (by omega)),jTj (by unfold Qg;omega)];rfl
   ·rw[jFj d,jFj d,jTj (by unfold Qg;omega),List.append_nil];rfl)
  (fun out _=>by unfold Wl;dsimp only;rw[jFj (by simp)]) (k:=n) (by omega)
 have m:(r.offers.flatMap fun o=>if yw o=true then[Zs o] else[])=(r.offers.filter yw).map Zs:=by
  induction r.offers with
  | nil=>rfl
  | cons o l ih =>
   rw[List.flatMap_cons,ih];by_cases h:yw o=true
   ·rw[jTj h,List.filter_cons_of_pos h];rfl
   ·rw[jFj h,List.filter_cons_of_neg h];rfl
 rw[q,jBj,m];have z:=Y4 (step:=WJ n ((r.offers.filter yw).map Zs)) (E:=jVj) (fun out=>out) (r.offers.filter yw) (fun o=>[.lst false 1 ((opW o).map eS)]) (fun _=>jLj _)
  (fun i out o a y=>by
   have t:=(jGj a).1;have b:=j.offs o (List.mem_filter.1 (jgj a)).1;have A:=Kg b;have e:el Z4 ((r.offers.filter yw).map Zs) (i:Int)=some o:=UG (un:=Z4) (enc:=Zs) unO a;unfold WJ VF;dsimp only;rw[jTj (ZF a),e,jBj,jh n b,jBj,uH n (i64 (by omega) (by omega)),jBj,jBj,jTj (UO (by decide) (by omega)),jTj (by unfold Qg;omega)];have p:(opW o).map eS=[.v (.string o.1),eS (Lib.itoa (WC o))]:=by show[eS (dat o.1),eS (Lib.itoa (WC o))]=_;rw[show eS (dat o.1)=.v (.string o.1) by unfold eS dat;rw[UA]]
   rw[p];rfl)
  (fun out _=>by unfold WJ;dsimp only;rw[jFj (by simp)]) (k:=n) (by omega)
 unfold YJ;rw[z,jBj,jBj,wQ,QgZ (fun o=>(opW o).map eS) _ (by omega) (by omega) (fun o _=>by simp[opW]),jBj];unfold Es;rw[kV,List.map_flatMap]
theorem QjW {n:Nat}(l:3000<=n)(f g:jVj){c:Nat}{r:Reg}(e:Inv c r)(hc:c<=992){a:jSj}(h:ZG (nmM r.mirrors) a=true):Vy n a f g r.tick r.level r.filled r.tripped r.light r.heat r.money (r.sectors.map Sd) (r.mirrors.map Q1) (r.offers.map Zs)=some ((Qf9 r a).map eS):=by have j:=e.lenM;obtain⟨i,k,d⟩:=VM h;have b:=e.mirs _ (jgj d);unfold okM at b;unfold Vy Qf9;rw[UE r.mirrors (by omega) (by omega),jBj,ZQ _ _ (by rw[Zh];omega) (by rw[Zh];omega),jBj,i,jTj (by rw[jlj];omega),Zc unM d,jBj,uH n (i64 (by omega) (by omega))];rfl
theorem Qf2 (a:jSj)(ms:List Mir):(0<=(ki a ms).1/\(ki a ms).1<=(ms.length:Int))/\0<=(ki a ms).2/\(ki a ms).2<=(ms.length:Int):=by
 have main:∀(l:List Mir) (s:Int×Int) (i:Nat),((0<=s.1/\s.1<=(i:Int))/\0<=s.2/\s.2<=(i:Int))->(0<=(Kw (E:=Int×Int) (fun s m=>.inl (cg a s m)) (fun s=>s) l s).1/\(Kw (E:=Int×Int) (fun s m=>.inl (cg a s m)) (fun s=>s) l s).1<=((i+l.length:Nat):Int))/\0<=(Kw (E:=Int×Int) (fun s m=>.inl (cg a s m)) (fun s=>s) l s).2/\(Kw (E:=Int×Int) (fun s m=>.inl (cg a s m)) (fun s=>s) l s).2<=((i+l.length:Nat):Int):=by
  intro l;induction l with
  | nil=>intro s i h;exact h
  | cons m l ih =>
   intro s i h;have:=ih (cg a s m) (i+1) (Qiu h);rw[show i+1+l.length=i+(m::l).length by simp;omega] at this;exact this
 have:=main ms (0,0) 0 ⟨⟨Int.le_refl _,Int.le_refl _⟩,Int.le_refl _,Int.le_refl _⟩;rw[Nat.zero_add] at this;exact this
theorem QiS {n:Nat}(g:3000<=n)(d e:jVj){c:Nat}{r:Reg}(i:Inv c r)(hc:c<=992)(a:jSj):Vx n a d e r.tick r.level r.filled r.tripped r.light r.heat r.money (r.sectors.map Sd) (r.mirrors.map Q1) (r.offers.map Zs)=some ((Qaw r a).map eS):=by
 have f:=i.lenM;have j:=Qf2 a r.mirrors;unfold Vx Qaw;rw[Qit a r.mirrors (by omega) (by omega),jBj];have h:=QfO g [(ki a r.mirrors).1,(ki a r.mirrors).2] (by simp) (fun v b=>by
  simp only[List.mem_cons,List.not_mem_nil,or_false] at b;obtain rfl|rfl:=b
  ·exact i64 (by omega) (by omega)
  ·exact i64 (by omega) (by omega))
 rw[show Wu n [I (ki a r.mirrors).1,I (ki a r.mirrors).2]=_ from h];rfl
theorem Qbc (s:jSj):∀(m p:Nat),E4 s m p=true->∀i,p<=i->i<p+m->yG i (Kf s i)
 | 0,p,_,i,h1,h2=>absurd h2 (by omega)
 | m+1,p,h,i,h1,h2=>by
  unfold E4 at h;simp only[jAj,decide_eq_true_eq] at h;by_cases a:i=p
  ·subst a;exact h.1
  ·exact Qbc s m (p+1) h.2 i (by omega) (by omega)
theorem QeJ {s:jSj}(h:Yw s=true):∀c,c∈dat s->48<=c.toNat:=fun c hc=>by
 unfold Yw at h;simp only[jAj,decide_eq_true_eq] at h;obtain⟨i,f,e⟩:=List.mem_iff_getElem.1 hc;have d:(dat s)[i]?=some c:=by rw[jej f,e]
 have a:=kx d;rw[show mkS (dat s)=s from UA s] at a;have b:=Qbc s s.size 0 h.2 i (Nat.zero_le _) (by rw[<-dlen s];show i<0+(dat s).length;omega);rw[a] at b;unfold yG at b;omega
theorem Qh0 (k:Ki):∀c,c∈kw k->48<=c.toNat:=by cases k<;>decide
theorem QcQ {e:Ev}{k:Ki}(a:Good e k):∀w,w∈VX e->∀c,c∈w->48<=c.toNat:=fun w b c hc=>by
 unfold VX at b;obtain h|h:=List.mem_cons.1 b
 ·rw[h] at hc;exact(QdM (by have:=a.num;omega) c hc).1
 obtain h|h:=List.mem_cons.1 h
 ·rw[h,show dat e.2.1=kw k from a.kind] at hc;exact Qh0 k c hc
 obtain h|h:=List.mem_append.1 h
 ·obtain⟨s,d,rfl⟩:=List.mem_map.1 h;exact QeJ (a.name s d) c hc
 ·obtain⟨v,f,rfl⟩:=List.mem_map.1 h;exact(QdM (a.val v f).1 c hc).1
theorem Qi8 {l:List jSj}(h:∀s,s∈l->Yw s=true):(l.map dat).mapM nmG=some (l.map dat):=by
 induction l with
 | nil=>rfl
 | cons s l ih =>
  have a:=h s jMj;have b:¬dat s=[]:=fun e=>by unfold Yw at a;simp only[jAj,decide_eq_true_eq] at a;exact a.1.1 (by rw[<-dlen s];show(dat s).length=0;rw[e];rfl)
  rw[jCj,List.mapM_cons,ih fun s a=>h s (jmj _ a),show nmG (dat s)=some (dat s) by unfold nmG;rw[jFj b]];rfl
theorem QhV {l:List Int}(h:∀v,v∈l->0<=v/\v<=999999999):(l.map Lib.itoa).mapM num=some l:=by
 induction l with
 | nil=>rfl
 | cons v l ih =>
  have b:=h v jMj;rw[jCj,List.mapM_cons,ih fun s a=>h s (jmj _ a),uv b.1 (by omega)];rfl
theorem ur {e:Ev}{k:Ki}(a:Good e k):Jl (VX e).tail=some (k,e.2.2.1.map dat,e.2.2.2.1):=by unfold VX;show Jl (dat e.2.1::(e.2.2.1.map dat++e.2.2.2.1.map Lib.itoa))=_;unfold Jl;dsimp only;rw[show zl (dat e.2.1)=some k by rw[show dat e.2.1=kw k from a.kind];exact qZ k];dsimp only;have b:=a.names;have c:=a.vals;rw[jTj (by simp;omega),List.take_left' (by simp;exact b),List.drop_left' (by simp;exact b),Qi8 a.name,jBj,QhV a.val,jBj]
theorem Qe8 {e:Ev}{k:Ki}(a:Good e k):chk e=0:=by unfold chk;rw[jTj (WS.2 a.num),a.kind,qZ];dsimp only;rw[jTj ⟨a.names,a.vals⟩,jTj (List.all_eq_true.2 a.name),jTj (show e.2.2.2.1.all valB=true from List.all_eq_true.2 fun v b=>jDj (WS.2 (a.val v b))),jTj a.text]
theorem QgT {e:Ev}{k:Ki}(c:Good e k):evOf e.1 (k,e.2.2.1.map dat,e.2.2.2.1)=e:=by
 obtain⟨m,d,ns,vs,a⟩:=e;have f:d=mkS (kw k):=by rw[<-UA d];exact congrArg mkS c.kind
 have g:a=⟨#[]⟩:=by have h:a.size=0:=c.text;have b:a.data.toList=[]:=List.eq_nil_of_length_eq_zero (by rw[dlen];exact h);rw[<-UA a,b];rfl
 unfold evOf;dsimp only;have b:(ns.map dat).map mkS=ns:=by
  rw[List.map_map];conv=>rhs;rw[<-List.map_id ns]
  exact List.map_congr_left fun s _=>UA s
 rw[f,g,b]
def AllG (l:List Ev):Prop:=∀e,e∈l->∃k,Good e k
def cmdL (e:Ev):Wrd:=Lib.join (VX e).tail [32]
theorem Qiw (e:Ev):Qf5 e=Lib.itoa e.1++32::cmdL e:=by unfold Qf5 cmdL VX;rw[Lib.join_cons,List.tail_cons,Lib.join_cons];simp[Lib.joinTail]
theorem Qf3 {e:Ev}{k:Ki}(a:Good e k):spl 32 (cmdL e)=(VX e).tail:=by unfold cmdL;rw[<-Qbp];exact Qc6 32 _ (by unfold VX;simp) fun w b hc=>absurd (QcQ a w (List.mem_of_mem_tail b) 32 hc) (by decide)
def UP:List Wrd:=[[115,116,97,116,101],[114,97,116,101],[97,105,109,101,100],[98,111,111,107,115],[111,102,102,101,114,115],[100,105,114,116],[99,111,117,110,116]]
theorem QhY (k:Ki):∀q,q∈UP->kw k≠q:=by cases k<;>decide
theorem QiM (k:Ki):¬(W5 (.string (mkS (kw k))) tab2).isSome=true:=by cases k<;>(show ¬(none:Option D).isSome=true;decide)
theorem wc {e:Ev}{k:Ki}(a:Good e k):Short e:=by
 have h:=jN k;have c:=a.names;have d:=a.vals;have f:=QhZ k;have g:=a.text;refine⟨?_,by omega,by omega,by omega,fun s b=>?_⟩
 ·rw[<-dlen];show e.2.1.data.toList.length<=40;rw[a.kind];omega
 ·have:=a.name s b;unfold Yw at this;simp only[jAj,decide_eq_true_eq] at this;omega
theorem Qf4 {e:Ev}{k:Ki}(b:Good e k):0<(cmdL e).length/\(cmdL e).length<=300:=by
 have a:=Qiv b;rw[Qiw] at a;simp only[jaj,List.length_cons] at a;refine⟨?_,by omega⟩;unfold cmdL VX;rw[List.tail_cons,Lib.join_cons,jaj];have:0<(dat e.2.1).length:=by rw[show dat e.2.1=kw k from b.kind];cases k<;>decide
 omega
theorem Qcu {n:Nat}(c:3000<=n){l:Wrd}(a:0<l.length)(b:l.length<=2000):QD (decide (((mkS l).size:Int)>4096)) 26=0/\QD ((mkS l).toList==(⟨#[]⟩:jSj).toList) 25=0:=by
 refine⟨?_,?_⟩
 ·rw[Qp,jEj (by omega)];rfl
 ·rw[zf,jEj (fun e=>by rw[e] at a;simp at a)];rfl
theorem Qiq {n:Nat}(q:3000<=n){evs:jVj}(J:evs.length<=900){b:List Ev}(s:OkL b)(hc:b.length<=990){e:Ev}{k:Ki}(c:Good e k)(h:Uk evs.length b e=0) :
  Qj n (mkS (cmdL e)) evs (b.map Q5) (QN b).tick (QN b).level (QN b).filled (QN b).tripped (QN b).light (QN b).heat (QN b).money ((QN b).sectors.map Sd) ((QN b).mirrors.map Q1) ((QN b).offers.map Zs) =
   some (mkS ([100,111,110,101,32]++Lib.itoa e.1),0,VJ (evs++[Q5 e]) ((YV b e).map Q5) (QN (YV b e))):=by
 obtain⟨_,_,l,_⟩:=jY h;obtain⟨C,K⟩:=Qf4 c;obtain⟨G,H⟩:=Qcu q C (by omega);have m:=Qf3 c;have j:=Qb8 (p:=cmdL e) (by omega);rw[m] at j;have z:(VX e).tail=kw k::(e.2.2.1.map dat++e.2.2.2.1.map Lib.itoa):=by unfold VX;rw[List.tail_cons,show dat e.2.1=kw k from c.kind]
 have o:el Vg (((VX e).tail).map eS) 0=some (mkS (kw k)):=by rw[z];exact Qby (i:=0) rfl
 obtain⟨E,f,g,F⟩:=yM (a:=mkS (kw k)) (k:=k) (VN _);have d:=QhY k;have A:=(Qaa (VX e).tail).1 k _ _ (ur c);have hev:Yj n ((evs.length:Int)+1) ((VX e).tail.map eS)=some (e.1,e.2.1,e.2.2.1.map Sd,e.2.2.2.1.map I,e.2.2.2.2,true):=by have r:=QgT c;have u:mkS (kw k)=e.2.1:=congrArg (fun x:Ev=>x.2.1) r;have v:(⟨#[]⟩:jSj)=e.2.2.2.2:=congrArg (fun x:Ev=>x.2.2.2.2) r;rw[uZ q _ j,A];dsimp only;rw[u,v,map_dat,l]
 unfold Qj;rw[QR,jBj,QR,jBj,G,H,W4 (by omega),jBj,jTj (by rfl),ue q (by omega),m,jBj,o,jBj,VN];rw[jFj (d _ (by simp[UP])),jFj (d _ (by simp[UP])),jFj (d _ (by simp[UP])),jFj (d _ (by simp[UP])),jFj (d _ (by simp[UP])),jFj (d _ (by simp[UP])),jFj (d _ (by simp[UP]))];rw[jTj (QiM k),jTj E,F,jBj,jTj (i64 (by omega) (by omega)),hev,jBj];dsimp only;rw[QR,jBj,QR,jBj,show QD (!true) 25=0 from rfl,show QD (decide ((evs.length:Int)>=1000)) 5=0 by rw[jEj (by omega)];rfl,W4 (by omega),jBj,jTj (by rfl),VS (by omega) e ((wc c).w (by omega)),Qe8 c,jBj,jTj rfl,jl (by omega) s hc (by omega) (Qe8 c),h,jBj,jTj rfl,addE (by omega) s hc (by omega) ((wc c).w (by omega)) h,jBj,uH n (i64 (by omega) (by omega)),jBj];have t:(⟨#[100,111,110,101,32]⟩:jSj)=mkS [100,111,110,101,32]:=rfl;have y:=qa (n:=e.1) (by omega) (by have:=c.num;omega);rw[t,jTj (by rw[Qp,Qp];simp;omega),Qat]
def ansL (wsx:List Wrd):Wrd:=if wsx=[] then[110,111,110,101] else Lib.join wsx [32]
theorem Qh5 (b:Nat)(wsx:List Wrd)(h:∀w,w∈wsx->w.length<=b):(Lib.join wsx [32]).length<=(b+1)*wsx.length:=by
 cases wsx with
 | nil=>simp[Lib.join_nil]
 | cons w l =>
  have c:=h w jMj;have d:=ub b l fun x a=>h x (jmj _ a);rw[Lib.join_cons,jaj,List.length_cons,Nat.mul_add];omega
theorem wp {S:Type}{n:Nat}{wsx:List Wrd}(a:S)(b:wsx.length<=1000)(c:∀w,w∈wsx->w.length<=900):(if((wsx.map eS).length:Int)=0 then some ((⟨#[110,111,110,101]⟩:jSj),(0:Int),a) else(ZI n (wsx.map eS) ⟨#[32]⟩).bind fun t=>some (t,0,a))=some (mkS (ansL wsx),0,a):=by
 unfold ansL;by_cases h:wsx=[]
 ·rw[jTj (by rw[h];rfl),jTj h];rfl
 ·have e:0<wsx.length:=List.length_pos_iff.2 h;have d:=Qh5 900 wsx c;have f:901*wsx.length<=901*1000:=Nat.mul_le_mul_left _ b;have:=Qje n wsx [32] (by omega) (by omega);rw[jFj (by rw[jlj];omega),jFj h,show ZI n (wsx.map eS) ⟨#[32]⟩=_ from this,jBj]
def SzR (r:Reg):Prop:=(∀m,m∈r.mirrors->m.1.size<=24)/\∀o,o∈r.offers->o.1.size<=24
theorem QfX {ns:List jSj}(h:∀s,s∈ns->s.size<=24)(i:Nat):(ns.getD i ⟨#[]⟩).size<=24:=by
 rw[List.getD_eq_getElem?_getD];cases hx:ns[i]? with
 | none=>show 0<=24;omega
 | some s=>exact h s (jgj hx)
theorem jL {ms:List Mir}(h:∀m,m∈ms->m.1.size<=24)(a:jSj):(mAt ms a).1.size<=24:=by
 unfold mAt;rw[List.getD_eq_getElem?_getD];cases hx:ms[iM ms a]? with
 | none=>show zM.1.size<=24;decide
 | some s=>exact h s (jgj hx)
theorem Qj4 {os:List Off}(h:∀m,m∈os->m.1.size<=24)(a:jSj):(oAt os a).1.size<=24:=by
 unfold oAt;rw[List.getD_eq_getElem?_getD];cases hx:os[iO os a]? with
 | none=>show zO.1.size<=24;decide
 | some s=>exact h s (jgj hx)
theorem QjS {r:Reg}(l:SzR r)(k:Ki){ns:List jSj}(g:∀s,s∈ns->s.size<=24)(vs:List Int):SzR (act k r ns vs):=by
 obtain⟨b,c⟩:=l;have setM:∀{a:jSj} {m:Mir},m.1.size<=24->SzR (chgM r a m):=fun d=>⟨fun x e=>by
  obtain h|h:=List.mem_or_eq_of_mem_set e
  ·exact b x h
  ·rw[h];exact d,c⟩
 have setO:∀{a:jSj} {o:Off} {q:Reg},SzR q->o.1.size<=24->SzR (chgO q a o):=fun i d=>⟨i.1,fun x e=>by
  obtain h|h:=List.mem_or_eq_of_mem_set e
  ·exact i.2 x h
  ·rw[h];exact d⟩
 have mapM:∀{f:Mir->Mir},(∀m,(f m).1=m.1)->∀m,m∈r.mirrors.map f->m.1.size<=24:=fun j m d=>by obtain⟨x,e,rfl⟩:=List.mem_map.1 d;rw[j];exact b x e
 cases k<;>unfold act<;>dsimp only;case sector=>exact⟨b,c⟩
 case mirror =>
  refine⟨fun m d=>?_,c⟩;obtain h|h:=List.mem_append.1 d
  ·exact b m h
  ·rw[List.mem_singleton.1 h];exact QfX g 0
 case soil=>exact setM (jL b _)
 case clean=>exact setM (jL b _)
 case defect=>exact setM (jL b _)
 case repair=>exact setM (jL b _)
 case aim=>exact setM (jL b _)
 case park=>exact setM (jL b _)
 case dim=>exact⟨mapM fun m=>by unfold kf;split<;>rfl,c⟩
 case sun=>exact⟨b,c⟩
 case fill=>exact⟨b,c⟩
 case drain=>exact⟨b,c⟩
 case trip=>exact⟨mapM fun m=>rfl,c⟩
 case reset=>exact⟨b,c⟩
 case offer =>
  refine⟨b,fun m d=>?_⟩;obtain h|h:=List.mem_append.1 d
  ·exact c m h
  ·rw[List.mem_singleton.1 h];exact QfX g 0
 all_goals first|exact⟨b,c⟩|exact setO ⟨b,c⟩ (Qj4 c _)
theorem Qho {l:List Ev}(h:OkL l):∀j,j<=l.length->SzR (QN (l.take j))
 | 0,_=>⟨fun m a=>(by cases a),fun m a=>(by cases a)⟩
 | j+1,hj=>by have d:=Qho h j (by omega);have c:l[j]?=some l[j]:=jej (by omega);obtain⟨k,_,b,_⟩:=h j _ c;rw[List.take_add_one,c];show SzR (QN (l.take j++[l[j]]));rw[Kx,JX b];refine QjS (r:=bkd _ _) ⟨d.1,d.2⟩ k (fun s e=>?_) _;have:=b.name s e;unfold Yw at this;simp only[jAj,decide_eq_true_eq] at this;omega
theorem QjR {l:List Ev}(h:OkL l):SzR (QN l):=by have:=Qho h l.length (jLj _);rwa [List.take_length] at this
theorem YD {n:Int}(h:Qg n):(Lib.itoa n).length<=20:=by
 unfold Qg at h;unfold Lib.itoa;split
 ·have:=(qi n.natAbs).2.2.2.2 19 (by decide) (by omega);simp only[List.length_cons];omega
 ·have:=(qi n.toNat).2.2.2.2 19 (by decide) (by omega);omega
theorem QiC {r:Reg}(h:SzR r):∀w,w∈Qay r->w.length<=900:=fun w c=>by obtain⟨s,a,rfl⟩:=List.mem_map.1 c;unfold kD at a;obtain⟨m,b,rfl⟩:=List.mem_map.1 a;have:=h.1 m (List.mem_filter.1 b).1;show m.1.data.toList.length<=900;rw[dlen];omega
theorem Qgx {c:Nat}{r:Reg}(h:SzR r)(e:Inv c r):∀w,w∈Es r->w.length<=900:=fun w a=>by
 unfold Es at a;rw[kV] at a;obtain⟨o,b,a⟩:=List.mem_flatMap.1 a;have b:=(List.mem_filter.1 b).1;have f:=Kg (e.offs o b);unfold opW at a;obtain d|d:=List.mem_cons.1 a
 ·rw[d];have:=h.2 o b;show o.1.data.toList.length<=900;rw[dlen];omega
 ·rw[List.mem_singleton.1 d];have:=YD (n:=WC o) (i64 (by omega) (by omega));omega
theorem QeB (r:Reg):(Es r).length<=2*r.offers.length:=by
 unfold Es;induction r.offers with
 | nil=>simp
 | cons o l ih =>
  rw[List.flatMap_cons,jaj,List.length_cons];have:(opOf o).length<=2:=by unfold opOf;split<;>simp
  omega
def askA (r:Reg)(b:Wrd):Option (Wrd×Int) :=
 match spl 32 b with
 | [w] =>
  if w=[115,116,97,116,101] then some (ansL (Qav r),0)
  else if w=[114,97,116,101] then some (ansL (Qf8 r),0)
  else if w=[97,105,109,101,100] then some (ansL (Qay r),0)
  else if w=[98,111,111,107,115] then some (ansL (Qax r),0)
  else if w=[111,102,102,101,114,115] then some (ansL (Es r),0)
  else if w=[100,105,114,116]\/w=[99,111,117,110,116] then some ([],25)
  else none
 | [w,a] =>
  if w=[100,105,114,116] then some (if a=[] then([],25) else if ZG (nmM r.mirrors) (mkS a)=true then(ansL (Qf9 r (mkS a)),0) else([],10))
  else if w=[99,111,117,110,116] then some (if a=[] then([],25) else if ZG r.sectors (mkS a)=true then(ansL (Qaw r (mkS a)),0) else([],10))
  else if w∈UP then some ([],25) else none
 | w::_=>if w∈UP then some ([],25) else none
 | []=>none
theorem Qkj {n:Nat}(C:3000<=n){l:Wrd}(U:0<l.length)(M:l.length<=2000)(evs f:jVj){c:Nat}{r:Reg}(j:Inv c r)(hc:c<=992)(T:SzR r){a:Wrd×Int}(e:askA r l=some a) :
  Qj n (mkS l) evs f r.tick r.level r.filled r.tripped r.light r.heat r.money (r.sectors.map Sd) (r.mirrors.map Q1) (r.offers.map Zs)=some (mkS a.1,a.2,VJ evs f r):=by
 obtain⟨z1,z2⟩:=Qcu C U M;have W:=j.lenM;have Y:=j.lenO;have S:=j.secs;have G:=Qb8 (p:=l) M;unfold Qj;rw[QR,jBj,QR,jBj,z1,z2,W4 (by omega),jBj,jTj (by rfl),ue C M,jBj];unfold askA at e;cases hs:spl 32 l with
 | nil=>exact absurd hs (zK 32 l)
 | cons w wsx =>
  rw[hs] at e G;have O:el Vg ((w::wsx).map eS) 0=some (mkS w):=Qby (i:=0) rfl;have H:=G.1;simp only[List.length_cons] at H;have y:(0:Int)<=1/\1<=((((w::wsx).map eS)).length:Int)/\((((w::wsx).map eS)).length:Int)<=((((w::wsx).map eS)).length:Int)/\((w::wsx).map eS=[]\/1=1):=⟨by decide,by simp;omega,Int.le_refl _,.inr rfl⟩
  have N:((w::wsx).map eS).drop (Int.toNat 1)=wsx.map eS:=rfl;have Z:((wsx.map eS).length:Int)=(wsx.length:Int):=by rw[jlj]
  rw[O,jBj,VN,N];have many:∀{X:Option (jSj×Int×AddT)},wsx≠[]->(if(0:Int)<=1/\1<=((((w::wsx).map eS)).length:Int)/\((((w::wsx).map eS)).length:Int)<=((((w::wsx).map eS)).length:Int)/\((w::wsx).map eS=[]\/1=1) then(if((wsx.map eS).length:Int)>0 then some ((⟨#[]⟩:jSj),(25:Int),VJ evs f r) else X) else none)=some (mkS [],25,VJ evs f r):=fun J=>by have:0<wsx.length:=List.length_pos_iff.2 J;rw[jTj y,jTj (by omega)];rfl
  have g:∀{X:Option (jSj×Int×AddT)},wsx=[]->(if(0:Int)<=1/\1<=((((w::wsx).map eS)).length:Int)/\((((w::wsx).map eS)).length:Int)<=((((w::wsx).map eS)).length:Int)/\((w::wsx).map eS=[]\/1=1) then(if((wsx.map eS).length:Int)>0 then some ((⟨#[]⟩:jSj),(25:Int),VJ evs f r) else X) else none)=X:=fun Q=>by rw[jTj y,jFj (by rw[Q];decide)]
  have m:∀{X:Option (jSj×Int×AddT)},wsx.length≠1->(if(0:Int)<=1/\1<=((((w::wsx).map eS)).length:Int)/\((((w::wsx).map eS)).length:Int)<=((((w::wsx).map eS)).length:Int)/\((w::wsx).map eS=[]\/1=1) then(if((wsx.map eS).length:Int)=1 then X else some ((⟨#[]⟩:jSj),(25:Int),VJ evs f r)) else none)=some (mkS [],25,VJ evs f r):=fun J=>by rw[jTj y,jFj (by omega)];rfl
  have L:∀{X:Option (jSj×Int×AddT)},wsx.length=1->(if(0:Int)<=1/\1<=((((w::wsx).map eS)).length:Int)/\((((w::wsx).map eS)).length:Int)<=((((w::wsx).map eS)).length:Int)/\((w::wsx).map eS=[]\/1=1) then(if((wsx.map eS).length:Int)=1 then X else some ((⟨#[]⟩:jSj),(25:Int),VJ evs f r)) else none)=X:=fun Q=>by rw[jTj y,jTj (by omega)]
  by_cases k1:w=[115,116,97,116,101]
  ·rw[jTj k1];match wsx,e with
   | [],e =>
    dsimp only at e;rw[jTj k1] at e;cases e;refine(g rfl).trans ?_;rw[QiR n _ _ _ j,jBj];exact wp (VJ evs f r) (by simp[Qav]) (fun x q=>by
     simp only[Qav,List.mem_cons,List.not_mem_nil,or_false] at q;obtain rfl|rfl|rfl:=q
     ·unfold QbP;split<;>decide
     ·unfold Qhh;split<;>decide
     ·have:=YD (n:=r.level) (i64 (by have:=j.level;omega) (by have:=j.level;omega));omega)
   | [b],e =>
    dsimp only at e;rw[jFj (by rw[k1];decide),jFj (by rw[k1];decide),jTj (by rw[k1];decide)] at e;cases e;exact many (by simp)
   | b::d::z,e =>
    dsimp only at e;rw[jTj (by rw[k1];decide)] at e;cases e;exact many (by simp)
  rw[jFj k1];by_cases k:w=[114,97,116,101]
  ·rw[jTj k];match wsx,e with
   | [],e =>
    dsimp only at e;rw[jFj k1,jTj k] at e;cases e;refine(g rfl).trans ?_;rw[QjV C _ _ _ j hc,jBj];have F:=Qdj j hc;exact wp (VJ evs f r) (by simp[Qf8]) (fun x q=>by rw[show x=Lib.itoa (zP r) from List.mem_singleton.1 q];have:=YD (n:=zP r) (i64 (by omega) (by omega));omega)
   | [b],e =>
    dsimp only at e;rw[jFj (by rw[k];decide),jFj (by rw[k];decide),jTj (by rw[k];decide)] at e;cases e;exact many (by simp)
   | b::d::z,e =>
    dsimp only at e;rw[jTj (by rw[k];decide)] at e;cases e;exact many (by simp)
  rw[jFj k];by_cases o:w=[97,105,109,101,100]
  ·rw[jTj o];match wsx,e with
   | [],e =>
    dsimp only at e;rw[jFj k1,jFj k,jTj o] at e;cases e;refine(g rfl).trans ?_;rw[QiU C _ _ _ j hc,jBj];exact wp (VJ evs f r) (by unfold Qay kD;have:(r.mirrors.filter isA).length<=r.mirrors.length:=List.length_filter_le _ _;simp only[jlj];omega) (QiC T)
   | [b],e =>
    dsimp only at e;rw[jFj (by rw[o];decide),jFj (by rw[o];decide),jTj (by rw[o];decide)] at e;cases e;exact many (by simp)
   | b::d::z,e =>
    dsimp only at e;rw[jTj (by rw[o];decide)] at e;cases e;exact many (by simp)
  rw[jFj o];by_cases s:w=[98,111,111,107,115]
  ·rw[jTj s];match wsx,e with
   | [],e =>
    dsimp only at e;rw[jFj k1,jFj k,jFj o,jTj s] at e;cases e;refine(g rfl).trans ?_;rw[QiT C _ _ _ j hc,jBj];exact wp (VJ evs f r) (by simp[Qax]) (fun x q=>by
     simp only[Qax,List.mem_cons,List.not_mem_nil,or_false] at q;obtain rfl|rfl|rfl:=q
     ·have:=YD (n:=r.light) (by unfold Qg;have:=j.light;omega);omega
     ·have:=YD (n:=r.heat) (by unfold Qg;have:=j.heat;omega);omega
     ·have:=YD (QfM j hc);omega)
   | [b],e =>
    dsimp only at e;rw[jFj (by rw[s];decide),jFj (by rw[s];decide),jTj (by rw[s];decide)] at e;cases e;exact many (by simp)
   | b::d::z,e =>
    dsimp only at e;rw[jTj (by rw[s];decide)] at e;cases e;exact many (by simp)
  rw[jFj s];by_cases u:w=[111,102,102,101,114,115]
  ·rw[jTj u];match wsx,e with
   | [],e =>
    dsimp only at e;rw[jFj k1,jFj k,jFj o,jFj s,jTj u] at e;cases e;refine(g rfl).trans ?_;rw[QhC C _ _ _ j hc,jBj];exact wp (VJ evs f r) (by have:=QeB r;omega) (Qgx T j)
   | [b],e =>
    dsimp only at e;rw[jFj (by rw[u];decide),jFj (by rw[u];decide),jTj (by rw[u];decide)] at e;cases e;exact many (by simp)
   | b::d::z,e =>
    dsimp only at e;rw[jTj (by rw[u];decide)] at e;cases e;exact many (by simp)
  rw[jFj u];by_cases A:w=[100,105,114,116]
  ·rw[jTj A];match wsx,e with
   | [],e =>
    dsimp only at e;rw[jFj k1,jFj k,jFj o,jFj s,jFj u,jTj (.inl A)] at e;cases e;exact m (by simp)
   | [b],e =>
    dsimp only at e;rw[jTj A] at e;cases e;refine(L rfl).trans ?_;have F:el Vg (([b]:List Wrd).map eS) 0=some (mkS b):=Qby (i:=0) rfl;rw[F,jBj,zf];by_cases v:b=[]
    ·rw[jTj (jDj v),jTj v];rfl
    rw[jFj (by simpa using v),jFj v,UE r.mirrors (by omega) (by omega),jBj,Wp _ _ (by rw[Zh];omega) (by rw[Zh];omega),jBj];by_cases t:ZG (nmM r.mirrors) (mkS b)=true
    ·rw[jTj t,jTj t,QjW C _ _ j hc t,jBj];obtain⟨_,_,V⟩:=VM t;have P:=j.mirs _ (jgj V);unfold okM at P;exact wp (VJ evs f r) (by simp[Qf9]) (fun x q=>by rw[show x=Lib.itoa (mAt r.mirrors (mkS b)).2.2.2.1 from List.mem_singleton.1 q];have:=YD (n:=(mAt r.mirrors (mkS b)).2.2.2.1) (i64 (by omega) (by omega));omega)
    ·rw[jFj t,jFj t];rfl
   | b::d::z,e =>
    dsimp only at e;rw[jTj (by rw[A];decide)] at e;cases e;exact m (by simp)
  rw[jFj A];by_cases E:w=[99,111,117,110,116]
  ·rw[jTj E];match wsx,e with
   | [],e =>
    dsimp only at e;rw[jFj k1,jFj k,jFj o,jFj s,jFj u,jTj (.inr E)] at e;cases e;exact m (by simp)
   | [b],e =>
    dsimp only at e;rw[jFj A,jTj E] at e;cases e;refine(L rfl).trans ?_;have F:el Vg (([b]:List Wrd).map eS) 0=some (mkS b):=Qby (i:=0) rfl;rw[F,jBj,zf];by_cases v:b=[]
    ·rw[jTj (jDj v),jTj v];rfl
    rw[jFj (by simpa using v),jFj v,Wp r.sectors _ (by omega) (by omega),jBj];by_cases t:ZG r.sectors (mkS b)=true
    ·rw[jTj t,jTj t,QiS C _ _ j hc,jBj];have F:=Qf2 (mkS b) r.mirrors;exact wp (VJ evs f r) (by simp[Qaw]) (fun x q=>by
      simp only[Qaw,List.mem_cons,List.not_mem_nil,or_false] at q;obtain rfl|rfl:=q
      ·have:=YD (n:=(ki (mkS b) r.mirrors).1) (i64 (by omega) (by omega));omega
      ·have:=YD (n:=(ki (mkS b) r.mirrors).2) (i64 (by omega) (by omega));omega)
    ·rw[jFj t,jFj t];rfl
   | b::d::z,e =>
    dsimp only at e;rw[jTj (by rw[E];decide)] at e;cases e;exact m (by simp)
  have K:¬w∈UP:=fun h=>by
   simp only[UP,List.mem_cons,List.not_mem_nil,or_false] at h;obtain h|h|h|h|h|h|h:=h
   ·exact k1 h
   ·exact k h
   ·exact o h
   ·exact s h
   ·exact u h
   ·exact A h
   ·exact E h
  match wsx,e with
  | [],e=>dsimp only at e;rw[jFj k1,jFj k,jFj o,jFj s,jFj u,jFj (fun h=>h.elim A E)] at e;cases e
  | [b],e=>dsimp only at e;rw[jFj A,jFj E,jFj K] at e;cases e
  | b::d::z,e=>dsimp only at e;rw[jFj K] at e;cases e
theorem yY (n:Nat)(a:Int):∀(k u:Nat) (t:Wrd),u<10 ^ k->u<1000000000000000000->t.length+k<=100 ->
  QU (Zw n a) (k+1) (mkS t,(u:Int))=some (mkS (zn u++t))
 | 0,u,t,hu,_,_=>by
  have:u=0:=by simpa using hu
  subst this;refine ZP ?_;unfold Zw;rfl
 | k+1,u,t,hu,hb,ht=>by
  by_cases e:u=0
  ·subst e;refine ZP ?_;unfold Zw;rfl
  ·have h:u % 10<10:=Nat.mod_lt _ (by decide);have i:=yY n a k (u / 10) (UInt8.ofNat (48+u % 10)::t) (by rw[Nat.pow_succ] at hu;omega) (by omega) (by simp;omega);have c:zn u++t=zn (u / 10)++(UInt8.ofNat (48+u % 10)::t):=by rw[kg e];simp
   rw[c,<-i];refine W8 ?_;have d:(mkS [UInt8.ofNat (48+u % 10)]).size+(mkS t).size<=9223372036854775807:=by rw[Qp,Qp];simp;omega
   have b:mkS [UInt8.ofNat (48+u % 10)]++mkS t=mkS (UInt8.ofNat (48+u % 10)::t):=Qat _ _;unfold Zw;have f:Int.tmod (u:Int) 10=((u % 10:Nat):Int):=rfl;have g:Int.tdiv (u:Int) 10=((u / 10:Nat):Int):=rfl;dsimp only;rw[jFj (by omega),f,g,jFj (by omega),Qac h,jTj (by unfold Qg;omega),jTj d,jTj (by unfold Qg;omega),b]
theorem yZ (n:Nat)(a:Int):∀(k u:Nat) (t:Wrd),u<10 ^ k->u<1000000000000000000->t.length+k<=100 ->
  QU (Zw n a) (k+1) (mkS t,-(u:Int))=some (mkS (zn u++t))
 | 0,u,t,hu,_,_=>by
  have:u=0:=by simpa using hu
  subst this;refine ZP ?_;unfold Zw;rfl
 | k+1,u,t,hu,hb,ht=>by
  by_cases f:u=0
  ·subst f;refine ZP ?_;unfold Zw;rfl
  ·have g:u % 10<10:=Nat.mod_lt _ (by decide);have j:=yZ n a k (u / 10) (UInt8.ofNat (48+u % 10)::t) (by rw[Nat.pow_succ] at hu;omega) (by omega) (by simp;omega);have c:zn u++t=zn (u / 10)++(UInt8.ofNat (48+u % 10)::t):=by rw[kg f];simp
   rw[c,<-j];refine W8 ?_;have d:(mkS [UInt8.ofNat (48+u % 10)]).size+(mkS t).size<=9223372036854775807:=by rw[Qp,Qp];simp;omega
   have b:mkS [UInt8.ofNat (48+u % 10)]++mkS t=mkS (UInt8.ofNat (48+u % 10)::t):=Qat _ _;unfold Zw;have h:Int.tmod (-(u:Int)) 10=-((u % 10:Nat):Int):=by rw[Int.neg_tmod];rfl
   have i:Int.tdiv (-(u:Int)) 10=-((u / 10:Nat):Int):=by rw[Int.neg_tdiv];rfl
   dsimp only;rw[jFj (by omega),h,i];by_cases l:u % 10=0
   ·have e:(48:Int)+-((u % 10:Nat):Int)=48+((u % 10:Nat):Int):=by omega
    rw[jFj (by omega),e,Qac g,jTj (by unfold Qg;omega),jTj d,jTj (by unfold Qg;omega),b]
   ·have e:(0:Int) - -((u % 10:Nat):Int)=((u % 10:Nat):Int):=by omega
    rw[jTj (by omega),e,Qac g,jTj (by unfold Qg;omega),jTj (by unfold Qg;omega),jTj d,jTj (by unfold Qg;omega),b]
theorem Qh6 {n:Int}(h:n<0):Lib.itoa n=45::Lib.decDigits (-n).toNat:=by unfold Lib.itoa;rw[jTj h,show n.natAbs=(-n).toNat by omega]
theorem Qd5 (u:Nat):∀k,u<10 ^ k->(zn u).length<=k
 | 0,h=>by
  have:u=0:=by simpa using h
  subst this;simp[zn]
 | k+1,h=>by
  by_cases a:u=0
  ·subst a;simp[zn]
  ·rw[kg a,jaj];have:=Qd5 (u / 10) k (by rw[Nat.pow_succ] at h;omega);simp;omega
theorem Qhn {n:Nat}(p:3000<=n){a:Int}(m : -1000000000000000000<a)(o:a<1000000000000000000):QT n a=some (mkS (Lib.itoa a)):=by
 unfold QT;by_cases i:a=0
 ·subst i;have g:Lib.itoa 0=[48]:=by rw[Ed (by decide)];show Lib.decDigits 0=_;rw[Lib.decDigits,dif_pos (by decide)];rfl
  rw[jTj rfl,g];rfl
 ·rw[jFj i];obtain⟨k,j⟩:∃k,n=19+k:=⟨n - 19,by omega⟩
  by_cases c:a<0
  ·have e:=yZ n a 18 (-a).toNat [] (by simp;omega) (by omega) (by simp);rw[show -((-a).toNat:Int)=a by omega] at e;have b:=zY _ _ e k;rw[<-j] at b;have f:zn (-a).toNat=Lib.decDigits (-a).toNat:=by unfold zn;rw[jFj (by omega)]
   have h:=Qd5 (-a).toNat 18 (by simp;omega);rw[List.append_nil,f] at b;rw[f] at h;have d:QU (Zw n a) n (⟨#[]⟩,a)=_:=b;have l:(⟨#[45]⟩:jSj)=mkS [45]:=rfl;rw[d,jBj,jTj c,Qh6 c,l,jTj (by rw[Qp,Qp];simp;omega),Qat];rfl
  ·have e:=yY n a 18 a.toNat [] (by simp;omega) (by omega) (by simp);rw[show(a.toNat:Int)=a by omega] at e;have b:=zY _ _ e k;rw[<-j] at b;have f:zn a.toNat=Lib.decDigits a.toNat:=by unfold zn;rw[jFj (by omega)]
   rw[List.append_nil,f] at b;have d:QU (Zw n a) n (⟨#[]⟩,a)=_:=b;rw[d,jBj,jFj (by omega),Ed (by omega)]
theorem Qeo {w:Wrd}(h:(W5 (.string (mkS w)) tab2).isSome=true):w∈UP:=by
 obtain⟨x,a⟩:=jJ _ _ h;unfold tab2 at a;simp only[List.mem_cons,D.tup.injEq,List.cons.injEq,D.v.injEq,Value.string.injEq,List.not_mem_nil,or_false] at a;have c:∀{b:jSj},mkS w=b->w=b.data.toList:=fun e=>by rw[<-e,VN]
 unfold UP;obtain h|h|h|h|h|h|h:=a<;>rw[c h.1]<;>decide
theorem QjK {r:Reg}{l w:Wrd}{wsx:List Wrd}(g:spl 32 l=w::wsx):askA r l=none↔w∉UP:=by
 unfold askA;rw[g];match wsx with
 | [] =>
  dsimp only;constructor
  ·intro h a;simp only[UP,List.mem_cons,List.not_mem_nil,or_false] at a;obtain rfl|rfl|rfl|rfl|rfl|rfl|rfl:=a<;>simp at h
  ·intro a;simp only[UP,List.mem_cons,List.not_mem_nil,or_false,not_or] at a;obtain⟨k1,i,j,k,m,c,f⟩:=a;rw[jFj k1,jFj i,jFj j,jFj k,jFj m,jFj (by rintro(h|h);exact c h;exact f h)]
 | [b] =>
  dsimp only;constructor
  ·intro h a;simp only[UP,List.mem_cons,List.not_mem_nil,or_false] at a;obtain rfl|rfl|rfl|rfl|rfl|rfl|rfl:=a<;>simp[UP] at h
  ·intro a;have c:w≠[100,105,114,116]:=fun e=>a (by rw[e];decide);have f:w≠[99,111,117,110,116]:=fun e=>a (by rw[e];decide);rw[jFj c,jFj f,jFj a]
 | b::d::z =>
  dsimp only;constructor
  ·intro h a;rw[jTj a] at h;cases h
  ·intro a;rw[jFj a]
def evP (i:Nat)(t:Tri):Ev:=((i:Int)+1,mkS (kw t.1),t.2.1.map mkS,t.2.2,⟨#[]⟩)
def doA (i:Nat)(b:List Ev)(l:Wrd):Option Ev×Wrd×Int :=
 if l.length>4096 then(none,[],26)
 else if l=[] then(none,[],25)
 else match askA (QN b) l with
  | some a=>(none,a.1,a.2)
  | none=>match zl ((spl 32 l).headD []) with
   | none=>(none,[],13)
   | some _=>match Jl (spl 32 l) with
    | none=>(none,[],25)
    | some t=>if Uk i b (evP i t)=0 then(some (evP i t),[100,111,110,101,32]++Lib.itoa ((i:Int)+1),0) else(none,[],Uk i b (evP i t))
theorem Qjm (i:Nat)(t:Tri):(evP i t).2.2.1.map Sd=t.2.1.map eS:=by unfold evP;rw[List.map_map];rfl
theorem Qjl {n i:Nat}(k:3000<=n){L:List Wrd}(d:OkW L){t:Tri}(hp:Jl L=some t):Shw n (evP i t):=by
 obtain⟨g,h,w,b,f,_,_,c,_⟩:=Qey hp;have j:=jN t.1;refine⟨?_,?_,fun s e=>?_⟩
 ·show(t.2.1.map mkS).length<=6;rw[jlj];omega
 ·show t.2.2.length<=8;omega
 ·obtain⟨x,a,rfl⟩:=List.mem_map.1 (show s∈t.2.1.map mkS from e);rw[c] at a;have:=d.2 x (by rw[f];exact jmj _ (List.mem_of_mem_take a));rw[Qp];omega
theorem QiV {n:Nat}(q:3000<=n){evs b:List Ev}(F:OkL b)(hc:b.length<=980)(V:evs.length<=980){l:Wrd}(W:l.length<=2000\/l.length=4097) :
  Qj n (mkS l) (evs.map Q5) (b.map Q5) (QN b).tick (QN b).level (QN b).filled (QN b).tripped (QN b).light (QN b).heat (QN b).money ((QN b).sectors.map Sd) ((QN b).mirrors.map Q1) ((QN b).offers.map Zs) =
   some (mkS (doA evs.length b l).2.1,(doA evs.length b l).2.2,match (doA evs.length b l).1 with
    | none=>VJ (evs.map Q5) (b.map Q5) (QN b)
    | some e=>VJ (evs.map Q5++[Q5 e]) ((YV b e).map Q5) (QN (YV b e))):=by
 unfold doA;by_cases E:l.length>4096
 ·have A:QD (decide (((mkS l).size:Int)>4096)) 26=26:=by rw[Qp,jDj (by omega)];rfl
  have C:QD ((mkS l).toList==(⟨#[]⟩:jSj).toList) 25=0:=by rw[zf,jEj (fun e=>by rw[e] at E;simp at E)];rfl
  unfold Qj;rw[jTj E,QR,jBj,QR,jBj,A,C,W4 (by omega),jBj,jFj (by decide)];rfl
 rw[jFj E];have m:l.length<=2000:=by omega
 by_cases H:l=[]
 ·subst H;have A:QD (decide (((mkS []).size:Int)>4096)) 26=0:=by rw[Qp];rfl
  have C:QD ((mkS []).toList==(⟨#[]⟩:jSj).toList) 25=25:=by rw[zf,jDj rfl];rfl
  unfold Qj;rw[jTj rfl,QR,jBj,QR,jBj,A,C,W4 (by omega),jBj,jFj (by decide)];rfl
 rw[jFj H];have P:0<l.length:=List.length_pos_iff.2 H;have u:=qR F (by omega);cases ha:askA (QN b) l with
 | some a=>exact Qkj q P m (evs.map Q5) (b.map Q5) u (by omega) (QjR F) ha
 | none =>
  dsimp only;obtain⟨w,wsx,G⟩:∃w wsx,spl 32 l=w::wsx:=by
   cases h:spl 32 l with
   | nil=>exact absurd h (zK 32 l)
   | cons w wsx=>exact⟨w,wsx,rfl⟩
  have o:=(QjK (r:=QN b) G).1 ha;have J:el Vg ((w::wsx).map eS) 0=some (mkS w):=Qby (i:=0) rfl;have j:=Qb8 (p:=l) m;rw[G] at j;obtain⟨A,C⟩:=Qcu q P m;rw[G];unfold Qj;rw[QR,jBj,QR,jBj,A,C,W4 (by omega),jBj,jTj (by rfl),ue q m,G,jBj,J,jBj,VN];rw[jFj (fun e=>o (by rw[e];decide)),jFj (fun e=>o (by rw[e];decide)),jFj (fun e=>o (by rw[e];decide)),jFj (fun e=>o (by rw[e];decide)),jFj (fun e=>o (by rw[e];decide)),jFj (fun e=>o (by rw[e];decide)),jFj (fun e=>o (by rw[e];decide))];rw[jTj (fun h=>o (Qeo h))];have K:(w::wsx).headD []=w:=rfl;rw[K];cases hkd:zl w with
  | none =>
   rw[jFj (fun h=>by obtain⟨k,v⟩:=jw h;rw[VN] at v;exact jQ hkd k v)]
   rfl
  | some k =>
   obtain⟨T,f,g,U⟩:=yM (a:=mkS w) (k:=k) (by rw[VN];exact JV hkd);have O:QD (decide ((((evs.map Q5).length:Nat):Int)>=1000)) 5=0:=by rw[jEj (by rw[jlj];omega)];rfl
   rw[jTj T,U,jBj,jTj (i64 (by omega) (by rw[jlj];omega))];cases hp:Jl (w::wsx) with
   | none =>
    have M:=(Qaa (w::wsx)).2 hp;rw[uZ q _ j,jBj];have L:∀x:jSj×List Wrd×List Int×Bool,evX (w::wsx)=some x->x.2.2.2=false:=fun x N=>M x.1 x.2.1 x.2.2.1 x.2.2.2 N;cases hev:evX (w::wsx) with
    | none =>
     dsimp only;rw[QR,jBj,QR,jBj,show QD (!false) 25=25 from rfl,O,W4 (by omega),jBj,jFj (by decide)];rfl
    | some x =>
     have:=L x hev;dsimp only;rw[this,QR,jBj,QR,jBj,show QD (!false) 25=25 from rfl,O,W4 (by omega),jBj,jFj (by decide)];rfl
   | some t =>
    have M:=(Qaa (w::wsx)).1 t.1 t.2.1 t.2.2 hp;have y:=Qjl (i:=evs.length) q j hp;have hev:Yj n (((evs.map Q5).length:Int)+1) ((w::wsx).map eS)=some ((evP evs.length t).1,(evP evs.length t).2.1,(evP evs.length t).2.2.1.map Sd,(evP evs.length t).2.2.2.1.map I,(evP evs.length t).2.2.2.2,true):=by rw[uZ q _ j,M,Qjm,jlj];rfl
    have d:(evs.map Q5).length=evs.length:=jlj _;rw[hev,jBj];dsimp only;rw[QR,jBj,QR,jBj,show QD (!true) 25=0 from rfl,O,W4 (by omega),jBj,jTj (by rfl),VS (by omega) _ y,jBj];by_cases z:chk (evP evs.length t)=0
    ·rw[jTj z,jl (by omega) F (by omega) (by rw[d];omega) z,jBj,d];by_cases c:Uk evs.length b (evP evs.length t)=0
     ·have s:=addE (n:=n) (by omega) F (by omega) (evs:=evs.map Q5) (by rw[d];omega) y (by rw[d];exact c);have Q:(⟨#[100,111,110,101,32]⟩:jSj)=mkS [100,111,110,101,32]:=rfl;have S:=qa (n:=(evs.length:Int)+1) (by omega) (by omega);rw[jTj c,jTj c,s,jBj,show(evP evs.length t).1=(evs.length:Int)+1 from rfl,uH n (i64 (by omega) (by omega)),jBj,Q,jTj (by rw[Qp,Qp];simp;omega),Qat]
     ·rw[jFj c,jFj c];rfl
    ·have c:Uk evs.length b (evP evs.length t)=chk (evP evs.length t):=by unfold Uk;rw[jFj z]
     rw[jFj z,c,jFj z];rfl
theorem Qa7:∀(l s:List Ev),Kw (E:=jVj) (fun(s:List Ev) (e:Ev)=>.inl (s++[e])) (fun s=>s.map Q5) l s=(s++l).map Q5
 | [],s=>by simp[Kw]
 | e::l,s=>by show Kw _ _ l (s++[e])=_;rw[Qa7 l (s++[e])];simp
theorem Qgp {n:Nat}(C:3000<=n)(l:List Ev)(v:∀e,e∈l->e.2.2.1.length<=60/\e.2.2.2.1.length<=60)(A:l.length<=990)(d:jVj)(f g:Int)(h j:Bool)(m o p:Int)(r a b:jVj) :
  QW n (l.map Q5) d f g h j m o p r a b=some (l.map Q5):=by
 have q:=Vr (step:=ZS n (l.map Q5) d f g h j m o p r a b) (E:=jVj) (fun(s:List Ev) (e:Ev)=>.inl (s++[e])) (fun s=>s.map Q5) (fun i s=>((i:Int),s.map Q5)) l (fun i s=>s.length=i)
  (fun i s e c t=>by have u:=(jGj c).1;obtain⟨b1,z⟩:=v e (jgj c);refine⟨?_,by show(s++[e]).length=i+1;rw[jaj,t];rfl⟩;unfold ZS;dsimp only;rw[jTj (ZF c),jTj ⟨Int.natCast_nonneg i,ZF c⟩,QkA c,jBj];dsimp only;rw[jTj (by rw[jlj];omega),jTj (by rw[jlj];omega),jTj (UO (by decide) (by rw[jlj];omega)),jTj (by unfold Qg;omega),wC,wC,List.map_append];rfl)
  (fun s _=>by unfold ZS;dsimp only;rw[jFj (by simp)]) (s:=[]) rfl (k:=n) (by omega)
 rw[Qa7] at q;unfold QW;exact(congrArg (fun x:Option (jVj)=>x.bind fun y=>some y) q)
def SmE (e:Ev):Prop:=(∀s,s∈e.2.2.1->s.size<=4)/\∀v,v∈e.2.2.2.1->0<=v/\v<=9999
structure Jrn (c:List Ev) (r:Reg):Prop where
 ok:OkL c
 reg:QN c=r
 rep:rep 0 [] c=.inr c
 good:AllG c
 sml:∀e,e∈c->SmE e
theorem Qjd:Jrn [] Reg.zero:=⟨wD,rfl,rfl,fun e h=>(by cases h),fun e h=>(by cases h)⟩
def evK (i:Nat)(k:Ki)(ns:List Wrd)(vs:List Int):Ev:=((i:Int)+1,mkS (kw k),ns.map mkS,vs,⟨#[]⟩)
def Vs (k:Ki)(ns:List Wrd)(vs:List Int):Wrd:=Lib.join (kw k::(ns++vs.map Lib.itoa)) [32]
structure OkV (k:Ki) (ns:List Wrd) (vs:List Int):Prop where
 ln:ns.length=kn k
 lv:vs.length=kv k
 nm:∀w,w∈ns->Yw (mkS w)=true/\w.length<=4
 vl:∀v,v∈vs->0<=v/\v<=9999
theorem Qco {i:Nat}(d:i<1000){k:Ki}{ns:List Wrd}{vs:List Int}(h:OkV k ns vs):Good (evK i k ns vs) k :=
  ⟨by show 1<=(i:Int)+1/\(i:Int)+1<=1000;omega,VN _,by show(ns.map mkS).length=_;rw[jlj,h.ln],h.lv,
   fun s a=>by obtain⟨w,c,rfl⟩:=List.mem_map.1 (show s∈ns.map mkS from a);exact(h.nm w c).1,fun v b=>(by have:=h.vl v b;omega),rfl⟩
theorem QjJ (i:Nat)(k:Ki)(ns:List Wrd)(vs:List Int):cmdL (evK i k ns vs)=Vs k ns vs:=by unfold cmdL Vs VX evK;dsimp only;rw[List.tail_cons,qV];show Lib.join ((mkS (kw k)).data.toList::_) _=_;rw[VN]
theorem QfU {n:Nat}(d:3000<=n){c:List Ev}{r:Reg}(h:Jrn c r):∀e,e∈c->Shw n e:=fun e a=>by obtain⟨k,b⟩:=h.good e a;exact(wc b).w (by omega)
theorem errK {c:List Ev}{r:Reg}(h:Jrn c r)(f:c.length<=90){k:Ki}(d:k≠.undo){ns:List Wrd}{vs:List Int}(e:OkV k ns vs):Uk c.length c (evK c.length k ns vs)=acc k r (ns.map mkS) vs/\isU (evK c.length k ns vs)=false:=by
 have a:=Qco (i:=c.length) (by omega) e;have b:isU (evK c.length k ns vs)=false:=by rw[Xr a];exact jEj d
 refine⟨?_,b⟩;unfold Uk;rw[jTj (Qe8 a),jTj (show(evK c.length k ns vs).1=(c.length:Int)+1 from rfl),jFj (by rw[b];decide),zh a,h.reg];rfl
theorem QkI (i:Nat){k:Ki}{ns:List Wrd}{vs:List Int}(h:OkV k ns vs):SmE (evK i k ns vs):=⟨fun s a=>by obtain⟨w,b,rfl⟩:=List.mem_map.1 (show s∈ns.map mkS from a);rw[Qp];exact(h.nm w b).2,h.vl⟩
theorem wL {c:List Ev}{r:Reg}(h:Jrn c r)(m:c.length<=90){k:Ki}(g:k≠.undo){ns:List Wrd}{vs:List Int}(d:OkV k ns vs)(f:acc k r (ns.map mkS) vs=0):Jrn (c++[evK c.length k ns vs]) (app k r (ns.map mkS) vs):=by
 have b:=Qco (i:=c.length) (by omega) d;obtain⟨j,l⟩:=errK h m g d;refine⟨Qdw h.ok g b (by rw[h.reg];exact f),by rw[Kx,JX b,h.reg];rfl,?_,fun e a=>?_,fun e a=>?_⟩
 ·rw[Qfx,h.rep];dsimp only;rw[Nat.zero_add,jTj (by rw[j];exact f)];unfold YV;rw[jFj (by rw[l];decide)]
 ·obtain a|a:=List.mem_append.1 a
  ·exact h.good e a
  ·rw[List.mem_singleton.1 a];exact⟨k,b⟩
 ·obtain a|a:=List.mem_append.1 a
  ·exact h.sml e a
  ·rw[List.mem_singleton.1 a];exact QkI _ d
theorem Qj8 {n:Nat}(p:3000<=n){c:List Ev}{r:Reg}(h:Jrn c r)(o:c.length<=90){k:Ki}(l:k≠.undo){ns:List Wrd}{vs:List Int}(d:OkV k ns vs)(g:acc k r (ns.map mkS) vs=0){s:jSj}(t:s=mkS (Vs k ns vs)) :
  ∃m:jSj,Qj n s (c.map Q5) (c.map Q5) r.tick r.level r.filled r.tripped r.light r.heat r.money (r.sectors.map Sd) (r.mirrors.map Q1) (r.offers.map Zs)=some (m,0,VJ ((c++[evK c.length k ns vs]).map Q5) ((c++[evK c.length k ns vs]).map Q5) (app k r (ns.map mkS) vs)):=by
 have b:=Qco (i:=c.length) (by omega) d;obtain⟨e,f⟩:=errK h o l d;have j:(c.map Q5).length=c.length:=jlj _;have q:=Qiq (n:=n) p (evs:=c.map Q5) (by omega) h.ok (by omega) b (by rw[j,e];exact g);have a:YV c (evK c.length k ns vs)=c++[evK c.length k ns vs]:=by unfold YV;rw[jFj (by rw[f];decide)]
 rw[QjJ,a,h.reg,Kx,JX b,h.reg] at q;rw[show(c.map Q5)++[Q5 (evK c.length k ns vs)]=(c++[evK c.length k ns vs]).map Q5 by rw[List.map_append];rfl] at q;rw[t];exact⟨_,q⟩
theorem Qj7 {n:Nat}(C:3000<=n){c:List Ev}{r:Reg}(h:Jrn c r)(A:c.length<=90){k:Ki}(z:k≠.undo){ns:List Wrd}{vs:List Int}(o:OkV k ns vs){b:Int}(v:acc k r (ns.map mkS) vs=b)(t:b≠0){s:jSj}(F:s=mkS (Vs k ns vs)) :
  ∃m:jSj,Qj n s (c.map Q5) (c.map Q5) r.tick r.level r.filled r.tripped r.light r.heat r.money (r.sectors.map Sd) (r.mirrors.map Q1) (r.offers.map Zs)=some (m,b,VJ (c.map Q5) (c.map Q5) r):=by
 have f:=Qco (i:=c.length) (by omega) o;obtain⟨u,_⟩:=errK h A z o;obtain⟨j,G⟩:=Qf4 f;have a:=Qf3 f;have p:(VX (evK c.length k ns vs)).tail=kw k::(ns++vs.map Lib.itoa):=by unfold VX;rw[List.tail_cons,show dat (evK c.length k ns vs).2.1=kw k from VN _,show(evK c.length k ns vs).2.2.1=ns.map mkS from rfl,qV];rfl
 rw[QjJ] at j G a;rw[p] at a;have d:=ur f;rw[p,show(evK c.length k ns vs).2.2.1=ns.map mkS from rfl,show(evK c.length k ns vs).2.2.2.1=vs from rfl,qV] at d;have g:kw k∉UP:=fun E=>QhY k _ E rfl;have x:doA c.length c (Vs k ns vs)=(none,[],b):=by unfold doA;rw[jFj (by omega),jFj (fun e=>by rw[e] at j;simp at j)];rw[show askA (QN c) (Vs k ns vs)=none from(QjK a).2 g];dsimp only;rw[a,show(kw k::(ns++vs.map Lib.itoa)).headD []=kw k from rfl,qZ];dsimp only;rw[d];dsimp only;have y:Uk c.length c (evP c.length (k,ns,vs))=b:=u.trans v;rw[y,jFj t]
 have q:=QiV (n:=n) C (evs:=c) h.ok (by omega) (by omega) (l:=Vs k ns vs) (.inl (by omega));rw[x,h.reg] at q;rw[F];exact⟨_,q⟩
theorem uF {n:Nat}(o:3000<=n){c:List Ev}{r:Reg}(h:Jrn c r)(p:c.length<=90)(d:jVj)(e f:Int)(g i:Bool)(j k l:Int)(m a b:jVj) :
  QW n (c.map Q5) d e f g i j k l m a b=some (c.map Q5) :=
 Qgp o c (Qi2 h.ok) (by omega) d e f g i j k l m a b
theorem Qdr:∀{l:List jSj} {s:jSj},s∉l->pos (l++[s]) s=some l.length
 | [],s,_=>by rw[List.nil_append];unfold pos;rw[jTj rfl];rfl
 | x::l,s,h=>by have a:¬x=s:=fun e=>h (by rw[e];exact jMj);have c:=Qdr (l:=l) (s:=s) fun b=>h (jmj _ b);rw[List.cons_append];unfold pos;rw[jFj a,c];rfl
theorem Qdy (os:List Off)(o:Off):nmO (os++[o])=nmO os++[o.1]:=by unfold nmO;rw[List.map_append];rfl
theorem Qdx {os:List Off}{o:Off}(h:o.1∉nmO os):ZG (nmO (os++[o])) o.1=true/\iO (os++[o]) o.1=os.length/\oAt (os++[o]) o.1=o:=by
 have hp:pos (nmO (os++[o])) o.1=some os.length:=by rw[Qdy,Qdr h,Wy]
 have a:iO (os++[o]) o.1=os.length:=by unfold iO;rw[hp];rfl
 refine⟨by unfold ZG;rw[hp];rfl,a,?_⟩;unfold oAt;rw[a,List.getD_eq_getElem?_getD,List.getElem?_append_right (jLj _),Nat.sub_self];rfl
theorem Qjg {l:List jSj}{s:jSj}(h:s∉l):ZG l s=false:=by
 cases hh:ZG l s with
 | false=>rfl
 | true=>exact absurd (pos_mem.1 hh) h
end Go.Proofs.YthdghjjahodkaaaGreatDoor
