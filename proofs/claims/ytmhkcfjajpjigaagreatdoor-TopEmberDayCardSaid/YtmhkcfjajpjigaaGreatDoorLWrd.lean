/- Own texts. -/
import Derived.Test.YtmhkcfjajpjigaaGreatDoorDay5
import Derived.Test.YtmhkcfjajpjigaaGreatDoorSxTwentyFive
import Derived.KernelRfl
import Derived.Lib.Bytealg
import Derived.Lib.ItoaNum
set_option linter.unusedSimpArgs false
set_option linter.unusedVariables false
set_option linter.unnecessarySimpa false
set_option maxRecDepth 20000
namespace Go.Proofs.YtmhkcfjajpjigaaGreatDoor
open Go.SX
abbrev Sd (b:jSj):D:=.v (.string b)
def mkS (l:List UInt8):jSj:=⟨l.toArray⟩
theorem UA (s:jSj):mkS s.data.toList=s:=by cases s;simp[mkS]
theorem VN (l:List UInt8):(mkS l).data.toList=l:=by simp[mkS]
theorem dlen (s:jSj):s.data.toList.length=s.size:=by cases s;rfl
theorem QfQ (s:jSj):∀(m i:Nat) (r:List UInt8),i+m=s.size->ByteArray.toList.loop s i r=r.reverse++s.data.toList.drop i
 | 0,i,r,h=>by rw[ByteArray.toList.loop,jFj (by omega),List.drop_eq_nil_of_le (by rw[dlen];omega),List.append_nil]
 | m+1,i,r,h=>by
  have hi:i<s.data.toList.length:=by rw[dlen];omega
  rw[ByteArray.toList.loop,jTj (by omega),QfQ s m (i+1) _ (by omega),List.reverse_cons,List.append_assoc];congr 1
  rw[List.drop_eq_getElem_cons hi];have:s.get! i=s.data.toList[i]:=by
   cases s with
   | mk a =>
    simp only[ByteArray.get!];have b : i<a.size:=hi;rw[getElem!_pos a i b];simp
  rw[this];rfl
theorem qL (s:jSj):s.toList=s.data.toList:=by unfold ByteArray.toList;rw[QfQ s s.size 0 [] (by omega)];rfl
theorem Qd7 {a b:jSj}(h:a.data.toList=b.data.toList):a=b:=by rw[<-UA a,<-UA b,h]
theorem beqS (a b:jSj):(a.toList==b.toList)=decide (a=b):=by rw[Bool.eq_iff_iff,beq_iff_eq,decide_eq_true_eq,qL,qL];exact⟨Qd7,fun h=>by rw[h]⟩
theorem kq (a:jSj)(l:Array UInt8):((a.toList==(⟨l⟩:jSj).toList)=true)=(a.data.toList=l.toList):=by rw[beqS,decide_eq_true_eq,eq_iff_iff];exact⟨fun h=>by rw[h],fun h=>Qd7 h⟩
def QK:List Int->Int
 | []=>0
 | x::l=>if x=0 then QK l else x
theorem ZF {a b:Type}{f:a->b}{l:List a}{i:Nat}{x:a}(h:l[i]?=some x):(i:Int)<((l.map f).length:Int):=by have:=(jGj h).1;simp;omega
theorem Ei {ms:List Int}{i:Nat}{x:Int}(h:ms[i]?=some x):el V5 (ms.map I) (i:Int)=some x:=UG (un:=V5) (enc:=I) (fun _=>rfl) h
theorem el_S {l:List jSj}{i:Nat}{x:jSj}(h:l[i]?=some x):el Vg (l.map Sd) (i:Int)=some x:=UG (un:=Vg) (enc:=Sd) (fun _=>rfl) h
theorem Zc {a:Type}{un:D->Option a}{enc:a->D}(b:∀x,un (enc x)=some x){l:List a}{i:Nat}{x:a}(h:l[i]?=some x):(nth (l.map enc) (Int.toNat (i:Int))).bind un=some x:=by rw[jtj,U4,List.getElem?_map,h];exact b x
theorem inI {i:Int}(h : -9223372036854775808<=i)(a:i<=9223372036854775807):Qg i:=⟨h,a⟩
def fG (_:Unit)(x:Int):Unit⊕(Int⊕Unit):=if x=0 then .inl () else .inr (.inl x)
theorem X1:∀(l:List Int),Kw fG (fun _=>.inr ()) l ()=if QK l=0 then .inr () else .inl (QK l)
 | []=>rfl
 | x::l=>by
  unfold Kw fG;by_cases h:x=0
  ·rw[jTj h];simp only[QK,jTj h];exact X1 l
  ·rw[jFj h];simp only[QK,jFj h]
theorem qf {n:Nat}(ms:List Int)(c:ms.length<9223372036854775807)(b:ms.length<n):Qi n (ms.map I)=some (QK ms):=by
 unfold Qi;have:=Vr (step:=Q6 n (ms.map I)) fG (fun _=>.inr ()) (fun i _=>(i:Int)) ms (fun _ _=>True)
  (fun i s x a _=>by
   unfold fG Q6;have hi:=(jGj a).1;by_cases h:x=0
   ·rw[jTj h];refine⟨?_,trivial⟩;rw[jTj (ZF a),Ei a,jBj,jTj h,jTj (by unfold Qg;omega)];rfl
   ·rw[jFj h];dsimp only;rw[jTj (ZF a),Ei a,jBj,jFj h])
  (fun s _=>by unfold Q6;rw[jFj (by simp)]) (s:=()) trivial b
 rw[show(0:Int)=((0:Nat):Int) from rfl,this,X1];by_cases h:QK ms=0
 ·rw[jTj h,h];rfl
 ·rw[jFj h];rfl
theorem W4 {n:Nat}(c:10<=n)(a b:Int):Qi n [I a,I b]=some (QK [a,b]):=qf [a,b] (by simp) (by simp;omega)
theorem uT {n:Nat}(d:10<=n)(a b c:Int):Qi n [I a,I b,I c]=some (QK [a,b,c]):=qf [a,b,c] (by simp) (by simp;omega)
theorem QeV {n:Nat}(e:10<=n)(a b c d:Int):Qi n [I a,I b,I c,I d]=some (QK [a,b,c,d]):=qf [a,b,c,d] (by simp) (by simp;omega)
theorem Zl:∀{l:List Int},QK l=0->∀x,x∈l->x=0
 | [],_,x,hx=>by cases hx
 | y::l,h,x,hx=>by
  unfold QK at h;split at h
  ·rename_i a;cases hx with
   | head=>exact a
   | tail _ hx=>exact Zl h x hx
  ·rename_i a;exact absurd h a
def inR (x lo hi:Int):Int:=if x<lo then 3 else if x>hi then 3 else 0
def QD (b:Bool)(e:Int):Int:=if b then e else 0
theorem YR (n:Nat)(x lo hi:Int):ZJ n x lo hi=some (inR x lo hi):=by
 unfold ZJ JH Qr inR;by_cases h:x<lo
 ·simp[h]
 ·by_cases a:x>hi
  ·simp[h,a]
  ·simp[h,a]
theorem WS {x lo hi:Int}:inR x lo hi=0↔lo<=x/\x<=hi:=by
 unfold inR;constructor
 ·intro h;repeat' split at h
  all_goals omega
 ·intro h;rw[jFj (by omega),jFj (by omega)]
theorem QeR (x lo hi:Int):inR x lo hi=0\/inR x lo hi=3:=by
 unfold inR;repeat' split
 all_goals simp
theorem Qle (n:Nat)(x lo hi:Int):Qng n x lo hi=some (decide (inR x lo hi≠0)):=by
 unfold Qng inR;by_cases h:x<lo
 ·simp[h]
 ·by_cases a:x>hi
  ·simp[h,a]
  ·simp[h,a]
theorem QR (n:Nat)(b:Bool)(e:Int):Qr n b e=some (QD b e):=by unfold Qr QD;cases b<;>rfl
def Kf (s:jSj)(i:Nat):Nat:=(s.get! i).toNat
def yG (p c:Nat):Prop:=(97<=c/\c<=122)\/(65<=c/\c<=90)\/(p≠0/\(c=95\/(48<=c/\c<=57)))
instance (p c:Nat):Decidable (yG p c):=by unfold yG;infer_instance
def E4 (s:jSj):Nat->Nat->Bool
 | 0,_=>true
 | m+1,p=>decide (yG p (Kf s p))&&E4 s m (p+1)
theorem Ek {s:jSj}{p:Nat}(h:Kf s p<128):Utf8.decode s p=(Kf s p,1):=by unfold Kf at h ⊢;unfold Utf8.decode;simp only[Nat.add_zero];rw[jTj h]
theorem yl {s:jSj}{p:Nat}(h:¬Kf s p<128):128<=(Utf8.decode s p).1:=by
 unfold Kf at h;unfold Utf8.decode;simp only[Nat.add_zero];rw[jFj h];have a:128<=Utf8.runeError:=by decide
 repeat' split
 all_goals first|exact a|(simp only[jAj,decide_eq_true_eq,ge_iff_le] at *;omega)
theorem Qks (n:Nat){s:jSj}{p:Nat}(h:p<s.size):WI n s p=if yG p (Kf s p) then some (.inl (p+1)) else some (.inr (.inl ())):=by
 unfold WI;rw[jTj h];by_cases b:Kf s p<128
 ·rw[Ek b];dsimp only;generalize Kf s p=c at b ⊢;by_cases a:yG p c
  ·rw[jTj a];unfold yG at a;repeat' split
   all_goals first|rfl|(exfalso;omega)
  ·rw[jFj a];unfold yG at a;repeat' split
   all_goals first|rfl|(exfalso;omega)
 ·have e:=yl b;have d:¬yG p (Kf s p):=by unfold yG;omega
  rw[jFj d];generalize (Utf8.decode s p).1=c at e ⊢;repeat' split
  all_goals first|rfl|(exfalso;omega)
theorem QjD (n:Nat){s:jSj}:∀(m k p:Nat),p+m=s.size->m<k->QU (WI n s) k p=some (if E4 s m p=true then .inr () else .inl ())
 | m,0,p,_,h=>by omega
 | 0,k+1,p,hp,_=>by rw[ZP (e:=.inr ()) (by unfold WI;rw[jFj (by omega)])];rfl
 | m+1,k+1,p,hp,hk=>by
  have a:=Qks n (s:=s) (p:=p) (by omega);by_cases h:yG p (Kf s p)
  ·rw[jTj h] at a;rw[W8 a,QjD n m k (p+1) (by omega) (by omega)];simp[E4,h]
  ·rw[jFj h] at a;rw[ZP a];simp[E4,h]
def Yw (s:jSj):Bool:=decide (s.size≠0)&&decide (s.size<=24)&&E4 s s.size 0
theorem QdJ (s:jSj):∀(m i:Nat) (r:List UInt8),i+m=s.size->(ByteArray.toList.loop s i r).length=r.length+m
 | 0,i,r,h=>by rw[ByteArray.toList.loop,jFj (by omega),List.length_reverse];rfl
 | m+1,i,r,h=>by rw[ByteArray.toList.loop,jTj (by omega),QdJ s m (i+1) _ (by omega),List.length_cons];omega
theorem XX (s:jSj):s.toList.length=s.size:=by unfold ByteArray.toList;rw[QdJ s s.size 0 [] (by omega)];simp
theorem QfH (s:jSj):(s.toList==(⟨#[]⟩:jSj).toList)=decide (s.size=0):=by
 rw[Bool.eq_iff_iff,beq_iff_eq,decide_eq_true_eq];constructor
 ·intro h;have a:s.toList.length=0:=by rw[h,XX];rfl
  rw[XX] at a;exact a
 ·intro h;have a:s.toList.length=0:=by rw[XX];exact h
  have b:(⟨#[]⟩:jSj).toList.length=0:=by rw[XX];rfl
  rw[List.eq_nil_of_length_eq_zero a,List.eq_nil_of_length_eq_zero b]
theorem QgI {n:Nat}{s:jSj}(h:s.size<n):Ua n s=some (Yw s):=by
 unfold Ua;rw[show QU (WI n s) n 0=_ from QjD n s.size n 0 (by omega) h,jBj];unfold Yw;by_cases a:E4 s s.size 0=true
 ·rw[jTj a,a];dsimp only;rw[QfH];by_cases b:s.size=0
  ·simp[b]
  ·simp[b];omega
 ·rw[jFj a];simp only[Bool.not_eq_true] at a;rw[a];simp
theorem QlZ {s:jSj}{p:Nat}(h:p<s.size):UY s (p:Int)=some ((Kf s p:Nat):Int):=by
 have e:s[p]?=some (s.get! p):=by
  have a:s[p]?=some s[p]:=by simp[h]
  rw[a];congr 1
  cases s with
  | mk d =>
   have b:p<d.size:=h;show d[p]=d[p]!;simp[b]
 unfold UY Kf;rw[jTj (Int.natCast_nonneg p),jtj,e]
theorem Qmy (n:Nat){s:jSj}{p:Nat}(h:p<s.size)(hp:p<1000):Qm9 n s (p:Int)=if yG p (Kf s p) then some (.inl (((p+1:Nat):Int))) else some (.inr (.inl ())):=by
 unfold Qm9;have hi:Qg ((p:Int)+1):=by unfold Qg;omega
 rw[jTj (by omega),QlZ h,jBj];simp only[jTj hi];generalize Kf s p=c;have e:((p:Int)+1)=((p+1:Nat):Int):=rfl;rw[<-e];by_cases a:yG p c
 ·rw[jTj a];unfold yG at a;repeat' split
  all_goals first|rfl|(exfalso;omega)
 ·rw[jFj a];unfold yG at a;repeat' split
  all_goals first|rfl|(exfalso;omega)
theorem Qmq (n:Nat){s:jSj}:∀(m k p:Nat),p+m=s.size->s.size<1000->m<k->QU (Qm9 n s) k (p:Int)=some (if E4 s m p=true then .inr () else .inl ())
 | m,0,p,_,_,h=>by omega
 | 0,k+1,p,hp,_,_=>by rw[ZP (e:=.inr ()) (by unfold Qm9;rw[jFj (by omega)])];rfl
 | m+1,k+1,p,hp,hz,hk=>by
  have a:=Qmy n (s:=s) (p:=p) (by omega) (by omega);by_cases h:yG p (Kf s p)
  ·rw[jTj h] at a;rw[W8 a,Qmq n m k (p+1) (by omega) hz (by omega)];simp[E4,h]
  ·rw[jFj h] at a;rw[ZP a];simp[E4,h]
theorem Qlo {n:Nat}(e:100<=n)(s:jSj):Qoa n s=some (Yw s):=by
 unfold Qoa Yw;rw[QfH];by_cases b:s.size=0
 ·simp[b]
 rw[jFj (by simpa using b)];by_cases c:(s.size:Int)>24
 ·rw[jTj c];have:¬s.size<=24:=by omega
  simp[this]
 ·rw[jFj c];have d:s.size<=24:=by omega
  rw[show QU (Qm9 n s) n 0=_ from Qmq n s.size n 0 (by omega) (by omega) (by omega),jBj];by_cases a:E4 s s.size 0=true
  ·rw[jTj a,a];simp[b,d]
  ·rw[jFj a];simp only[Bool.not_eq_true] at a;rw[a];simp
abbrev Mir:=jSj×jSj×Int×Int×Bool×Bool
abbrev Off:=jSj×Int×Int×Int×Int×Int×Bool
def Q1 (m:Mir):D:=QF m
def Zs (o:Off):D:=Zr o
theorem unM (m:Mir):QV (Q1 m)=some m:=rfl
theorem unO (o:Off):Z4 (Zs o)=some o:=rfl
def isA (m:Mir):Bool:=m.2.2.2.2.2
structure Reg where
 tick:Int
 level:Int
 filled:Bool
 tripped:Bool
 light:Int
 heat:Int
 money:Int
 sectors:List jSj
 mirrors:List Mir
 offers:List Off
def Reg.zero:Reg:=⟨0,0,false,false,0,0,0,[],[],[]⟩
def okM (m:Mir):Prop:=(1<=m.2.2.1/\m.2.2.1<=100)/\(0<=m.2.2.2.1/\m.2.2.2.1<=1000)
def okO (o:Off):Prop:=(1<=o.2.2.2.1/\o.2.2.2.1<=1000)/\(0<=o.2.2.2.2.1/\o.2.2.2.2.1<=1000)/\(0<=o.2.2.2.2.2.1/\o.2.2.2.2.2.1<=o.2.2.2.1)
structure Inv (c:Nat) (r:Reg):Prop where
 tick:0<=r.tick/\r.tick<=999999999
 level:0<=r.level/\r.level<=1000
 light:0<=r.light/\r.light<=1000000000000000
 heat:0<=r.heat/\r.heat<=1000000000000000
 money : -(2000000*(c:Int))<=r.money/\r.money<=2000000*(c:Int)
 secs:r.sectors.length<=8
 lenM:r.mirrors.length<=c
 lenO:r.offers.length<=c
 mirs:∀m,m∈r.mirrors->okM m
 offs:∀o,o∈r.offers->okO o
theorem Qj6 {g c p q:Int}(hp:0<=p)(f : -p<=g/\g<=p)(a:0<=q)(hc : -q<=c/\c<=q) : -(p*q)<=g*c/\g*c<=p*q:=by have h:=Int.natAbs_mul g c;have b:g.natAbs*c.natAbs<=p.natAbs*q.natAbs:=Nat.mul_le_mul (by omega) (by omega);have d:=Int.natAbs_mul p q;have e:0<=p*q:=Int.mul_nonneg hp a;omega
theorem jI {g c p q:Int}(a:0<=g/\g<=p)(hc:0<=c/\c<=q):0<=g*c/\g*c<=p*q :=
 ⟨Int.mul_nonneg a.1 hc.1,(Qj6 (by omega) ⟨by omega,a.2⟩ (by omega) ⟨by omega,hc.2⟩).2⟩
def term (a:Int)(m:Mir):Int:=if isA m=true then m.2.2.1*(1000 - m.2.2.2.1)*a else 0
def Xl (a:Int):List Mir->Int
 | []=>0
 | m::l=>term a m+Xl a l
def zP (r:Reg):Int:=Xl r.level r.mirrors
theorem ua {d:Int}(e:0<=d/\d<=1000){m:Mir}(f:okM m):(0<=m.2.2.1*(1000 - m.2.2.2.1)/\m.2.2.1*(1000 - m.2.2.2.1)<=100000)/\(0<=m.2.2.1*(1000 - m.2.2.2.1)*d/\m.2.2.1*(1000 - m.2.2.2.1)*d<=100000000)/\(0<=term d m/\term d m<=100000000):=by obtain⟨h,i⟩:=f;have a:=jI (g:=m.2.2.1) (c:=1000 - m.2.2.2.1) (p:=100) (q:=1000) (by omega) (by omega);have b:=jI (g:=m.2.2.1*(1000 - m.2.2.2.1)) (c:=d) (p:=100000) (q:=1000) (by omega) e;refine⟨by omega,by omega,?_⟩;unfold term;split<;>omega
theorem jC {a:Int}(b:0<=a/\a<=1000):∀{l:List Mir},(∀m,m∈l->okM m)->0<=Xl a l/\Xl a l<=100000000*(l.length:Int)
 | [],_=>by simp[Xl]
 | m::l,h=>by have d:=(ua b (h m jMj)).2.2;have e:=jC b (l:=l) fun x c=>h x (jmj _ c);simp only[Xl,List.length_cons];omega
def rG (a:Int)(s:Int)(m:Mir):Int⊕Int:=.inl (s+term a m)
theorem jA (a:Int):∀(l:List Mir) (s:Int),Kw (rG a) (fun s=>s) l s=s+Xl a l
 | [],s=>by simp[Kw,Xl]
 | m::l,s=>by unfold Kw rG;simp only;have:=jA a l (s+term a m);unfold rG at this;rw[this];simp only[Xl];omega
theorem Qfz {n:Nat}(g h:jVj)(j b:Int)(l o:Bool)(p q r:Int)(t c:jVj)(v:0<=b/\b<=1000)(ms:List Mir)(d:∀m,m∈ms->okM m)(u:ms.length<=40)(A:100<=n):WM n g h j b l o p q r t (ms.map Q1) c=some (Xl b ms):=by
 unfold WM;have:=Vr (step:=Z5 n g h j b l o p q r t (ms.map Q1) c) (rG b) (fun s=>s) (fun i s=>(((i:Int),s):Int×Int)) ms (fun i s=>0<=s/\s<=100000000*(i:Int))
  (fun i s m a C=>by
   have hi:=(jGj a).1;obtain⟨b1,y,z⟩:=ua v (d m (jgj a));unfold rG;refine⟨?_,?_⟩
   ·unfold Z5;dsimp only;rw[jTj (ZF a),jTj ⟨Int.natCast_nonneg i,ZF a⟩,Zc unM a,jBj];unfold term isA;by_cases f:m.2.2.2.2.2=true
    ·rw[jTj f,jTj f,jTj (by unfold Qg;have:=(d m (jgj a)).2;omega),jTj (by unfold Qg;omega),jTj (by unfold Qg;omega),jTj (by unfold Qg;omega),jTj (by unfold Qg;omega)];rfl
    ·rw[jFj f,jFj f,jTj (by unfold Qg;omega),Int.add_zero];rfl
   ·simp only[Int.natCast_add,Int.natCast_one];omega)
  (fun s _=>by unfold Z5;dsimp only;rw[jFj (by simp)]) (s:=0) (by simp) (k:=n) (by omega)
 have e:=this;rw[jA,Int.zero_add] at e;exact(congrArg (fun x:Option Int=>x.bind fun w=>some w) e)
theorem QhA {n:Nat}(f b:Int)(g h:Bool)(j l o:Int)(p q:jVj)(t:0<=b/\b<=1000)(ms:List Mir)(c:∀m,m∈ms->okM m)(r:ms.length<=40)(y:100<=n):WX n f b g h j l o p (ms.map Q1) q=some (Xl b ms):=by
 unfold WX;have:=Vr (step:=ZL n f b g h j l o p (ms.map Q1) q) (rG b) (fun s=>s) (fun i s=>(((i:Int),s):Int×Int)) ms (fun i s=>0<=s/\s<=100000000*(i:Int))
  (fun i s m a z=>by
   have hi:=(jGj a).1;obtain⟨b1,v,w⟩:=ua t (c m (jgj a));unfold rG;refine⟨?_,?_⟩
   ·unfold ZL;dsimp only;rw[jTj (ZF a),jTj ⟨Int.natCast_nonneg i,ZF a⟩,Zc unM a,jBj];unfold term isA;by_cases d:m.2.2.2.2.2=true
    ·rw[jTj d,jTj d,jTj (by unfold Qg;have:=(c m (jgj a)).2;omega),jTj (by unfold Qg;omega),jTj (by unfold Qg;omega),jTj (by unfold Qg;omega),jTj (by unfold Qg;omega)];rfl
    ·rw[jFj d,jFj d,jTj (by unfold Qg;omega),Int.add_zero];rfl
   ·simp only[Int.natCast_add,Int.natCast_one];omega)
  (fun s _=>by unfold ZL;dsimp only;rw[jFj (by simp)]) (s:=0) (by simp) (k:=n) (by omega)
 have e:=this;rw[jA,Int.zero_add] at e;exact(congrArg (fun x:Option Int=>x.bind fun u=>some u) e)
theorem Qr9 {n:Nat}(f a:Int)(g h:Bool)(j l o:Int)(p q:jVj)(t:0<=a/\a<=1000)(ms:List Mir)(b:∀m,m∈ms->okM m)(r:ms.length<=40)(y:100<=n):Qom n f a g h j l o p (ms.map Q1) q=some (Xl a ms):=by
 unfold Qom;have:=Vr (step:=QnE n f a g h j l o p (ms.map Q1) q) (rG a) (fun s=>s) (fun i s=>((s,(i:Int)):Int×Int)) ms (fun i s=>0<=s/\s<=100000000*(i:Int))
  (fun i s m c z=>by
   have hi:=(jGj c).1;obtain⟨b1,v,w⟩:=ua t (b m (jgj c));unfold rG;refine⟨?_,?_⟩
   ·unfold QnE;dsimp only;rw[jTj (ZF c),UG unM c,jBj];unfold term isA;by_cases d:m.2.2.2.2.2=true
    ·rw[jTj d,jTj d,jTj (by unfold Qg;have:=(b m (jgj c)).2;omega),jTj (by unfold Qg;omega),jTj (by unfold Qg;omega),jTj (by unfold Qg;omega),jTj (by unfold Qg;omega)];rfl
    ·rw[jFj d,jFj d,jTj (by unfold Qg;omega),Int.add_zero];rfl
   ·simp only[Int.natCast_add,Int.natCast_one];omega)
  (fun s _=>by unfold QnE;dsimp only;rw[jFj (by simp)]) (s:=0) (by simp) (k:=n) (by omega)
 have e:=this;rw[jA,Int.zero_add] at e;exact(congrArg (fun x:Option Int=>x.bind fun u=>some u) e)
def WP (r:Reg)(t:Int):Int:=zP r*(t - r.tick)
def okT (r:Reg)(t:Int):Prop:=r.tick<=t/\t<=999999999
def Gq (r:Reg)(t:Int):Int:=if r.light+WP r t<=1000000000000000/\r.heat+WP r t<=1000000000000000 then 0 else 4
theorem qe {c:Nat}{r:Reg}(d:Inv c r)(hc:c<=40){t:Int}(f:okT r t):(0<=zP r/\zP r<=4000000000)/\(0<=WP r t/\WP r t<=4000000000000000000):=by
 obtain⟨i,j⟩:=f;have h:=d.tick;have l:=d.lenM;have a:0<=zP r/\zP r<=100000000*(r.mirrors.length:Int):=jC d.level d.mirs;have e : 0<=zP r/\zP r<=4000000000:=by omega
 have b:=jI (g:=zP r) (c:=t - r.tick) (p:=4000000000) (q:=1000000000) e (by omega);refine⟨e,?_⟩;unfold WP;omega
theorem Wk {n c:Nat}{evs cnt:jVj}{r:Reg}(a:Inv c r)(hc:c<=40)(d:100<=n){t:Int}(b:okT r t):Q9 n t evs cnt r.tick r.level r.filled r.tripped r.light r.heat r.money (r.sectors.map Sd) (r.mirrors.map Q1) (r.offers.map Zs)=some (r.light+WP r t,r.heat+WP r t):=by obtain⟨b1,f⟩:=qe a hc b;obtain⟨g,h⟩:=b;have i:=a.tick;have j:=a.light;have l:=a.heat;unfold Q9;rw[Qfz _ _ _ _ _ _ _ _ _ _ _ a.level _ a.mirs (by have:=a.lenM;omega) d,jBj,jTj (by unfold Qg;omega)];have e:Xl r.level r.mirrors*(t - r.tick)=WP r t:=rfl;simp only[e];rw[jTj (by unfold Qg;omega),jTj (by unfold Qg;omega),jTj (by unfold Qg;omega)]
theorem Wq {n c:Nat}{r:Reg}(a:Inv c r)(hc:c<=40)(d:100<=n){t:Int}(b:okT r t):WB n t r.tick r.level r.filled r.tripped r.light r.heat r.money (r.sectors.map Sd) (r.mirrors.map Q1) (r.offers.map Zs)=some (r.light+WP r t,r.heat+WP r t):=by obtain⟨b1,f⟩:=qe a hc b;obtain⟨g,h⟩:=b;have i:=a.tick;have j:=a.light;have l:=a.heat;unfold WB;rw[QhA _ _ _ _ _ _ _ _ _ a.level _ a.mirs (by have:=a.lenM;omega) d,jBj,jTj (by unfold Qg;omega)];have e:Xl r.level r.mirrors*(t - r.tick)=WP r t:=rfl;simp only[e];rw[jTj (by unfold Qg;omega),jTj (by unfold Qg;omega),jTj (by unfold Qg;omega)]
theorem minB (a b m:Int):(!((a==min a m)&&((b==min b m)&&true)))=decide (¬(a<=m/\b<=m)):=by rw[Bool.eq_iff_iff];simp only[Bool.not_eq_true',Bool.and_true,Bool.and_eq_false_iff,beq_eq_false_iff_ne,ne_eq,decide_eq_true_eq];omega
theorem Zd {n c:Nat}{evs cnt:jVj}{r:Reg}(d:Inv c r)(hc:c<=40)(b:100<=n){t:Int}(e:okT r t):Qn n t evs cnt r.tick r.level r.filled r.tripped r.light r.heat r.money (r.sectors.map Sd) (r.mirrors.map Q1) (r.offers.map Zs)=some (Gq r t):=by
 unfold Qn;rw[Wk d hc b e,jBj];dsimp only;rw[QR,jBj,GS,GS,minB];unfold QD Gq;by_cases a:r.light+WP r t<=1000000000000000/\r.heat+WP r t<=1000000000000000
 ·rw[jTj a];simp[a]
 ·rw[jFj a,jTj (jDj a)]
theorem QmJ {n c:Nat}{r:Reg}(a:Inv c r)(hc:c<=40)(g:100<=n){t:Int}(f:okT r t):Qn9 n r.tick r.level r.filled r.tripped r.light r.heat r.money (r.sectors.map Sd) (r.mirrors.map Q1) (r.offers.map Zs) t=some (if Gq r t=0 then(r.light+WP r t,r.heat+WP r t,0) else(0,0,4)):=by
 obtain⟨b1,h⟩:=qe a hc f;obtain⟨i,j⟩:=f;have l:=a.tick;have m:=a.light;have o:=a.heat;unfold Qn9;rw[Qr9 _ _ _ _ _ _ _ _ _ a.level _ a.mirs (by have:=a.lenM;omega) g,jBj,jTj (by unfold Qg;omega)];have e:Xl r.level r.mirrors*(t - r.tick)=WP r t:=rfl;simp only[e];rw[jTj (by unfold Qg;omega),jTj (by unfold Qg;omega)];unfold Gq;by_cases b:WP r t>1000000000000000 - r.light
 ·rw[jTj b,jFj (by omega:¬(r.light+WP r t<=1000000000000000/\r.heat+WP r t<=1000000000000000)),jFj (by decide)]
 ·rw[jFj b,jTj (by unfold Qg;omega)];by_cases d:WP r t>1000000000000000 - r.heat
  ·rw[jTj d,jFj (by omega:¬(r.light+WP r t<=1000000000000000/\r.heat+WP r t<=1000000000000000)),jFj (by decide)]
  ·rw[jFj d,jTj (by unfold Qg;omega),jTj (by unfold Qg;omega),jTj (by omega:r.light+WP r t<=1000000000000000/\r.heat+WP r t<=1000000000000000),jTj rfl]
theorem Y4 {b E:Type}{step:Int×jVj->Option (Int×jVj⊕E)}(c:jVj->E)(l:List b)(f:b->jVj)(g:∀x,(f x).length<=1)
  (a:∀(i:Nat) (out:jVj) (x:b),l[i]?=some x->out.length<=i->step ((i:Int),out)=some (.inl (((i+1:Nat):Int),out++f x)))
  (d:∀out:jVj,out.length<=l.length->step ((l.length:Int),out)=some (.inr (c out))) {k:Nat} (h:l.length<k):QU step k (0,[])=some (c (l.flatMap f)):=by
 have:=Vr (step:=step) (E:=E) (fun(s:jVj) (x:b)=>.inl (s++f x)) c (fun i s=>((i:Int),s)) l (fun i s=>s.length<=i)
  (fun i s x m hi=>⟨a i s x m hi,by rw[jaj];have:=g x;omega⟩)
  (fun s j=>d s j) (k:=k) (s:=[]) (Nat.zero_le _) h
 have e:∀(l:List b) (s:jVj),Kw (E:=E) (fun(s:jVj) (x:b)=>.inl (s++f x)) c l s=c (s++l.flatMap f):=by
  intro l;induction l with
  | nil=>intro s;simp[Kw]
  | cons x l ih =>
   intro s;show Kw (E:=E) (fun(s:jVj) (x:b)=>.inl (s++f x)) c l (s++f x)=_;rw[ih,List.flatMap_cons,List.append_assoc]
 rw[e,List.nil_append] at this;exact this
theorem wQ {a b:Type}(f:a->b)(l:List a):l.flatMap (fun x=>[f x])=l.map f:=by
 induction l with
 | nil=>rfl
 | cons x l ih=>rw[List.flatMap_cons,ih];rfl
theorem UO {b n:Nat}(a:b<=200)(h:n<=5000):Wi b n:=by have c:n*b<=5000*200:=Nat.mul_le_mul h a;show n*b<=140737488355328;omega
def pos:List jSj->jSj->Option Nat
 | [],_=>none
 | x::l,s=>if x=s then some 0 else(pos l s).map (·+1)
def zk (l:List jSj)(s:jSj):Int:=match pos l s with
 | some i=>(i:Int)
 | none=>-1
theorem uq:∀{l:List jSj} {s:jSj} {i:Nat},pos l s=some i->i<l.length/\l[i]?=some s
 | [],s,i,h=>by cases h
 | x::l,s,i,h=>by
  unfold pos at h;split at h
  ·rename_i e;cases h;subst e;exact⟨by simp,rfl⟩
  ·obtain⟨j,b,rfl⟩:=Option.map_eq_some_iff.1 h;obtain⟨c,a⟩:=uq b;exact⟨by simp;omega,by simpa using a⟩
theorem pos_mem:∀{l:List jSj} {s:jSj},(pos l s).isSome=true↔s∈l
 | [],s=>by simp[pos]
 | x::l,s=>by
  unfold pos;by_cases h:x=s
  ·rw[jTj h];simp[h]
  ·rw[jFj h,Option.isSome_map,pos_mem];simp only[List.mem_cons];constructor
   ·exact .inr
   ·rintro(e|e)
    ·exact absurd e.symm h
    ·exact e
theorem QhE {l:List jSj}{s:jSj}:zk l s<0↔¬s∈l:=by
 rw[<-pos_mem];unfold zk;cases pos l s with
 | none=>simp
 | some i=>simp
theorem posI_nn {l:List jSj}{s:jSj}:zk l s>=0↔s∈l:=by
 have:=QhE (l:=l) (s:=s);by_cases h:s∈l
 ·have:¬zk l s<0:=fun b=>(this.1 b) h;constructor
  ·exact fun _=>h
  ·intro _;omega
 ·have c:=this.2 h;constructor
  ·intro a;omega
  ·intro a;exact absurd a h
def pG {b:Type}(f:b->jSj)(a:jSj)(s:Nat)(x:b):Nat⊕(Int⊕Unit):=if f x=a then .inr (.inl (s:Int)) else .inl (s+1)
theorem Qc9 {b:Type}(f:b->jSj)(a:jSj):∀(l:List b) (s:Nat),Kw (pG f a) (fun _=>.inr ()) l s=(match pos (l.map f) a with
 | some i=>.inl ((s+i:Nat):Int)
 | none=>.inr ())
 | [],s=>rfl
 | x::l,s=>by
  unfold Kw pG;rw[jCj];unfold pos;by_cases h:f x=a
  ·rw[jTj h,jTj h];rfl
  ·rw[jFj h,jFj h];have:=Qc9 f a l (s+1);unfold pG at this;simp only;rw[this];cases pos (l.map f) a with
   | none=>rfl
   | some i=>simp only[Option.map_some];congr 2;omega
theorem Qkc {n:Nat}(l:List jSj)(s:jSj)(d:l.length<=5000)(b:l.length<n):QU (WE n (l.map Sd) s) n 0=some (match pos (l.map (fun x=>x)) s with
  | some i=>.inl (i:Int)
  | none=>.inr ()):=by
 have:=Vr (step:=WE n (l.map Sd) s) (pG (fun x=>x) s) (fun _=>.inr ()) (fun i (_:Nat)=>(i:Int)) l (fun i t=>t=i)
  (fun i t x a c=>by
   have hi:=(jGj a).1;subst c;unfold pG WE;by_cases h:(fun x=>x) x=s
   ·rw[jTj h];dsimp only;rw[jTj (ZF a),el_S a,jBj,jTj (by rw[beqS];exact jDj h.symm)]
   ·rw[jFj h];refine⟨?_,rfl⟩;rw[jTj (ZF a),el_S a,jBj,jFj (by rw[beqS];exact fun e=>h ((of_decide_eq_true e).symm)),jTj (by unfold Qg;omega)];rfl)
  (fun t _=>by unfold WE;rw[jFj (by simp)]) (s:=0) rfl b
 rw[show(0:Int)=((0:Nat):Int) from rfl,this,Qc9];cases pos (l.map (fun x=>x)) s with
 | none=>rfl
 | some i=>simp only[Nat.zero_add]
theorem ZQ {n:Nat}(l:List jSj)(s:jSj)(a:l.length<=5000)(b:l.length<n):QC n (l.map Sd) s=some (zk l s):=by unfold QC zk;rw[Qkc l s a b,jBj,List.map_id'];cases pos l s<;>rfl
def ZG (l:List jSj)(s:jSj):Bool:=(pos l s).isSome
theorem Wp {n:Nat}(l:List jSj)(s:jSj)(a:l.length<=5000)(b:l.length<n):Zf n (l.map Sd) s=some (ZG l s):=by
 unfold Zf;rw[ZQ l s a b,jBj];congr 1
 rw[Bool.eq_iff_iff,decide_eq_true_eq,posI_nn];exact pos_mem.symm
theorem atL1 {n:Nat}{b c:Int}{d f:Bool}{g j m:Int}{o p:jVj}(l:List jSj)(s:jSj)(u:l.length<=5000)(q:l.length<n):QU (QnQ n b c d f g j m (l.map Sd) o p s) n 0=some (match pos (l.map (fun x=>x)) s with
  | some i=>.inl (i:Int)
  | none=>.inr ()):=by
 have:=Vr (step:=QnQ n b c d f g j m (l.map Sd) o p s) (pG (fun x=>x) s) (fun _=>.inr ()) (fun i (_:Nat)=>(i:Int)) l (fun i t=>t=i)
  (fun i t x a r=>by
   have hi:=(jGj a).1;subst r;unfold pG QnQ;by_cases h:(fun x=>x) x=s
   ·rw[jTj h];dsimp only;rw[jTj (ZF a),el_S a,jBj,jTj (by rw[beqS];exact jDj h)]
   ·rw[jFj h];refine⟨?_,rfl⟩;rw[jTj (ZF a),el_S a,jBj,jFj (by rw[beqS];exact fun e=>h (of_decide_eq_true e)),jTj (by unfold Qg;omega)];rfl)
  (fun t _=>by unfold QnQ;rw[jFj (by simp)]) (s:=0) rfl q
 rw[show(0:Int)=((0:Nat):Int) from rfl,this,Qc9];cases pos (l.map (fun x=>x)) s with
 | none=>rfl
 | some i=>simp only[Nat.zero_add]
theorem atL2 {n:Nat}{b c:Int}{d f:Bool}{g j m:Int}{o p:jVj}(l:List Mir)(s:jSj)(u:l.length<=5000)(q:l.length<n):QU (QnP n b c d f g j m o (l.map Q1) p s) n 0=some (match pos (l.map (fun x=>x.1)) s with
  | some i=>.inl (i:Int)
  | none=>.inr ()):=by
 have:=Vr (step:=QnP n b c d f g j m o (l.map Q1) p s) (pG (fun x=>x.1) s) (fun _=>.inr ()) (fun i (_:Nat)=>(i:Int)) l (fun i t=>t=i)
  (fun i t x a r=>by
   have hi:=(jGj a).1;subst r;unfold pG QnP;by_cases h:(fun x=>x.1) x=s
   ·rw[jTj h];dsimp only;rw[jTj (ZF a),UG unM a,jBj,jTj (by rw[beqS];exact jDj h)]
   ·rw[jFj h];refine⟨?_,rfl⟩;rw[jTj (ZF a),UG unM a,jBj,jFj (by rw[beqS];exact fun e=>h (of_decide_eq_true e)),jTj (by unfold Qg;omega)];rfl)
  (fun t _=>by unfold QnP;rw[jFj (by simp)]) (s:=0) rfl q
 rw[show(0:Int)=((0:Nat):Int) from rfl,this,Qc9];cases pos (l.map (fun x=>x.1)) s with
 | none=>rfl
 | some i=>simp only[Nat.zero_add]
theorem atL3 {n:Nat}{b c:Int}{d f:Bool}{g j m:Int}{o p:jVj}(l:List Off)(s:jSj)(u:l.length<=5000)(q:l.length<n):QU (QnO n b c d f g j m o p (l.map Zs) s) n 0=some (match pos (l.map (fun x=>x.1)) s with
  | some i=>.inl (i:Int)
  | none=>.inr ()):=by
 have:=Vr (step:=QnO n b c d f g j m o p (l.map Zs) s) (pG (fun x=>x.1) s) (fun _=>.inr ()) (fun i (_:Nat)=>(i:Int)) l (fun i t=>t=i)
  (fun i t x a r=>by
   have hi:=(jGj a).1;subst r;unfold pG QnO;by_cases h:(fun x=>x.1) x=s
   ·rw[jTj h];dsimp only;rw[jTj (ZF a),UG unO a,jBj,jTj (by rw[beqS];exact jDj h)]
   ·rw[jFj h];refine⟨?_,rfl⟩;rw[jTj (ZF a),UG unO a,jBj,jFj (by rw[beqS];exact fun e=>h (of_decide_eq_true e)),jTj (by unfold Qg;omega)];rfl)
  (fun t _=>by unfold QnO;rw[jFj (by simp)]) (s:=0) rfl q
 rw[show(0:Int)=((0:Nat):Int) from rfl,this,Qc9];cases pos (l.map (fun x=>x.1)) s with
 | none=>rfl
 | some i=>simp only[Nat.zero_add]
def nmM (l:List Mir):List jSj:=l.map fun x=>x.1
def nmO (l:List Off):List jSj:=l.map fun x=>x.1
theorem Zh (l:List Mir):(nmM l).length=l.length:=by unfold nmM;simp
theorem Wy (l:List Off):(nmO l).length=l.length:=by unfold nmO;simp
theorem at_s {n:Nat}{a b:Int}{c d:Bool}{e f g:Int}{h i:jVj}(l:List jSj)(s:jSj)(j:l.length<=5000)(m:l.length<n):Qnk n a b c d e f g (l.map Sd) h i 115 s=some (zk l s):=by unfold Qnk zk;rw[jTj rfl,atL1 l s j m,jBj,List.map_id'];cases pos l s<;>rfl
theorem at_m {n:Nat}{a b:Int}{c d:Bool}{e f g:Int}{h i:jVj}(l:List Mir)(s:jSj)(j:l.length<=5000)(m:l.length<n):Qnk n a b c d e f g h (l.map Q1) i 109 s=some (zk (nmM l) s):=by unfold Qnk zk nmM;rw[jFj (by decide),jTj rfl,atL2 l s j m,jBj];cases pos (l.map fun x=>x.1) s<;>rfl
theorem at_o {n:Nat}{a b:Int}{c d:Bool}{e f g:Int}{h i:jVj}(l:List Off)(s:jSj)(j:l.length<=5000)(m:l.length<n):Qnk n a b c d e f g h i (l.map Zs) 111 s=some (zk (nmO l) s):=by unfold Qnk zk nmO;rw[jFj (by decide),jFj (by decide),jTj rfl,atL3 l s j m,jBj];cases pos (l.map fun x=>x.1) s<;>rfl
theorem UE {n:Nat}{d e:jVj}{f g:Int}{h j:Bool}{m o p:Int}{a b:jVj}(l:List Mir)(r:l.length<=4000)(q:l.length<n):Qt n 109 d e f g h j m o p a (l.map Q1) b=some ((nmM l).map Sd):=by
 unfold Qt;have:=Y4 (step:=ZV n d e f g h j m o p a (l.map Q1) b) (E:=jVj) (fun out=>out) l (fun x=>[Sd x.1]) (fun _=>jLj _)
  (fun i out x c s=>by have hi:=(jGj c).1;unfold ZV QZ;dsimp only;rw[jTj (ZF c),jTj ⟨Int.natCast_nonneg i,ZF c⟩,Zc unM c,jBj,jBj,jTj (UO (by decide) (by omega)),jTj (by unfold Qg;omega)];rfl)
  (fun out _=>by unfold ZV;dsimp only;rw[jFj (by simp)]) q
 rw[jFj (by decide),jTj rfl,this,jBj,wQ];unfold nmM;rw[List.map_map];rfl
theorem X8 {n:Nat}{d e:jVj}{f g:Int}{h j:Bool}{m o p:Int}{a b:jVj}(l:List Off)(r:l.length<=4000)(q:l.length<n):Qt n 111 d e f g h j m o p a b (l.map Zs)=some ((nmO l).map Sd):=by
 unfold Qt;have:=Y4 (step:=ZU n d e f g h j m o p a b (l.map Zs)) (E:=jVj) (fun out=>out) l (fun x=>[Sd x.1]) (fun _=>jLj _)
  (fun i out x c s=>by have hi:=(jGj c).1;unfold ZU ZT;dsimp only;rw[jTj (ZF c),jTj ⟨Int.natCast_nonneg i,ZF c⟩,Zc unO c,jBj,jBj,jTj (UO (by decide) (by omega)),jTj (by unfold Qg;omega)];rfl)
  (fun out _=>by unfold ZU;dsimp only;rw[jFj (by simp)]) q
 rw[jFj (by decide),jFj (by decide),this,jBj,wQ];unfold nmO;rw[List.map_map];rfl
theorem qT {n:Nat}{c d:Int}{e f:Bool}{g h j:Int}{m a:jVj}(l:List Mir)(p:l.length<=4000)(o:l.length<n):QO n 109 c d e f g h j m (l.map Q1) a=some ((nmM l).map Sd):=by
 unfold QO;have:=Y4 (step:=ZE n c d e f g h j m (l.map Q1) a) (E:=jVj) (fun out=>out) l (fun x=>[Sd x.1]) (fun _=>jLj _)
  (fun i out x b q=>by have hi:=(jGj b).1;unfold ZE QZ;dsimp only;rw[jTj (ZF b),jTj ⟨Int.natCast_nonneg i,ZF b⟩,Zc unM b,jBj,jBj,jTj (UO (by decide) (by omega)),jTj (by unfold Qg;omega)];rfl)
  (fun out _=>by unfold ZE;dsimp only;rw[jFj (by simp)]) o
 rw[jFj (by decide),jTj rfl,this,jBj,wQ];unfold nmM;rw[List.map_map];rfl
theorem QfK {n:Nat}{b c:Int}{d e:Bool}{f g h:Int}{j m:jVj}(l:List Off)(p:l.length<=4000)(o:l.length<n):QO n 111 b c d e f g h j m (l.map Zs)=some ((nmO l).map Sd):=by
 unfold QO;have:=Y4 (step:=ZD n b c d e f g h j m (l.map Zs)) (E:=jVj) (fun out=>out) l (fun x=>[Sd x.1]) (fun _=>jLj _)
  (fun i out x a q=>by have hi:=(jGj a).1;unfold ZD ZT;dsimp only;rw[jTj (ZF a),jTj ⟨Int.natCast_nonneg i,ZF a⟩,Zc unO a,jBj,jBj,jTj (UO (by decide) (by omega)),jTj (by unfold Qg;omega)];rfl)
  (fun out _=>by unfold ZD;dsimp only;rw[jFj (by simp)]) o
 rw[jFj (by decide),jFj (by decide),this,jBj,wQ];unfold nmO;rw[List.map_map];rfl
theorem Yl {s:List Mir}{i:Nat}{y:Mir}:List.set (s.map Q1) i (Q1 y)=(s.set i y).map Q1:=by rw[List.map_set]
theorem Qc8 {s:List Mir}{i:Nat}{x:Mir}(h:s[i]?=some x):s.set i x=s:=by obtain⟨b,a⟩:=jGj h;rw[<-a,List.set_getElem_self]
theorem qQ {step:Int×jVj->Option (Int×jVj⊕jVj)}(f:Mir->Mir)(ms:List Mir)
  (a:∀(i:Nat) (s:List Mir) (x:Mir),s.length=ms.length->s[i]?=some x->step ((i:Int),s.map Q1)=some (.inl (((i+1:Nat):Int),(s.set i (f x)).map Q1)))
  (b:∀s:List Mir,s.length=ms.length->step ((ms.length:Int),s.map Q1)=some (.inr (s.map Q1))) {k:Nat} (g:ms.length<k) :
  QU step k (0,ms.map Q1)=some ((ms.map f).map Q1):=by
 have h:∀(m i:Nat) (k:Nat),i+m=ms.length->m<k->QU step k ((i:Int),((ms.take i).map f++ms.drop i).map Q1)=some ((ms.map f).map Q1):=by
  intro m;induction m with
  | zero =>
   intro i k hi g;obtain⟨k,rfl⟩:∃j,k=j+1:=⟨k - 1,by omega⟩
   have e:i=ms.length:=by omega
   subst e;rw[List.take_length,List.drop_length,List.append_nil,ZP (b _ (by simp))]
  | succ m ih =>
   intro i k hi g;obtain⟨k,rfl⟩:∃j,k=j+1:=⟨k - 1,by omega⟩
   have d:i<ms.length:=by omega
   have c:((ms.take i).map f++ms.drop i).length=ms.length:=by simp;omega
   have n:((ms.take i).map f++ms.drop i)[i]?=some ms[i]:=by rw[List.getElem?_append_right (by simp;omega)];simp;rw[jej (by omega)];congr 2;omega
   rw[W8 (a i _ _ c n)];have e:((ms.take i).map f++ms.drop i).set i (f ms[i])=(ms.take (i+1)).map f++ms.drop (i+1):=by
    rw[List.set_append_right _ _ (by simp;omega)];have l:((ms.take i).map f).length=i:=by simp;omega
    rw[l,Nat.sub_self,List.drop_eq_getElem_cons d,List.set_cons_zero,List.take_succ_eq_append_getElem d,List.map_append];simp
   rw[e];exact ih (i+1) k (by omega) (by omega)
 have:=h ms.length 0 k (by omega) g;simpa using this
def Xi (m:Mir):Mir:=(m.1,m.2.1,m.2.2.1,m.2.2.2.1,m.2.2.2.2.1,false)
def kf (s:jSj)(m:Mir):Mir:=if m.2.1=s then Xi m else m
theorem Qkw {n:Nat}{g:Int}{j s:jSj}{l:jVj}{m:jSj}{o p:Int}{q r:Bool}{t a b:Int}{c d:jVj}(ms:List Mir)(y:ms.length<=5000)(v:ms.length<n):Vi n g j [Sd s] l m o p q r t a b c (ms.map Q1) d=some ((ms.map (kf s)).map Q1):=by
 unfold Vi;have:=qQ (step:=Z6 n g j [Sd s] l m o p q r t a b c (ms.map Q1) d) (kf s) ms
  (fun i u x w f=>by
   have hi:=(jGj f).1;unfold Z6 WW;dsimp only;rw[jTj (by simp;omega),jTj ⟨Int.natCast_nonneg i,ZF f⟩,Zc unM f,jBj];rw[show el Vg [Sd s] 0=some s from rfl,jBj,jBj];unfold kf;by_cases h:x.2.1=s
   ·rw[jTj (by rw[beqS];exact jDj h),jTj (by unfold Qg;omega),jTj h,<-Yl,jtj];rfl
   ·rw[jFj (by rw[beqS];exact fun e=>h (of_decide_eq_true e)),jTj (by unfold Qg;omega),jFj h,Qc8 f];rfl)
  (fun u w=>by unfold Z6;dsimp only;rw[jFj (by simp)]) v
 rw[this];rfl
theorem QjY {n:Nat}{l:Int}{m s:jSj}{o:jVj}{p:jSj}{q r:jVj}{t v:Int}{w a:Bool}{b c d:Int}{f g:jVj}(ms:List Mir)(A:ms.length<=5000)(y:ms.length<n):WZ n l m [Sd s] o p q r t v w a b c d f (ms.map Q1) g=some ((ms.map (kf s)).map Q1):=by
 unfold WZ;have:=qQ (step:=ZN n l m [Sd s] o p q r t v w a b c d f (ms.map Q1) g) (kf s) ms
  (fun i u x z j=>by
   have hi:=(jGj j).1;unfold ZN WW;dsimp only;rw[jTj (by simp;omega),jTj ⟨Int.natCast_nonneg i,ZF j⟩,Zc unM j,jBj];rw[show el Vg [Sd s] 0=some s from rfl,jBj,jBj];unfold kf;by_cases h:x.2.1=s
   ·rw[jTj (by rw[beqS];exact jDj h),jTj (by unfold Qg;omega),jTj h,<-Yl,jtj];rfl
   ·rw[jFj (by rw[beqS];exact fun e=>h (of_decide_eq_true e)),jTj (by unfold Qg;omega),jFj h,Qc8 j];rfl)
  (fun u z=>by unfold ZN;dsimp only;rw[jFj (by simp)]) y
 rw[this];rfl
theorem Qkv {n:Nat}{b c:Int}{d e:Bool}{f g h:Int}{j l:jVj}(ms:List Mir)(p:ms.length<=5000)(m:ms.length<n):W0 n b c d e f g h j (ms.map Q1) l=some ((ms.map Xi).map Q1):=by
 unfold W0;have:=qQ (step:=ZO n b c d e f g h j (ms.map Q1) l) Xi ms
  (fun i u x o a=>by have hi:=(jGj a).1;unfold ZO WV;dsimp only;rw[jTj (by simp;omega),jTj ⟨Int.natCast_nonneg i,ZF a⟩,Zc unM a,jBj];rw[jBj,jTj rfl,jTj (by unfold Qg;omega),<-Yl,jtj];rfl)
  (fun u o=>by unfold ZO;dsimp only;rw[jFj (by simp)]) m
 rw[this];rfl
theorem QjX {n:Nat}{c d:jVj}{e f:Int}{g h:Bool}{j l m:Int}{o a:jVj}(ms:List Mir)(r:ms.length<=5000)(p:ms.length<n):WY n c d e f g h j l m o (ms.map Q1) a=some ((ms.map Xi).map Q1):=by
 unfold WY;have:=qQ (step:=ZM n c d e f g h j l m o (ms.map Q1) a) Xi ms
  (fun i u x q b=>by have hi:=(jGj b).1;unfold ZM WV;dsimp only;rw[jTj (by simp;omega),jTj ⟨Int.natCast_nonneg i,ZF b⟩,Zc unM b,jBj];rw[jBj,jTj rfl,jTj (by unfold Qg;omega),<-Yl,jtj];rfl)
  (fun u q=>by unfold ZM;dsimp only;rw[jFj (by simp)]) p
 rw[this];rfl
theorem QsT {n:Nat}{g h:Int}{j l:Bool}{m o p:Int}{q r s:jVj}{a:Int}{b:jSj}{c d:jVj}{e:jSj}{v:Int}{w:Int×Int×Int}(ms:List Mir)(z:ms.length<=5000)(y:ms.length<n):QU (Qnj n g h j l m o p q r s a b c d e v w) n (0,ms.map Q1)=some ((ms.map Xi).map Q1):=by
 exact qQ (step:=Qnj n g h j l m o p q r s a b c d e v w) Xi ms
  (fun i u x t f=>by have hi:=(jGj f).1;unfold Qnj;dsimp only;rw[jTj (by simp;omega),jTj ⟨Int.natCast_nonneg i,ZF f⟩,Zc unM f,jBj];rw[jTj (by unfold Qg;omega),<-Yl,jtj];rfl)
  (fun u t=>by unfold Qnj;dsimp only;rw[jFj (by simp[t])]) y
theorem QsU {n:Nat}{j l:Int}{m o:Bool}{p q r:Int}{t v w:jVj}{a:Int}{b:jSj}{c d:jVj}{f:jSj}{z:Int}{A:Int×Int×Int}{s:jSj}(ms:List Mir)(E:ms.length<=5000)(C:ms.length<n):QU (Qni n j l m o p q r t v w a b c d f z A s) n (0,ms.map Q1)=some ((ms.map (kf s)).map Q1):=by
 exact qQ (step:=Qni n j l m o p q r t v w a b c d f z A s) (kf s) ms
  (fun i u x y g=>by
   have hi:=(jGj g).1;unfold Qni;dsimp only;rw[jTj (by simp;omega),jTj ⟨Int.natCast_nonneg i,ZF g⟩,Zc unM g,jBj];unfold kf;by_cases h:x.2.1=s
   ·rw[jTj (by rw[beqS];exact jDj h),jTj (by unfold Qg;omega),jTj h,<-Yl,jtj];rfl
   ·rw[jFj (by rw[beqS];exact fun e=>h (of_decide_eq_true e)),jTj (by unfold Qg;omega),jFj h,Qc8 g];rfl)
  (fun u y=>by unfold Qni;dsimp only;rw[jFj (by simp[y])]) C
def aG (_:Unit)(m:Mir):Unit⊕(Unit⊕Unit):=if isA m=true then .inr (.inl ()) else .inl ()
theorem Qda:∀(l:List Mir),Kw aG (fun _=>.inr ()) l ()=if l.any isA=true then .inl () else .inr ()
 | []=>rfl
 | x::l=>by
  unfold Kw aG;by_cases h:isA x=true
  ·rw[jTj h];simp[h]
  ·rw[jFj h];simp only[List.any_cons,h,Bool.false_or];exact Qda l
theorem Qkl {n:Nat}{d e:jVj}{f g:Int}{j l:Bool}{o p q:Int}{r c:jVj}(ms:List Mir)(u:ms.length<=5000)(t:ms.length<n):VE n d e f g j l o p q r (ms.map Q1) c=some (ms.any isA):=by
 unfold VE;have:=Vr (step:=Wn n d e f g j l o p q r (ms.map Q1) c) aG (fun _=>.inr ()) (fun i _=>(i:Int)) ms (fun _ _=>True)
  (fun i _ m b _=>by
   have hi:=(jGj b).1;unfold aG Wn;by_cases a:isA m=true
   ·rw[jTj a];dsimp only;rw[jTj (ZF b),jTj ⟨Int.natCast_nonneg i,ZF b⟩,Zc unM b,jBj];unfold isA at a;rw[jTj a,jFj (by rw[a];simp)]
   ·rw[jFj a];refine⟨?_,trivial⟩;rw[jTj (ZF b),jTj ⟨Int.natCast_nonneg i,ZF b⟩,Zc unM b,jBj];unfold isA at a;rw[jFj a,jTj (by unfold Qg;omega)];rfl)
  (fun s _=>by unfold Wn;rw[jFj (by simp)]) (s:=()) trivial t
 rw[show(0:Int)=((0:Nat):Int) from rfl,this,Qda];by_cases h:ms.any isA=true
 ·rw[jTj h,h];rfl
 ·rw[jFj h];simp only[Bool.not_eq_true] at h;rw[h];rfl
def kD (ms:List Mir):List jSj:=(ms.filter isA).map fun x=>x.1
theorem QfY:∀(ms:List Mir),(ms.flatMap fun x=>if isA x=true then[Sd x.1] else[])=(kD ms).map Sd
 | []=>rfl
 | x::l=>by
  rw[List.flatMap_cons,QfY l];unfold kD;by_cases h:isA x=true
  ·rw[jTj h,List.filter_cons_of_pos h];rfl
  ·rw[jFj h,List.filter_cons_of_neg h];rfl
theorem QrS {n:Nat}{b c:Int}{d e:Bool}{f g j:Int}{l m:jVj}(ms:List Mir)(p:ms.length<=4000)(o:ms.length<n):Qog n b c d e f g j l (ms.map Q1) m=some ((kD ms).map Sd):=by
 unfold Qog;have:=Y4 (step:=Qnw n b c d e f g j l (ms.map Q1) m) (E:=jVj) (fun out=>out) ms (fun x=>if isA x=true then[Sd x.1] else[]) (fun x=>by split<;>simp)
  (fun i out x a q=>by
   have hi:=(jGj a).1;unfold Qnw;dsimp only;rw[jTj (ZF a),UG unM a,jBj];unfold isA;by_cases h:x.2.2.2.2.2=true
   ·rw[jTj h,jTj h,jTj (UO (by decide) (by omega)),jTj (by unfold Qg;omega)];rfl
   ·rw[jFj h,jFj h,jTj (by unfold Qg;omega),List.append_nil];rfl)
  (fun out _=>by unfold Qnw;dsimp only;rw[jFj (by simp)]) o
 rw[this,QfY];rfl
def WC (o:Off):Int:=o.2.2.2.1 - o.2.2.2.2.2.1
def Gr (o:Off):Int:=o.2.2.2.2.1*o.2.2.2.2.2.1 - 2*o.2.2.2.2.1*WC o
theorem Kg {o:Off}(h:okO o):(0<=WC o/\WC o<=1000)/\(0<=o.2.2.2.2.1*o.2.2.2.2.2.1/\o.2.2.2.2.1*o.2.2.2.2.2.1<=1000000)/\(0<=2*o.2.2.2.2.1*WC o/\2*o.2.2.2.2.1*WC o<=2000000)/\(-2000000<=Gr o/\Gr o<=1000000):=by
 obtain⟨f,e,i⟩:=h;have d:0<=WC o/\WC o<=1000:=by unfold WC;omega
 have a:=jI (g:=o.2.2.2.2.1) (c:=o.2.2.2.2.2.1) (p:=1000) (q:=1000) e (by omega);have b:=jI (g:=2*o.2.2.2.2.1) (c:=WC o) (p:=2000) (q:=1000) (by omega) d;refine⟨d,by omega,by omega,?_⟩;unfold Gr;omega
theorem jh (n:Nat){o:Off}(h:okO o):Za n o.1 o.2.1 o.2.2.1 o.2.2.2.1 o.2.2.2.2.1 o.2.2.2.2.2.1 o.2.2.2.2.2.2=some (WC o):=by obtain⟨a,_⟩:=Kg h;unfold WC at a;unfold Za WC;rw[jTj (by unfold Qg;omega)]
theorem QcA (n:Nat){o:Off}(h:okO o):WQ n o.1 o.2.1 o.2.2.1 o.2.2.2.1 o.2.2.2.2.1 o.2.2.2.2.2.1 o.2.2.2.2.2.2=some (Gr o):=by obtain⟨a,b,c,d⟩:=Kg h;have e:=h.2.1;unfold WQ;rw[jh n h,jTj (by unfold Qg;omega),jTj (by unfold Qg;omega),jBj,jTj (by unfold Qg;omega)];unfold Gr at d ⊢;rw[jTj (by unfold Qg;omega)]
theorem QqJ (n:Nat){o:Off}(h:okO o):Za n o.1 o.2.1 o.2.2.1 o.2.2.2.1 o.2.2.2.2.1 o.2.2.2.2.2.1 o.2.2.2.2.2.2=some (WC o):=by obtain⟨a,_⟩:=Kg h;unfold WC at a;unfold Za WC;rw[jTj (by unfold Qg;omega)]
theorem Qsa (n:Nat){o:Off}(h:okO o):WQ n o.1 o.2.1 o.2.2.1 o.2.2.2.1 o.2.2.2.2.1 o.2.2.2.2.2.1 o.2.2.2.2.2.2=some (Gr o):=by obtain⟨a,b,c,d⟩:=Kg h;have e:=h.2.1;unfold WQ;rw[QqJ n h,jTj (by unfold Qg;omega),jTj (by unfold Qg;omega),jBj,jTj (by unfold Qg;omega)];unfold Gr at d ⊢;rw[jTj (by unfold Qg;omega)]
inductive Ki where
 | sector
 | mirror
 | soil
 | clean
 | defect
 | repair
 | aim
 | park
 | dim
 | sun
 | fill
 | drain
 | trip
 | reset
 | offer
 | deliver
 | bill
 | undo
 deriving DecidableEq
def kw:Ki->List UInt8
 | .sector=>[115,101,99,116,111,114]
 | .mirror=>[109,105,114,114,111,114]
 | .soil=>[115,111,105,108]
 | .clean=>[99,108,101,97,110]
 | .defect=>[100,101,102,101,99,116]
 | .repair=>[114,101,112,97,105,114]
 | .aim=>[97,105,109]
 | .park=>[112,97,114,107]
 | .dim=>[100,105,109]
 | .sun=>[115,117,110]
 | .fill=>[102,105,108,108]
 | .drain=>[100,114,97,105,110]
 | .trip=>[116,114,105,112]
 | .reset=>[114,101,115,101,116]
 | .offer=>[111,102,102,101,114]
 | .deliver=>[100,101,108,105,118,101,114]
 | .bill=>[98,105,108,108]
 | .undo=>[117,110,100,111]
def kr:Ki->List UInt8
 | .sector=>[83]
 | .mirror=>[77,115]
 | .soil=>[109]
 | .clean=>[109]
 | .defect=>[109]
 | .repair=>[109]
 | .aim=>[109]
 | .park=>[109]
 | .dim=>[115]
 | .sun=>[]
 | .fill=>[]
 | .drain=>[]
 | .trip=>[]
 | .reset=>[]
 | .offer=>[79]
 | .deliver=>[111]
 | .bill=>[111]
 | .undo=>[]
def kn (k:Ki):Nat:=(kr k).length
def kv:Ki->Nat
 | .sector=>1
 | .mirror=>2
 | .soil=>2
 | .clean=>1
 | .defect=>1
 | .repair=>1
 | .aim=>1
 | .park=>1
 | .dim=>1
 | .sun=>2
 | .fill=>1
 | .drain=>1
 | .trip=>1
 | .reset=>1
 | .offer=>5
 | .deliver=>2
 | .bill=>1
 | .undo=>0
def allKd:List Ki:=[.sector,.mirror,.soil,.clean,.defect,.repair,.aim,.park,.dim,.sun,.fill,.drain,.trip,.reset,.offer,.deliver,.bill,.undo]
def zl (l:List UInt8):Option Ki:=allKd.find? fun k=>decide (kw k=l)
theorem qZ (k:Ki):zl (kw k)=some k:=by cases k<;>decide
theorem JV {l:List UInt8}{k:Ki}(h:zl l=some k):l=kw k:=by have:=List.find?_some h;simpa using(of_decide_eq_true this).symm
theorem jQ {l:List UInt8}(h:zl l=none)(k:Ki):l≠kw k:=by intro e;rw[e,qZ] at h;cases h
theorem kne {a:jSj}{L:List UInt8}(h:a.data.toList=L){l:Array UInt8}(b:L≠l.toList):¬((a.toList==(⟨l⟩:jSj).toList)=true):=by rw[kq,h];exact b
theorem keq {a:jSj}{L:List UInt8}(h:a.data.toList=L){l:Array UInt8}(b:L=l.toList):(a.toList==(⟨l⟩:jSj).toList)=true:=by rw[kq,h];exact b
theorem dne {a:jSj}{L M:List UInt8}(h:a.data.toList=L)(b:L≠M):¬a.data.toList=M:=by rw[h];exact b
theorem kno {a:jSj}(h:zl a.data.toList=none)(k:Ki){l:Array UInt8}(b:l.toList=kw k):¬((a.toList==(⟨l⟩:jSj).toList)=true):=by rw[kq,b];exact jQ h k
theorem Qmm (n:Nat){a:jSj}:∀{k:Ki},a.data.toList=kw k->QmD n a=some (mkS (kr k),(kv k:Int),true)
 | .sector,h=>by unfold QmD;rw[jTj (keq h rfl)];rfl
 | .mirror,h=>by unfold QmD;(iterate 1 rw[jFj (kne h (by decide))]);rw[jTj (keq h rfl)];rfl
 | .soil,h=>by unfold QmD;(iterate 2 rw[jFj (kne h (by decide))]);rw[jTj (keq h rfl)];rfl
 | .clean,h=>by unfold QmD;(iterate 3 rw[jFj (kne h (by decide))]);rw[jTj (keq h rfl)];rfl
 | .defect,h=>by unfold QmD;(iterate 4 rw[jFj (kne h (by decide))]);rw[jTj (keq h rfl)];rfl
 | .repair,h=>by unfold QmD;(iterate 5 rw[jFj (kne h (by decide))]);rw[jTj (keq h rfl)];rfl
 | .aim,h=>by unfold QmD;(iterate 6 rw[jFj (kne h (by decide))]);rw[jTj (keq h rfl)];rfl
 | .park,h=>by unfold QmD;(iterate 7 rw[jFj (kne h (by decide))]);rw[jTj (keq h rfl)];rfl
 | .dim,h=>by unfold QmD;(iterate 8 rw[jFj (kne h (by decide))]);rw[jTj (keq h rfl)];rfl
 | .sun,h=>by unfold QmD;(iterate 9 rw[jFj (kne h (by decide))]);rw[jTj (keq h rfl)];rfl
 | .fill,h=>by unfold QmD;(iterate 10 rw[jFj (kne h (by decide))]);rw[jTj (keq h rfl)];rfl
 | .drain,h=>by unfold QmD;(iterate 11 rw[jFj (kne h (by decide))]);rw[jTj (keq h rfl)];rfl
 | .trip,h=>by unfold QmD;(iterate 12 rw[jFj (kne h (by decide))]);rw[jTj (keq h rfl)];rfl
 | .reset,h=>by unfold QmD;(iterate 13 rw[jFj (kne h (by decide))]);rw[jTj (keq h rfl)];rfl
 | .offer,h=>by unfold QmD;(iterate 14 rw[jFj (kne h (by decide))]);rw[jTj (keq h rfl)];rfl
 | .deliver,h=>by unfold QmD;(iterate 15 rw[jFj (kne h (by decide))]);rw[jTj (keq h rfl)];rfl
 | .bill,h=>by unfold QmD;(iterate 16 rw[jFj (kne h (by decide))]);rw[jTj (keq h rfl)];rfl
 | .undo,h=>by unfold QmD;(iterate 17 rw[jFj (kne h (by decide))]);rw[jTj (keq h rfl)];rfl
theorem Qml (n:Nat){a:jSj}(h:zl a.data.toList=none):QmD n a=some (⟨#[]⟩,0,false):=by unfold QmD;rw[jFj (kno h .sector rfl),jFj (kno h .mirror rfl),jFj (kno h .soil rfl),jFj (kno h .clean rfl),jFj (kno h .defect rfl),jFj (kno h .repair rfl),jFj (kno h .aim rfl),jFj (kno h .park rfl),jFj (kno h .dim rfl),jFj (kno h .sun rfl),jFj (kno h .fill rfl),jFj (kno h .drain rfl),jFj (kno h .trip rfl),jFj (kno h .reset rfl),jFj (kno h .offer rfl),jFj (kno h .deliver rfl),jFj (kno h .bill rfl),jFj (kno h .undo rfl)]
theorem QkF {a b:jSj}(h:(a==b)=true):a=b:=by cases a;cases b;have c : (ByteArray.mk _==ByteArray.mk _)=true:=h;simp only[ByteArray.mk.injEq];exact eq_of_beq h
theorem Qgq {s:jSj}:∀{j:Value},Y1 (.string s) j=some true->j=.string s:=by intro j h;cases j<;>simp[Y1] at h;rw[QkF h]
theorem jJ:∀(es:jVj) (s:jSj),(W5 (.string s) es).isSome=true->∃x,D.tup [.v (.string s),x]∈es
 | [],s,h=>by simp[W5] at h
 | e::es,s,h=>by
  unfold W5 at h;split at h
  ·rename_i j x b;split at h
   ·rename_i d;have:j=.string s:=Qgq d;subst this;refine⟨x,?_⟩;unfold SX.keyOf at b;split at b<;>try cases b
    rename_i l;unfold QhF at b;split at b
    ·cases b
    ·rename_i a l;split at b
     ·cases b
     ·rename_i y r;split at b
      ·split at b
       ·rename_i k c;cases b;unfold vOf at c;split at c<;>cases c;exact jMj
       ·cases b
      ·cases b
   ·obtain⟨x,f⟩:=jJ es s h;exact⟨x,jmj _ f⟩
  ·cases h
theorem jw {a:jSj}(h:(W5 (.string a) GB).isSome=true):∃k,a.data.toList=kw k:=by
 obtain⟨x,b⟩:=jJ _ _ h;unfold GB at b;simp only[List.mem_cons,D.tup.injEq,List.cons.injEq,D.v.injEq,Value.string.injEq,List.not_mem_nil,or_false] at b;obtain h|h|h|h|h|h|h|h|h|h|h|h|h|h|h|h|h|h:=b
 ·exact⟨.sector,by rw[h.1];rfl⟩
 ·exact⟨.mirror,by rw[h.1];rfl⟩
 ·exact⟨.soil,by rw[h.1];rfl⟩
 ·exact⟨.clean,by rw[h.1];rfl⟩
 ·exact⟨.defect,by rw[h.1];rfl⟩
 ·exact⟨.repair,by rw[h.1];rfl⟩
 ·exact⟨.aim,by rw[h.1];rfl⟩
 ·exact⟨.park,by rw[h.1];rfl⟩
 ·exact⟨.dim,by rw[h.1];rfl⟩
 ·exact⟨.sun,by rw[h.1];rfl⟩
 ·exact⟨.fill,by rw[h.1];rfl⟩
 ·exact⟨.drain,by rw[h.1];rfl⟩
 ·exact⟨.trip,by rw[h.1];rfl⟩
 ·exact⟨.reset,by rw[h.1];rfl⟩
 ·exact⟨.offer,by rw[h.1];rfl⟩
 ·exact⟨.deliver,by rw[h.1];rfl⟩
 ·exact⟨.bill,by rw[h.1];rfl⟩
 ·exact⟨.undo,by rw[h.1];rfl⟩
theorem QjQ:∀(k:Ki),((W5 (.string (mkS (kw k))) GB).bind Kt).map (fun x=>(x.1,x.2.1))=some (mkS (kr k),(kv k:Int))
 | .sector=>by kernel_rfl
 | .mirror=>by kernel_rfl
 | .soil=>by kernel_rfl
 | .clean=>by kernel_rfl
 | .defect=>by kernel_rfl
 | .repair=>by kernel_rfl
 | .aim=>by kernel_rfl
 | .park=>by kernel_rfl
 | .dim=>by kernel_rfl
 | .sun=>by kernel_rfl
 | .fill=>by kernel_rfl
 | .drain=>by kernel_rfl
 | .trip=>by kernel_rfl
 | .reset=>by kernel_rfl
 | .offer=>by kernel_rfl
 | .deliver=>by kernel_rfl
 | .bill=>by kernel_rfl
 | .undo=>by kernel_rfl
theorem yM {a:jSj}{k:Ki}(h:a.data.toList=kw k):(W5 (.string a) GB).isSome=true/\∃f g,(W5 (.string a) GB).bind Kt=some (mkS (kr k),(kv k:Int),f,g):=by
 have e:a=mkS (kw k):=by rw[<-h,UA]
 subst e;have:=QjQ k;cases hm:W5 (.string (mkS (kw k))) GB with
 | none=>rw[hm] at this;cases this
 | some d =>
  rw[hm,jBj] at this;refine⟨rfl,?_⟩;obtain⟨x,i,j⟩:=Option.map_eq_some_iff.1 this;refine⟨x.2.2.1,x.2.2.2,?_⟩;rw[jBj,i];obtain⟨b,c⟩:=Prod.mk.inj j;rw[<-b,<-c]
abbrev Ev:=Int×jSj×List jSj×List Int×jSj
def Q5 (e:Ev):D:=VQ (e.1,e.2.1,e.2.2.1.map Sd,e.2.2.2.1.map I,e.2.2.2.2)
def QnI (e:Ev):Prop:=e.2.1.size<=40/\e.2.2.1.length<=6/\e.2.2.2.1.length<=8/\e.2.2.2.2.size<=200/\∀s,s∈e.2.2.1->s.size<=40
def valB (v:Int):Bool:=decide (inR v 0 999999999=0)
def chk (e:Ev):Int:=if inR e.1 1 1000=0 then(match zl e.2.1.data.toList with
 | none=>13
 | some k=>if e.2.2.1.length=kn k/\e.2.2.2.1.length=kv k then(if e.2.2.1.all Yw=true then(if e.2.2.2.1.all valB=true then(if e.2.2.2.2.size=0 then 0 else 1) else 3) else 8) else 2) else 3
structure Good (e:Ev) (k:Ki):Prop where
 num:1<=e.1/\e.1<=1000
 kind:e.2.1.data.toList=kw k
 names:e.2.2.1.length=kn k
 vals:e.2.2.2.1.length=kv k
 name:∀s,s∈e.2.2.1->Yw s=true
 val:∀v,v∈e.2.2.2.1->0<=v/\v<=999999999
 text:e.2.2.2.2.size=0
theorem Qec {e:Ev}(h:chk e=0):∃k,Good e k:=by
 unfold chk at h;split at h;case isFalse=>cases h
 rename_i b;split at h
 ·cases h
 rename_i k g;split at h;case isFalse=>cases h
 rename_i a;split at h;case isFalse=>cases h
 rename_i c;split at h;case isFalse=>cases h
 rename_i d;split at h;case isFalse=>cases h
 rename_i f;refine⟨k,WS.1 b,JV g,a.1,a.2,List.all_eq_true.1 c,fun v i=>?_,f⟩;have:=List.all_eq_true.1 d v i;exact WS.1 (of_decide_eq_true this)
theorem Qi7 {n:Nat}(d:100<=n)(l:List jSj)(c:l.length<=60)(b:∀s,s∈l->s.size<n):Wz n (l.map Sd)=some ((l.map fun s=>QD (!Yw s) 8).map I):=by
 unfold Wz;have:=Y4 (step:=Ve n (l.map Sd)) (E:=jVj) (fun out=>out) l (fun s=>[I (QD (!Yw s) 8)]) (fun _=>jLj _)
  (fun i out x a e=>by have hi:=(jGj a).1;unfold Ve V4;dsimp only;rw[jTj (ZF a),el_S a,jBj,QgI (by have:=b x (jgj a);omega),jBj,QR,jBj,jBj,jTj (UO (by decide) (by omega)),jTj (by unfold Qg;omega)];rfl)
  (fun out _=>by unfold Ve;dsimp only;rw[jFj (by simp)]) (k:=n) (by omega)
 rw[this,jBj,wQ,List.map_map];rfl
theorem Qi6 {n:Nat}(c:100<=n)(l:List Int)(b:l.length<=60):Z0 n (l.map I)=some ((l.map fun v=>inR v 0 999999999).map I):=by
 unfold Z0;have:=Y4 (step:=WL n (l.map I)) (E:=jVj) (fun out=>out) l (fun v=>[I (inR v 0 999999999)]) (fun _=>jLj _)
  (fun i out x a d=>by have hi:=(jGj a).1;unfold WL V3;dsimp only;rw[jTj (ZF a),Ei a,jBj,YR,jBj,jBj,jTj (UO (by decide) (by omega)),jTj (by unfold Qg;omega)];rfl)
  (fun out _=>by unfold WL;dsimp only;rw[jFj (by simp)]) (k:=n) (by omega)
 rw[this,jBj,wQ,List.map_map];rfl
theorem Qbt:∀(l:List jSj),QK (l.map fun s=>QD (!Yw s) 8)=if l.all Yw=true then 0 else 8
 | []=>rfl
 | s::l=>by
  have a:=Qbt l;rw[jCj];unfold QK QD;unfold QD at a;cases h:Yw s with
  | true=>simp only[Bool.not_true,Bool.false_eq_true,if_false,if_true,List.all_cons,h,Bool.true_and];exact a
  | false=>simp[h]
theorem QdT:∀(l:List Int),QK (l.map fun v=>inR v 0 999999999)=if l.all valB=true then 0 else 3
 | []=>rfl
 | v::l=>by
  have a:=QdT l;rw[jCj];unfold QK;obtain h|h:=QeR v 0 999999999
  ·rw[jTj h,a];simp[valB,h]
  ·rw[h,jFj (by decide)];simp[valB,h]
theorem QiK (s:jSj):(!(s.toList==(⟨#[]⟩:jSj).toList))=decide (s.size≠0):=by rw[QfH];by_cases h:s.size=0<;>simp[h]
theorem Qcw {n:Nat}(u:100<=n)(e:Ev)(A:e.2.2.1.length<=6)(C:e.2.2.2.1.length<=8)(y:∀s,s∈e.2.2.1->s.size<n):Wv n e.1 e.2.1 (e.2.2.1.map Sd) (e.2.2.2.1.map I) e.2.2.2.2=some (chk e):=by
 have a:(Wz n (e.2.2.1.map Sd)).bind (fun t9=>(Qi n t9).bind fun t10=>(Z0 n (e.2.2.2.1.map I)).bind fun p=>(Qi n p).bind fun q =>
   (Qr n (!(e.2.2.2.2.toList==(⟨#[]⟩:jSj).toList)) 1).bind fun r=>(Qi n ([I t10,I q,I r])).bind fun t=>some t) =
   some (if e.2.2.1.all Yw=true then(if e.2.2.2.1.all valB=true then(if e.2.2.2.2.size=0 then 0 else 1) else 3) else 8):=by
  rw[Qi7 u _ (by omega) y,jBj,qf _ (by simp;omega) (by simp;omega),jBj,Qi6 u _ (by omega),jBj,qf _ (by simp;omega) (by simp;omega),jBj,
   Qbt,QdT,QR,jBj,uT (by omega),jBj,QiK]
  unfold QD QK QK QK QK;by_cases i:e.2.2.1.all Yw=true<;>by_cases c:e.2.2.2.1.all valB=true<;>by_cases w:e.2.2.2.2.size=0<;>simp[i,c,w]
 unfold Wv;cases hk:zl e.2.1.data.toList with
 | none =>
  have m:¬(W5 (.string e.2.1) GB).isSome=true:=fun h=>by obtain⟨k,l⟩:=jw h;exact jQ hk k l
  rw[jFj m,YR,jBj];unfold Kp Yt;simp only[jBj,QR];unfold chk;rw[hk];have j:∀x:Int,Qi n ([I (inR e.1 1 1000),I 13,I x])=some (if inR e.1 1 1000=0 then 13 else 3):=by intro x;rw[uT (by omega)];unfold QK QK;obtain h|h:=QeR e.1 1 1000<;>rw[h]<;>simp
  have v:¬(if inR e.1 1 1000=0 then(13:Int) else 3)=0:=by split<;>decide
  split
  ·rw[j,jBj,jFj v]
  ·rw[j,jBj,jFj v]
 | some k =>
  obtain⟨b,f,g,d⟩:=yM (JV hk);rw[jTj b,d,jBj,YR,jBj];unfold Kq Yt;simp only[jBj,QR];unfold chk;rw[hk];have j:∀x:Int,Qi n ([I (inR e.1 1 1000),I 0,I x])=some (if inR e.1 1 1000=0 then x else 3):=by intro x;rw[uT (by omega)];unfold QK QK QK QK;obtain h|h:=QeR e.1 1 1000<;>rw[h]<;>simp;intro h;exact h.symm
  have o:((mkS (kr k)).size:Int)=(kn k:Int):=by unfold kn mkS ByteArray.size;simp
  simp only[j,jBj,jlj,o];by_cases g0:inR e.1 1 1000=0
  ·simp only[g0,if_true];by_cases i:e.2.2.1.length=kn k
   ·rw[jTj (by omega)];by_cases c:e.2.2.2.1.length=kv k
    ·have z:e.2.2.1.length=kn k/\e.2.2.2.1.length=kv k:=⟨i,c⟩
     have:(((e.2.2.2.1.length:Nat):Int) != (kv k:Int))=false:=by simp[c]
     rw[this];simp only[QD,Bool.false_eq_true,if_false,if_true];rw[jTj z];simp only[QR,jBj,QD] at a;exact a
    ·have:(((e.2.2.2.1.length:Nat):Int) != (kv k:Int))=true:=by simp;omega
     rw[this];simp only[QD,if_true];rw[jFj (by decide),jFj (fun h=>c h.2)]
   ·rw[jFj (by omega),jFj (by decide),jFj (fun h=>i h.1)]
  ·simp only[g0,if_false];split
   ·rw[jFj (by decide)]
   ·rw[jFj (by decide)]
def nG (_:Unit)(s:jSj):Unit⊕(Unit⊕Unit):=if Yw s=true then .inl () else .inr (.inl ())
theorem QlO:∀(l:List jSj),Kw nG (fun _=>.inr ()) l ()=if l.all Yw=true then .inr () else .inl ()
 | []=>rfl
 | s::l=>by
  unfold Kw nG;by_cases h:Yw s=true
  ·rw[jTj h];simp only[List.all_cons,h,Bool.true_and];exact QlO l
  ·rw[jFj h];simp[h]
def vG (_:Unit)(v:Int):Unit⊕(Unit⊕Unit):=if valB v=true then .inl () else .inr (.inl ())
theorem QlN:∀(l:List Int),Kw vG (fun _=>.inr ()) l ()=if l.all valB=true then .inr () else .inl ()
 | []=>rfl
 | v::l=>by
  unfold Kw vG;by_cases h:valB v=true
  ·rw[jTj h];simp only[List.all_cons,h,Bool.true_and];exact QlN l
  ·rw[jFj h];simp[h]
theorem VS {n:Nat}(b:100<=n)(e:Ev)(a:QnI e):Wv n e.1 e.2.1 (e.2.2.1.map Sd) (e.2.2.2.1.map I) e.2.2.2.2=some (chk e) :=
 Qcw b e a.2.1 a.2.2.1 fun s h=>Nat.lt_of_le_of_lt (a.2.2.2.2 s h) (by omega)
theorem Qll {n:Nat}(l:100<=n)(e:Ev)(p:e.2.2.1.length<=6/\e.2.2.2.1.length<=8):Qnb n e.1 e.2.1 (e.2.2.1.map Sd) (e.2.2.2.1.map I) e.2.2.2.2=some (chk e):=by
 obtain⟨t,u⟩:=p;unfold Qnb chk;rw[Qle,jBj];by_cases g0:inR e.1 1 1000=0
 ·rw[jFj (by simp[g0]),jTj g0];cases hk:zl e.2.1.data.toList with
  | none=>rw[Qml n hk];simp
  | some k =>
   rw[Qmm n (JV hk),jBj];dsimp only;have a:((mkS (kr k)).size:Int)=(kn k:Int):=by unfold kn mkS ByteArray.size;simp
   rw[jTj rfl];simp only[jlj,a];by_cases g:e.2.2.1.length=kn k
   ·rw[jTj (by omega)];by_cases j:e.2.2.2.1.length=kv k
    ·have o:e.2.2.1.length=kn k/\e.2.2.2.1.length=kv k:=⟨g,j⟩
     rw[jTj (by omega),jTj o];have q:=Vr (step:=QmW n e.1 e.2.1 (e.2.2.1.map Sd) (e.2.2.2.1.map I) e.2.2.2.2 (mkS (kr k),(kv k:Int),true)) nG (fun _=>.inr ()) (fun i _=>(i:Int)) e.2.2.1 (fun _ _=>True)
      (fun i _ s b _=>by
       have hi:=(jGj b).1;have c:(i:Int)<((mkS (kr k)).size:Int):=by rw[a];omega
       unfold nG QmW;by_cases h:Yw s=true
       ·rw[jTj h];refine⟨?_,trivial⟩;dsimp only;rw[jTj c,el_S b,jBj,Qlo l,jBj,jTj h,jTj (by unfold Qg;omega)];rfl
       ·rw[jFj h];dsimp only;rw[jTj c,el_S b,jBj,Qlo l,jBj,jFj h])
      (fun s _=>by unfold QmW;dsimp only;rw[jFj (by rw[a];omega)]) (s:=()) (k:=n) trivial (by omega)
     have r:=Vr (step:=QmV n e.1 e.2.1 (e.2.2.1.map Sd) (e.2.2.2.1.map I) e.2.2.2.2 (mkS (kr k),(kv k:Int),true)) vG (fun _=>.inr ()) (fun i _=>(i:Int)) e.2.2.2.1 (fun _ _=>True)
      (fun i _ v b _=>by
       have hi:=(jGj b).1;unfold vG QmV valB;by_cases h:inR v 0 999999999=0
       ·rw[jTj (jDj h)];refine⟨?_,trivial⟩;dsimp only;rw[jTj (by omega),Ei b,jBj,Qle,jBj,jFj (by simp[h]),jTj (by unfold Qg;omega)];rfl
       ·rw[jFj (by simpa using h)];dsimp only;rw[jTj (by omega),Ei b,jBj,Qle,jBj,jTj (by simp[h])])
      (fun s _=>by unfold QmV;dsimp only;rw[jFj (by omega)]) (s:=()) (k:=n) trivial (by omega)
     rw[show QU (QmW n e.1 e.2.1 (e.2.2.1.map Sd) (e.2.2.2.1.map I) e.2.2.2.2 (mkS (kr k),(kv k:Int),true)) n 0=_ from q,QlO,jBj];by_cases d:e.2.2.1.all Yw=true
     ·rw[jTj d,jTj d];dsimp only;rw[show QU (QmV n e.1 e.2.1 (e.2.2.1.map Sd) (e.2.2.2.1.map I) e.2.2.2.2 (mkS (kr k),(kv k:Int),true)) n 0=_ from r,QlN,jBj];by_cases f:e.2.2.2.1.all valB=true
      ·rw[jTj f,jTj f];dsimp only;rw[QiK];by_cases m:e.2.2.2.2.size=0<;>simp[m]
      ·rw[jFj f,jFj f]
     ·rw[jFj d,jFj d]
    ·rw[jFj (by omega),jFj (fun h=>j h.2)]
   ·rw[jFj (by omega),jFj (fun h=>g h.1)]
 ·rw[jTj (by simp[g0]),jFj g0]
theorem QoZ {n:Nat}(b:100<=n)(e:Ev)(a:QnI e):Qnb n e.1 e.2.1 (e.2.2.1.map Sd) (e.2.2.2.1.map I) e.2.2.2.2=some (chk e):=Qll b e ⟨a.2.1,a.2.2.1⟩
theorem gi0 {b:Type}{a:Int}{l:jVj}{f:Int->Option b}:(el V5 (I a::l) 0).bind f=f a:=rfl
theorem gi1 {b:Type}{x:D}{a:Int}{l:jVj}{f:Int->Option b}:(el V5 (x::I a::l) 1).bind f=f a:=rfl
theorem gi2 {b:Type}{x y:D}{a:Int}{l:jVj}{f:Int->Option b}:(el V5 (x::y::I a::l) 2).bind f=f a:=rfl
theorem gi3 {b:Type}{x y z:D}{a:Int}{l:jVj}{f:Int->Option b}:(el V5 (x::y::z::I a::l) 3).bind f=f a:=rfl
theorem gi4 {b:Type}{x y z w:D}{a:Int}{l:jVj}{f:Int->Option b}:(el V5 (x::y::z::w::I a::l) 4).bind f=f a:=rfl
theorem gs0 {b:Type}{a:jSj}{l:jVj}{f:jSj->Option b}:(el Vg (Sd a::l) 0).bind f=f a:=rfl
theorem gs1 {b:Type}{x:D}{a:jSj}{l:jVj}{f:jSj->Option b}:(el Vg (x::Sd a::l) 1).bind f=f a:=rfl
section
variable {num:Int}{kind text:jSj}{names:List jSj}{vals:List Int}{k:Ki}
theorem Good.d01 (a:Good (num,kind,names,vals,text) k)(d:kn k=0)(e:kv k=1):∃t,names=[]/\vals=[t]/\0<=t/\t<=999999999:=by
 have b:names.length=0:=a.names.trans d;have c:vals.length=1:=a.vals.trans e;match names,vals,b,c with
 | [],[t],_,_=>exact⟨t,rfl,rfl,a.val t (by simp)⟩
theorem Good.d02 (a:Good (num,kind,names,vals,text) k)(d:kn k=0)(e:kv k=2):∃t f,names=[]/\vals=[t,f]/\0<=t/\t<=999999999:=by
 have b:names.length=0:=a.names.trans d;have c:vals.length=2:=a.vals.trans e;match names,vals,b,c with
 | [],[t,v],_,_=>exact⟨t,v,rfl,rfl,a.val t (by simp)⟩
theorem Good.d11 (b:Good (num,kind,names,vals,text) k)(e:kn k=1)(f:kv k=1):∃a t,names=[a]/\vals=[t]/\0<=t/\t<=999999999:=by
 have c:names.length=1:=b.names.trans e;have d:vals.length=1:=b.vals.trans f;match names,vals,c,d with
 | [a],[t],_,_=>exact⟨a,t,rfl,rfl,b.val t (by simp)⟩
theorem Good.d12 (b:Good (num,kind,names,vals,text) k)(e:kn k=1)(f:kv k=2):∃a t g,names=[a]/\vals=[t,g]/\0<=t/\t<=999999999:=by
 have c:names.length=1:=b.names.trans e;have d:vals.length=2:=b.vals.trans f;match names,vals,c,d with
 | [a],[t,v],_,_=>exact⟨a,t,v,rfl,rfl,b.val t (by simp)⟩
theorem Good.d22 (c:Good (num,kind,names,vals,text) k)(f:kn k=2)(g:kv k=2):∃a b t h,names=[a,b]/\vals=[t,h]/\0<=t/\t<=999999999:=by
 have d:names.length=2:=c.names.trans f;have e:vals.length=2:=c.vals.trans g;match names,vals,d,e with
 | [a,b],[t,v],_,_=>exact⟨a,b,t,v,rfl,rfl,c.val t (by simp)⟩
theorem Good.d15 (b:Good (num,kind,names,vals,text) k)(e:kn k=1)(f:kv k=5):∃a t g h i j,names=[a]/\vals=[t,g,h,i,j]/\0<=t/\t<=999999999:=by
 have c:names.length=1:=b.names.trans e;have d:vals.length=5:=b.vals.trans f;match names,vals,c,d with
 | [a],[t,v,w,x,y],_,_=>exact⟨a,t,v,w,x,y,rfl,rfl,b.val t (by simp)⟩
end
theorem rmS {c b:Nat}{r:Reg}(d:Inv c r)(a:b<=200:=by decide):Wi b ((r.sectors.map Sd).length+1):=UO a (by rw[jlj];have:=d.secs;omega)
theorem rmM {c b:Nat}{r:Reg}(d:Inv c r)(hc:c<=40)(a:b<=200:=by decide):Wi b ((r.mirrors.map Q1).length+1):=UO a (by rw[jlj];have:=d.lenM;omega)
theorem rmO {c b:Nat}{r:Reg}(d:Inv c r)(hc:c<=40)(a:b<=200:=by decide):Wi b ((r.offers.map Zs).length+1):=UO a (by rw[jlj];have:=d.lenO;omega)
theorem rzS {c b:Nat}{r:Reg}(d:Inv c r)(a:b<=200:=by decide):Wi b (0+(r.sectors.map Sd).length):=UO a (by rw[jlj];have:=d.secs;omega)
theorem rzM {c b:Nat}{r:Reg}(d:Inv c r)(hc:c<=40)(a:b<=200:=by decide):Wi b (0+(r.mirrors.map Q1).length):=UO a (by rw[jlj];have:=d.lenM;omega)
theorem rzO {c b:Nat}{r:Reg}(d:Inv c r)(hc:c<=40)(a:b<=200:=by decide):Wi b (0+(r.offers.map Zs).length):=UO a (by rw[jlj];have:=d.lenO;omega)
theorem g0 {t x:Int}{l:List Int}(h:t<x):(t::l).getD 0 0<x:=h
theorem g0n {t x:Int}{l:List Int}(h:¬t<x):¬(t::l).getD 0 0<x:=h
theorem bk4 {r:Reg}{t:Int}(h:Gq r t≠0):Gq r t=4:=by
 unfold Gq at h ⊢;split
 ·rename_i g;rw[jTj g] at h;exact absurd rfl h
 ·rfl
theorem okt {r:Reg}{t:Int}(h:¬t<r.tick)(a:0<=t/\t<=999999999):okT r t:=⟨by omega,a.2⟩
abbrev rtM (r:Reg)(t:Int)(s m o:jVj):jRj:=(t,r.level,r.filled,r.tripped,r.light+WP r t,r.heat+WP r t,r.money,s,m,o)
abbrev rtE (r:Reg)(t:Int)(s m o:jVj):Int×Int×Bool×Bool×Int×Int×Int×jVj×jVj×jVj×Int:=(t,r.level,r.filled,r.tripped,r.light+WP r t,r.heat+WP r t,r.money,s,m,o,0)
theorem zm {r:Reg}{a:jSj}{n:Nat}(b:zk (nmM r.mirrors) a=(n:Int))(c:n<r.mirrors.length):0<=zk (nmM r.mirrors) a/\zk (nmM r.mirrors) a<((r.mirrors.map Q1).length:Int):=by rw[b,jlj];omega
theorem hltO {r:Reg}{a:jSj}{n:Nat}(b:zk (nmO r.offers) a=(n:Int))(c:n<r.offers.length):0<=zk (nmO r.offers) a/\zk (nmO r.offers) a<((r.offers.map Zs).length:Int):=by rw[b,jlj];omega
theorem QsL {d:D}(h:Kd.ok (.lst false [.str]) d):∃l:List jSj,d=.lst false 1 (l.map Sd):=by
 obtain⟨es,rfl,l,h⟩:=Qtp h;obtain⟨a,rfl,b⟩:=QhU (enc:=Sd) (p:=fun _=>True) (es:=es) (fun e c=>by obtain⟨x,rfl,b⟩:=ok_s (h e c);exact⟨x,rfl,trivial⟩)
 exact⟨a,rfl⟩
theorem Qtk {d:D}(h:Kd.ok (.lst false [.int .i64]) d):∃l:List Int,d=.lst false 1 (l.map I):=by
 obtain⟨es,rfl,l,h⟩:=Qtp h;obtain⟨a,rfl,b⟩:=QhU (enc:=I) (p:=fun _=>True) (es:=es) (fun e c=>by obtain⟨x,rfl,b⟩:=ok_i (h e c);exact⟨x,rfl,trivial⟩)
 exact⟨a,rfl⟩
theorem QtK {cs:jVj}(h:Kd.oks [.int .i64,.str,.lst false [.str],.lst false [.int .i64],.str] cs):∃e:Ev,D.agg cs=Q5 e:=by obtain⟨q,v,rfl,d,l⟩:=QhH h;obtain⟨a,rfl,_⟩:=ok_i d;obtain⟨r,w,rfl,g,m⟩:=QhH l;obtain⟨b,rfl,_⟩:=ok_s g;obtain⟨s,x,rfl,i,n⟩:=QhH m;obtain⟨c,rfl⟩:=QsL i;obtain⟨t,y,rfl,j,o⟩:=QhH n;obtain⟨e,rfl⟩:=Qtk j;obtain⟨u,z,rfl,k,p⟩:=QhH o;obtain⟨f,rfl,_⟩:=ok_s k;rw[Qkx p];exact⟨(a,b,c,e,f),rfl⟩
theorem QtA {d:D}(h:Kd.ok (.lst true [.int .i64,.str,.lst false [.str],.lst false [.int .i64],.str]) d):∃l:List Ev,d=.lst false 5 (l.map Q5):=by
 obtain⟨es,rfl,l,h⟩:=Qkz h;obtain⟨a,rfl,b⟩:=QhU (enc:=Q5) (p:=fun _=>True) (es:=es) (fun e c=>by obtain⟨cs,rfl,q⟩:=h e c;obtain⟨x,f⟩:=QtK q;exact⟨x,f,trivial⟩)
 exact⟨a,rfl⟩
def iM (ms:List Mir)(a:jSj):Nat:=(pos (nmM ms) a).getD 0
def iO (b:List Off)(a:jSj):Nat:=(pos (nmO b) a).getD 0
def zM:Mir:=(⟨#[]⟩,⟨#[]⟩,0,0,false,false)
def zO:Off:=(⟨#[]⟩,0,0,0,0,0,false)
def mAt (ms:List Mir)(a:jSj):Mir:=ms.getD (iM ms a) zM
def oAt (b:List Off)(a:jSj):Off:=b.getD (iO b a) zO
theorem VM {ms:List Mir}{a:jSj}(h:ZG (nmM ms) a=true):zk (nmM ms) a=(iM ms a:Int)/\iM ms a<ms.length/\ms[iM ms a]?=some (mAt ms a):=by
 obtain⟨i,hi⟩:=Option.isSome_iff_exists.1 h;obtain⟨b,d⟩:=uq hi;have e:iM ms a=i:=by unfold iM;rw[hi];rfl
 have c:i<ms.length:=by unfold nmM at b;simpa using b
 refine⟨by unfold zk;rw[hi,e],by rw[e];exact c,?_⟩;unfold mAt;rw[e,List.getD_eq_getElem?_getD,jej c];rfl
theorem J6 {b:List Off}{a:jSj}(h:ZG (nmO b) a=true):zk (nmO b) a=(iO b a:Int)/\iO b a<b.length/\b[iO b a]?=some (oAt b a):=by
 obtain⟨i,hi⟩:=Option.isSome_iff_exists.1 h;obtain⟨c,f⟩:=uq hi;have e:iO b a=i:=by unfold iO;rw[hi];rfl
 have d:i<b.length:=by unfold nmO at c;simpa using c
 refine⟨by unfold zk;rw[hi,e],by rw[e];exact d,?_⟩;unfold oAt;rw[e,List.getD_eq_getElem?_getD,jej d];rfl
def known (k:Ki)(r:Reg)(ns:List jSj):Int:=match k with
 | .sector=>QD (ZG r.sectors (ns.getD 0 ⟨#[]⟩)) 9
 | .mirror=>if ZG r.sectors (ns.getD 1 ⟨#[]⟩)=true then QD (ZG (nmM r.mirrors) (ns.getD 0 ⟨#[]⟩)) 9 else 10
 | .dim=>QD (!ZG r.sectors (ns.getD 0 ⟨#[]⟩)) 10
 | .offer=>QD (ZG (nmO r.offers) (ns.getD 0 ⟨#[]⟩)) 9
 | .deliver=>QD (!ZG (nmO r.offers) (ns.getD 0 ⟨#[]⟩)) 10
 | .bill=>QD (!ZG (nmO r.offers) (ns.getD 0 ⟨#[]⟩)) 10
 | .soil=>QD (!ZG (nmM r.mirrors) (ns.getD 0 ⟨#[]⟩)) 10
 | .clean=>QD (!ZG (nmM r.mirrors) (ns.getD 0 ⟨#[]⟩)) 10
 | .defect=>QD (!ZG (nmM r.mirrors) (ns.getD 0 ⟨#[]⟩)) 10
 | .repair=>QD (!ZG (nmM r.mirrors) (ns.getD 0 ⟨#[]⟩)) 10
 | .aim=>QD (!ZG (nmM r.mirrors) (ns.getD 0 ⟨#[]⟩)) 10
 | .park=>QD (!ZG (nmM r.mirrors) (ns.getD 0 ⟨#[]⟩)) 10
 | _=>0
def Qhs (vs:List Int):Int:=if vs.getD 1 0<vs.getD 0 0 then 14 else QD (decide (vs.getD 1 0>=vs.getD 2 0)) 14
def spec (k:Ki)(r:Reg)(ns:List jSj)(vs:List Int):Int:=match k with
 | .sector=>QD ((r.sectors.length:Int)==8) 5
 | .mirror=>QK [inR (vs.getD 1 0) 1 100,QD ((r.mirrors.length:Int)==32) 5]
 | .soil=>inR (vs.getD 1 0) 0 1000
 | .defect=>QK [QD (mAt r.mirrors (ns.getD 0 ⟨#[]⟩)).2.2.2.2.1 9,QD (mAt r.mirrors (ns.getD 0 ⟨#[]⟩)).2.2.2.2.2 31]
 | .repair=>QD (!(mAt r.mirrors (ns.getD 0 ⟨#[]⟩)).2.2.2.2.1) 22
 | .aim=>QK [QD (!r.filled) 30,QD r.tripped 29,QD (mAt r.mirrors (ns.getD 0 ⟨#[]⟩)).2.2.2.2.1 21,QD (mAt r.mirrors (ns.getD 0 ⟨#[]⟩)).2.2.2.2.2 9]
 | .park=>QD (!(mAt r.mirrors (ns.getD 0 ⟨#[]⟩)).2.2.2.2.2) 22
 | .sun=>inR (vs.getD 1 0) 0 1000
 | .fill=>QD r.filled 9
 | .drain=>QK [QD (!r.filled) 22,QD (r.mirrors.any isA) 31]
 | .trip=>QD r.tripped 9
 | .reset=>QD (!r.tripped) 22
 | .offer=>QK [Qhs vs,inR (vs.getD 3 0) 1 1000,inR (vs.getD 4 0) 0 1000,QD ((r.offers.length:Int)==32) 5]
 | .deliver=>if QK [QD (oAt r.offers (ns.getD 0 ⟨#[]⟩)).2.2.2.2.2.2 23,if vs.getD 0 0<(oAt r.offers (ns.getD 0 ⟨#[]⟩)).2.1 then 14 else QD (decide (vs.getD 0 0>=(oAt r.offers (ns.getD 0 ⟨#[]⟩)).2.2.1)) 14,QD (vs.getD 1 0==0) 3,QD (decide (vs.getD 1 0>WC (oAt r.offers (ns.getD 0 ⟨#[]⟩)))) 20]=0
   then QD (decide (vs.getD 1 0*1000000>r.heat+WP r (vs.getD 0 0))) 16
   else QK [QD (oAt r.offers (ns.getD 0 ⟨#[]⟩)).2.2.2.2.2.2 23,if vs.getD 0 0<(oAt r.offers (ns.getD 0 ⟨#[]⟩)).2.1 then 14 else QD (decide (vs.getD 0 0>=(oAt r.offers (ns.getD 0 ⟨#[]⟩)).2.2.1)) 14,QD (vs.getD 1 0==0) 3,QD (decide (vs.getD 1 0>WC (oAt r.offers (ns.getD 0 ⟨#[]⟩)))) 20]
 | .bill=>QK [QD (oAt r.offers (ns.getD 0 ⟨#[]⟩)).2.2.2.2.2.2 23,QD (decide (vs.getD 0 0<(oAt r.offers (ns.getD 0 ⟨#[]⟩)).2.2.1)) 32]
 | _=>0
def acc (k:Ki)(r:Reg)(ns:List jSj)(vs:List Int):Int:=if vs.getD 0 0<r.tick then 22 else QK [Gq r (vs.getD 0 0),known k r ns,spec k r ns vs]
theorem Y5 {S E:Type}{step:S->Option (S⊕E)}{k:Nat}{s s' : S}(a:0<k)(h:step s=some (.inl s')):QU step k s=QU step (k - 1) s':=by
 obtain⟨j,rfl⟩:∃j,k=j+1:=⟨k - 1,by omega⟩
 exact W8 h
theorem W7 {S E:Type}{step:S->Option (S⊕E)}{k:Nat}{s:S}{e:E}(a:0<k)(h:step s=some (.inr e)):QU step k s=some e:=by
 obtain⟨j,rfl⟩:∃j,k=j+1:=⟨k - 1,by omega⟩
 exact ZP h
theorem Xq {n:Nat}(w:100<=n){s:jVj}{l:Int}{m o:FnD}{p:Int}{r:jSj}{t:jVj}{u:jSj}{v a:jVj}{b c:Int}{d e:Bool}{f g h:Int}{i:jVj}{j:jVj}{k:jVj}:Ql n (⟨#[]⟩) l m o p r s t u v a b c d e f g h i j k=some (0):=by
 unfold Ql;have q:Qh n (⟨#[]⟩) l m o p r s t u v a b c d e f g h i j k (false,0)=some (.inr (.inr false)):=by unfold Qh;dsimp only;rw[jFj (by decide)]
 rw[W7 (by omega) q,jBj];dsimp only;rw[QR,jBj];rfl
theorem Qjb {n:Nat}(w:100<=n){l:Int}{m o:FnD}{p:Int}{r:jSj}{s:jVj}{t:jSj}{u b:jVj}{c d:Int}{e f:Bool}{g h i:Int}{j:jVj}{k:jVj}(ss:List jSj)(x:ss.length<=40)(a:jSj):Ql n (⟨#[83]⟩) l m o p r [Sd a] s t u b c d e f g h i (ss.map Sd) j k=some (QD (ZG ss a) 9):=by
 unfold Ql;have q:Qh n (⟨#[83]⟩) l m o p r [Sd a] s t u b c d e f g h i (ss.map Sd) j k (false,0)=some (.inl (ZG ss a,1)):=by unfold Qh;dsimp only;rw[jTj (by decide),show UY ⟨#[83]⟩ 0=some 83 from rfl,jBj,jTj (by decide),jTj (by decide),gs0,Wp ss a (by omega) (by omega),jBj,jFj (by decide),jTj (by decide)];rfl
 have v:Qh n (⟨#[83]⟩) l m o p r [Sd a] s t u b c d e f g h i (ss.map Sd) j k (ZG ss a,1)=some (.inr (.inr (ZG ss a))):=by unfold Qh;dsimp only;rw[jFj (show ¬(1:Int)<((⟨#[83]⟩:jSj).size:Int) by decide)]
 rw[Y5 (by omega) q,W7 (by omega) v,jBj];dsimp only;rw[QR,jBj]
theorem Qjc {n:Nat}(x:100<=n){m:Int}{o p:FnD}{r:Int}{s:jSj}{t:jVj}{u:jSj}{v c:jVj}{d e:Int}{f g:Bool}{h i j:Int}{k:jVj}{l:jVj}(b:List Off)(y:b.length<=40)(a:jSj):Ql n (⟨#[79]⟩) m o p r s [Sd a] t u v c d e f g h i j k l (b.map Zs)=some (QD (ZG (nmO b) a) 9):=by
 unfold Ql;have q:Qh n (⟨#[79]⟩) m o p r s [Sd a] t u v c d e f g h i j k l (b.map Zs) (false,0)=some (.inl (ZG (nmO b) a,1)):=by unfold Qh;dsimp only;rw[jTj (by decide),show UY ⟨#[79]⟩ 0=some 79 from rfl,jBj,jTj (by decide),jFj (by decide),show IntKind.wrap .u8 (79+32)=111 from by decide,X8 b (by omega) (by omega),jBj,gs0,Wp (nmO b) a (by rw[Wy];omega) (by rw[Wy];omega),jBj,jFj (by decide),jTj (by decide)];rfl
 have w:Qh n (⟨#[79]⟩) m o p r s [Sd a] t u v c d e f g h i j k l (b.map Zs) (ZG (nmO b) a,1)=some (.inr (.inr (ZG (nmO b) a))):=by unfold Qh;dsimp only;rw[jFj (show ¬(1:Int)<((⟨#[79]⟩:jSj).size:Int) by decide)]
 rw[Y5 (by omega) q,W7 (by omega) w,jBj];dsimp only;rw[QR,jBj]
theorem Qja {n:Nat}(x:100<=n){m:Int}{o p:FnD}{r:Int}{s:jSj}{t:jVj}{u:jSj}{v b:jVj}{c d:Int}{e f:Bool}{g i j:Int}{k:jVj}{l:jVj}(ss:List jSj)(y:ss.length<=40)(a:jSj):Ql n (⟨#[115]⟩) m o p r s [Sd a] t u v b c d e f g i j (ss.map Sd) k l=some (QD (!ZG ss a) 10):=by
 unfold Ql;by_cases h:ZG ss a=true
 ·have q:Qh n (⟨#[115]⟩) m o p r s [Sd a] t u v b c d e f g i j (ss.map Sd) k l (false,0)=some (.inl (false,1)):=by unfold Qh;dsimp only;rw[jTj (by decide),show UY ⟨#[115]⟩ 0=some 115 from rfl,jBj,jFj (by decide),jTj (by decide),gs0,Wp ss a (by omega) (by omega),jBj,jTj h,jFj (by decide),jTj (by decide)];rfl
  have w:Qh n (⟨#[115]⟩) m o p r s [Sd a] t u v b c d e f g i j (ss.map Sd) k l (false,1)=some (.inr (.inr false)):=by unfold Qh;dsimp only;rw[jFj (show ¬(1:Int)<((⟨#[115]⟩:jSj).size:Int) by decide)]
  rw[Y5 (by omega) q,W7 (by omega) w,jBj,h];dsimp only;rw[QR,jBj];rfl
 ·have q:Qh n (⟨#[115]⟩) m o p r s [Sd a] t u v b c d e f g i j (ss.map Sd) k l (false,0)=some (.inr (.inl ())):=by unfold Qh;dsimp only;rw[jTj (by decide),show UY ⟨#[115]⟩ 0=some 115 from rfl,jBj,jFj (by decide),jTj (by decide),gs0,Wp ss a (by omega) (by omega),jBj,jFj h]
  rw[W7 (by omega) q,jBj];simp only[Bool.not_eq_true] at h;rw[h];rfl
theorem qW {n:Nat}(y:100<=n){m:Int}{o p:FnD}{r:Int}{s:jSj}{t:jVj}{u:jSj}{v b:jVj}{c d:Int}{e f:Bool}{g i j:Int}{k:jVj}{l:jVj}(ms:List Mir)(x:ms.length<=40)(a:jSj):Ql n (⟨#[109]⟩) m o p r s [Sd a] t u v b c d e f g i j k (ms.map Q1) l=some (QD (!ZG (nmM ms) a) 10):=by
 unfold Ql;by_cases h:ZG (nmM ms) a=true
 ·have q:Qh n (⟨#[109]⟩) m o p r s [Sd a] t u v b c d e f g i j k (ms.map Q1) l (false,0)=some (.inl (false,1)):=by unfold Qh;dsimp only;rw[jTj (by decide),show UY ⟨#[109]⟩ 0=some 109 from rfl,jBj,jFj (by decide),jFj (by decide),UE ms (by omega) (by omega),jBj,gs0,Wp (nmM ms) a (by rw[Zh];omega) (by rw[Zh];omega),jBj,jTj h,jFj (by decide),jTj (by decide)];rfl
  have w:Qh n (⟨#[109]⟩) m o p r s [Sd a] t u v b c d e f g i j k (ms.map Q1) l (false,1)=some (.inr (.inr false)):=by unfold Qh;dsimp only;rw[jFj (show ¬(1:Int)<((⟨#[109]⟩:jSj).size:Int) by decide)]
  rw[Y5 (by omega) q,W7 (by omega) w,jBj,h];dsimp only;rw[QR,jBj];rfl
 ·have q:Qh n (⟨#[109]⟩) m o p r s [Sd a] t u v b c d e f g i j k (ms.map Q1) l (false,0)=some (.inr (.inl ())):=by unfold Qh;dsimp only;rw[jTj (by decide),show UY ⟨#[109]⟩ 0=some 109 from rfl,jBj,jFj (by decide),jFj (by decide),UE ms (by omega) (by omega),jBj,gs0,Wp (nmM ms) a (by rw[Zh];omega) (by rw[Zh];omega),jBj,jFj h]
  rw[W7 (by omega) q,jBj];simp only[Bool.not_eq_true] at h;rw[h];rfl
theorem QfT {n:Nat}(y:100<=n){o:Int}{p r:FnD}{s:Int}{t:jSj}{u:jVj}{v:jSj}{w c:jVj}{d e:Int}{f g:Bool}{i j k:Int}{l:jVj}{m:jVj}(b:List Off)(z:b.length<=40)(a:jSj):Ql n (⟨#[111]⟩) o p r s t [Sd a] u v w c d e f g i j k l m (b.map Zs)=some (QD (!ZG (nmO b) a) 10):=by
 unfold Ql;by_cases h:ZG (nmO b) a=true
 ·have q:Qh n (⟨#[111]⟩) o p r s t [Sd a] u v w c d e f g i j k l m (b.map Zs) (false,0)=some (.inl (false,1)):=by unfold Qh;dsimp only;rw[jTj (by decide),show UY ⟨#[111]⟩ 0=some 111 from rfl,jBj,jFj (by decide),jFj (by decide),X8 b (by omega) (by omega),jBj,gs0,Wp (nmO b) a (by rw[Wy];omega) (by rw[Wy];omega),jBj,jTj h,jFj (by decide),jTj (by decide)];rfl
  have x:Qh n (⟨#[111]⟩) o p r s t [Sd a] u v w c d e f g i j k l m (b.map Zs) (false,1)=some (.inr (.inr false)):=by unfold Qh;dsimp only;rw[jFj (show ¬(1:Int)<((⟨#[111]⟩:jSj).size:Int) by decide)]
  rw[Y5 (by omega) q,W7 (by omega) x,jBj,h];dsimp only;rw[QR,jBj];rfl
 ·have q:Qh n (⟨#[111]⟩) o p r s t [Sd a] u v w c d e f g i j k l m (b.map Zs) (false,0)=some (.inr (.inl ())):=by unfold Qh;dsimp only;rw[jTj (by decide),show UY ⟨#[111]⟩ 0=some 111 from rfl,jBj,jFj (by decide),jFj (by decide),X8 b (by omega) (by omega),jBj,gs0,Wp (nmO b) a (by rw[Wy];omega) (by rw[Wy];omega),jBj,jFj h]
  rw[W7 (by omega) q,jBj];simp only[Bool.not_eq_true] at h;rw[h];rfl
theorem Qh2 {n:Nat}(A:100<=n){o:Int}{p r:FnD}{s:Int}{t:jSj}{u:jVj}{v:jSj}{w c:jVj}{d e:Int}{f i:Bool}{j k l:Int}{m:jVj}(ss:List jSj)(C:ss.length<=40)(ms:List Mir)(z:ms.length<=40)(a b:jSj):Ql n (⟨#[77,115]⟩) o p r s t [Sd a,Sd b] u v w c d e f i j k l (ss.map Sd) (ms.map Q1) m=some (if ZG ss b=true then QD (ZG (nmM ms) a) 9 else 10):=by
 unfold Ql;have q:Qh n (⟨#[77,115]⟩) o p r s t [Sd a,Sd b] u v w c d e f i j k l (ss.map Sd) (ms.map Q1) m (false,0)=some (.inl (ZG (nmM ms) a,1)):=by unfold Qh;dsimp only;rw[jTj (by decide),show UY ⟨#[77,115]⟩ 0=some 77 from rfl,jBj,jTj (by decide),jFj (by decide),show IntKind.wrap .u8 (77+32)=109 from by decide,UE ms (by omega) (by omega),jBj,gs0,Wp (nmM ms) a (by rw[Zh];omega) (by rw[Zh];omega),jBj,jFj (by decide),jTj (by decide)];rfl
 rw[Y5 (by omega) q];by_cases h:ZG ss b=true
 ·have x:Qh n (⟨#[77,115]⟩) o p r s t [Sd a,Sd b] u v w c d e f i j k l (ss.map Sd) (ms.map Q1) m (ZG (nmM ms) a,1)=some (.inl (ZG (nmM ms) a,2)):=by
   unfold Qh;dsimp only;rw[jTj (show(1:Int)<((⟨#[77,115]⟩:jSj).size:Int) by decide),show UY ⟨#[77,115]⟩ 1=some 115 from rfl,jBj,jFj (by decide),jTj rfl,gs1,Wp ss b (by omega) (by omega),jBj,jTj h];by_cases g:ZG (nmM ms) a=true
   ·rw[jTj g,jTj (by decide),g];rfl
   ·rw[jFj g,jTj (by decide)];simp only[Bool.not_eq_true] at g;rw[g];rfl
  have y:Qh n (⟨#[77,115]⟩) o p r s t [Sd a,Sd b] u v w c d e f i j k l (ss.map Sd) (ms.map Q1) m (ZG (nmM ms) a,2)=some (.inr (.inr (ZG (nmM ms) a))):=by unfold Qh;dsimp only;rw[jFj (show ¬(2:Int)<((⟨#[77,115]⟩:jSj).size:Int) by decide)]
  rw[Y5 (by omega) x,W7 (by omega) y,jBj,jTj h];dsimp only;rw[QR,jBj]
 ·have x:Qh n (⟨#[77,115]⟩) o p r s t [Sd a,Sd b] u v w c d e f i j k l (ss.map Sd) (ms.map Q1) m (ZG (nmM ms) a,1)=some (.inr (.inl ())):=by unfold Qh;dsimp only;rw[jTj (show(1:Int)<((⟨#[77,115]⟩:jSj).size:Int) by decide),show UY ⟨#[77,115]⟩ 1=some 115 from rfl,jBj,jFj (by decide),jTj rfl,gs1,Wp ss b (by omega) (by omega),jBj,jFj h]
  rw[W7 (by omega) x,jBj,jFj h]
theorem qg {a b c:Int}{x:Option Int}(h:QK [a,b]=0->x=some c):(if QK [a,b]=0 then x else some (QK [a,b]))=some (QK [a,b,c]):=by
 by_cases d:QK [a,b]=0
 ·rw[jTj d,h d];have g:=Zl d a (by simp);have i:=Zl d b (by simp);subst g i;simp only[QK,if_true];by_cases hc:c=0
  ·rw[jTj hc,hc]
  ·rw[jFj hc]
 ·rw[jFj d];simp only[QK] at d ⊢;by_cases e:a=0
  ·subst e;simp only[if_true] at d ⊢;by_cases f:b=0
   ·subst f;exact absurd rfl d
   ·rw[jFj f,jFj f]
  ·rw[jFj e,jFj e]
theorem jO {a b:Int}(h:QK [a,b]=0):b=0:=Zl h b (by simp)
theorem Ub {b:Bool}{e:Int}(a:e≠0)(h:QD b e=0):b=false:=by
 unfold QD at h;cases b
 ·rfl
 ·exact absurd h a
theorem WN {b:Bool}(h:QD (!b) 10=0):b=true:=by have:=Ub (by decide) h;simpa using this
theorem QeM {a b:Type}(f:a->b)(l:List a)(n:Int):(((l.map f).length:Int)==n)=((l.length:Int)==n):=by rw[jlj]
theorem Qfj {n c:Nat}(j:100<=n){r:Reg}(i:Inv c r)(hc:c<=40){num:Int}{kind x:jSj}{names:List jSj}{vals:List Int}{evs cnt:jVj}(P:evs.length<=5000) :
  ∀{k:Ki},k≠.undo->Good (num,kind,names,vals,x) k->Qq n num kind (names.map Sd) (vals.map I) x evs cnt r.tick r.level r.filled r.tripped r.light r.heat r.money (r.sectors.map Sd) (r.mirrors.map Q1) (r.offers.map Zs)=some (if num=(evs.length:Int)+1 then acc k r names vals else 11)
 | .sector,_,hg=>by
  have f:=hg.kind;dsimp only[kw] at f;obtain⟨a,t,rfl,rfl,g⟩:=hg.d11 rfl rfl;simp only[jCj,jnj];unfold Qq;rw[jTj (by unfold Qg;omega)];by_cases d:num=(evs.length:Int)+1
  ·rw[jTj d,jTj d,jFj (kne f (by decide))];unfold acc;rw[gi0];by_cases e:t<r.tick
   ·rw[jTj e,jTj (g0 e)]
   rw[jFj e,jFj (g0n e)];have l:okT r t:=okt e g;rw[jTj f,Zd i hc j l,jBj];rw[Qjb j r.sectors (by have:=i.secs;omega) a,jBj,W4 (by omega),jBj];refine qg fun p=>?_;rw[QR,QeM];rfl
  ·rw[jFj d,jFj d]
 | .mirror,_,hg=>by
  have f:=hg.kind;dsimp only[kw] at f;obtain⟨a,b,t,m,rfl,rfl,g⟩:=hg.d22 rfl rfl;simp only[jCj,jnj];unfold Qq;rw[jTj (by unfold Qg;omega)];by_cases d:num=(evs.length:Int)+1
  ·rw[jTj d,jTj d,jFj (kne f (by decide))];unfold acc;rw[gi0];by_cases e:t<r.tick
   ·rw[jTj e,jTj (g0 e)]
   rw[jFj e,jFj (g0n e)];have l:okT r t:=okt e g;(iterate 1 rw[jFj (dne f (by decide))])
   rw[jTj f,Zd i hc j l,jBj];rw[Qh2 j r.sectors (by have:=i.secs;omega) r.mirrors (by have:=i.lenM;omega) a b,jBj,W4 (by omega),jBj];refine qg fun p=>?_;rw[gi1,YR,jBj,QR,jBj,W4 (by omega),QeM];rfl
  ·rw[jFj d,jFj d]
 | .soil,_,hg=>by
  have f:=hg.kind;dsimp only[kw] at f;obtain⟨a,t,m,rfl,rfl,g⟩:=hg.d12 rfl rfl;simp only[jCj,jnj];unfold Qq;rw[jTj (by unfold Qg;omega)];by_cases d:num=(evs.length:Int)+1
  ·rw[jTj d,jTj d,jFj (kne f (by decide))];unfold acc;rw[gi0];by_cases e:t<r.tick
   ·rw[jTj e,jTj (g0 e)]
   rw[jFj e,jFj (g0n e)];have l:okT r t:=okt e g;(iterate 2 rw[jFj (dne f (by decide))])
   rw[jTj f,Zd i hc j l,jBj];rw[qW j r.mirrors (by have:=i.lenM;omega) a,jBj,W4 (by omega),jBj];refine qg fun p=>?_;rw[gi1,YR];rfl
  ·rw[jFj d,jFj d]
 | .clean,_,hg=>by
  have f:=hg.kind;dsimp only[kw] at f;obtain⟨a,t,rfl,rfl,g⟩:=hg.d11 rfl rfl;simp only[jCj,jnj];unfold Qq;rw[jTj (by unfold Qg;omega)];by_cases d:num=(evs.length:Int)+1
  ·rw[jTj d,jTj d,jFj (kne f (by decide))];unfold acc;rw[gi0];by_cases e:t<r.tick
   ·rw[jTj e,jTj (g0 e)]
   rw[jFj e,jFj (g0n e)];have l:okT r t:=okt e g;(iterate 3 rw[jFj (dne f (by decide))])
   rw[jTj f,Zd i hc j l,jBj];rw[qW j r.mirrors (by have:=i.lenM;omega) a,jBj,W4 (by omega),jBj];refine qg fun p=>?_;rfl
  ·rw[jFj d,jFj d]
 | .defect,_,hg=>by
  have f:=hg.kind;dsimp only[kw] at f;obtain⟨a,t,rfl,rfl,g⟩:=hg.d11 rfl rfl;simp only[jCj,jnj];unfold Qq;rw[jTj (by unfold Qg;omega)];by_cases d:num=(evs.length:Int)+1
  ·rw[jTj d,jTj d,jFj (kne f (by decide))];unfold acc;rw[gi0];by_cases e:t<r.tick
   ·rw[jTj e,jTj (g0 e)]
   rw[jFj e,jFj (g0n e)];have l:okT r t:=okt e g;(iterate 4 rw[jFj (dne f (by decide))])
   rw[jTj f,Zd i hc j l,jBj];rw[qW j r.mirrors (by have:=i.lenM;omega) a,jBj,W4 (by omega),jBj];refine qg fun p=>?_;have u:=WN (jO p);obtain⟨q,v,s⟩:=VM u;have o:=zm q v;rw[gs0,UE _ (by have:=i.lenM;omega) (by have:=i.lenM;omega),jBj,ZQ _ _ (by rw[Zh];have:=i.lenM;omega) (by rw[Zh];have:=i.lenM;omega),jBj,jTj o,q,Zc unM s,jBj];rw[QR,jBj,QR,jBj,W4 (by omega)];rfl
  ·rw[jFj d,jFj d]
 | .repair,_,hg=>by
  have f:=hg.kind;dsimp only[kw] at f;obtain⟨a,t,rfl,rfl,g⟩:=hg.d11 rfl rfl;simp only[jCj,jnj];unfold Qq;rw[jTj (by unfold Qg;omega)];by_cases d:num=(evs.length:Int)+1
  ·rw[jTj d,jTj d,jFj (kne f (by decide))];unfold acc;rw[gi0];by_cases e:t<r.tick
   ·rw[jTj e,jTj (g0 e)]
   rw[jFj e,jFj (g0n e)];have l:okT r t:=okt e g;(iterate 5 rw[jFj (dne f (by decide))])
   rw[jTj f,Zd i hc j l,jBj];rw[qW j r.mirrors (by have:=i.lenM;omega) a,jBj,W4 (by omega),jBj];refine qg fun p=>?_;have u:=WN (jO p);obtain⟨q,v,s⟩:=VM u;have o:=zm q v;rw[gs0,UE _ (by have:=i.lenM;omega) (by have:=i.lenM;omega),jBj,ZQ _ _ (by rw[Zh];have:=i.lenM;omega) (by rw[Zh];have:=i.lenM;omega),jBj,jTj o,q,Zc unM s,jBj];rw[QR];rfl
  ·rw[jFj d,jFj d]
 | .aim,_,hg=>by
  have f:=hg.kind;dsimp only[kw] at f;obtain⟨a,t,rfl,rfl,g⟩:=hg.d11 rfl rfl;simp only[jCj,jnj];unfold Qq;rw[jTj (by unfold Qg;omega)];by_cases d:num=(evs.length:Int)+1
  ·rw[jTj d,jTj d,jFj (kne f (by decide))];unfold acc;rw[gi0];by_cases e:t<r.tick
   ·rw[jTj e,jTj (g0 e)]
   rw[jFj e,jFj (g0n e)];have l:okT r t:=okt e g;(iterate 6 rw[jFj (dne f (by decide))])
   rw[jTj f,Zd i hc j l,jBj];rw[qW j r.mirrors (by have:=i.lenM;omega) a,jBj,W4 (by omega),jBj];refine qg fun p=>?_;have u:=WN (jO p);obtain⟨q,v,s⟩:=VM u;have o:=zm q v;rw[gs0,UE _ (by have:=i.lenM;omega) (by have:=i.lenM;omega),jBj,ZQ _ _ (by rw[Zh];have:=i.lenM;omega) (by rw[Zh];have:=i.lenM;omega),jBj,jTj o,q];rw[QR,jBj,QR,jBj,Zc unM s,jBj,QR,jBj,QR,jBj,QeV (by omega)];rfl
  ·rw[jFj d,jFj d]
 | .park,_,hg=>by
  have f:=hg.kind;dsimp only[kw] at f;obtain⟨a,t,rfl,rfl,g⟩:=hg.d11 rfl rfl;simp only[jCj,jnj];unfold Qq;rw[jTj (by unfold Qg;omega)];by_cases d:num=(evs.length:Int)+1
  ·rw[jTj d,jTj d,jFj (kne f (by decide))];unfold acc;rw[gi0];by_cases e:t<r.tick
   ·rw[jTj e,jTj (g0 e)]
   rw[jFj e,jFj (g0n e)];have l:okT r t:=okt e g;(iterate 7 rw[jFj (dne f (by decide))])
   rw[jTj f,Zd i hc j l,jBj];rw[qW j r.mirrors (by have:=i.lenM;omega) a,jBj,W4 (by omega),jBj];refine qg fun p=>?_;have u:=WN (jO p);obtain⟨q,v,s⟩:=VM u;have o:=zm q v;rw[gs0,UE _ (by have:=i.lenM;omega) (by have:=i.lenM;omega),jBj,ZQ _ _ (by rw[Zh];have:=i.lenM;omega) (by rw[Zh];have:=i.lenM;omega),jBj,jTj o,q,Zc unM s,jBj];rw[QR];rfl
  ·rw[jFj d,jFj d]
 | .dim,_,hg=>by
  have f:=hg.kind;dsimp only[kw] at f;obtain⟨a,t,rfl,rfl,g⟩:=hg.d11 rfl rfl;simp only[jCj,jnj];unfold Qq;rw[jTj (by unfold Qg;omega)];by_cases d:num=(evs.length:Int)+1
  ·rw[jTj d,jTj d,jFj (kne f (by decide))];unfold acc;rw[gi0];by_cases e:t<r.tick
   ·rw[jTj e,jTj (g0 e)]
   rw[jFj e,jFj (g0n e)];have l:okT r t:=okt e g;(iterate 8 rw[jFj (dne f (by decide))])
   rw[jTj f,Zd i hc j l,jBj];rw[Qja j r.sectors (by have:=i.secs;omega) a,jBj,W4 (by omega),jBj];refine qg fun p=>?_;rfl
  ·rw[jFj d,jFj d]
 | .sun,_,hg=>by
  have f:=hg.kind;dsimp only[kw] at f;obtain⟨t,m,rfl,rfl,g⟩:=hg.d02 rfl rfl;simp only[jCj,jnj];unfold Qq;rw[jTj (by unfold Qg;omega)];by_cases d:num=(evs.length:Int)+1
  ·rw[jTj d,jTj d,jFj (kne f (by decide))];unfold acc;rw[gi0];by_cases e:t<r.tick
   ·rw[jTj e,jTj (g0 e)]
   rw[jFj e,jFj (g0n e)];have l:okT r t:=okt e g;(iterate 9 rw[jFj (dne f (by decide))])
   rw[jTj f,Zd i hc j l,jBj];rw[Xq j,jBj,W4 (by omega),jBj];refine qg fun p=>?_;rw[gi1,YR];rfl
  ·rw[jFj d,jFj d]
 | .fill,_,hg=>by
  have f:=hg.kind;dsimp only[kw] at f;obtain⟨t,rfl,rfl,g⟩:=hg.d01 rfl rfl;simp only[jCj,jnj];unfold Qq;rw[jTj (by unfold Qg;omega)];by_cases d:num=(evs.length:Int)+1
  ·rw[jTj d,jTj d,jFj (kne f (by decide))];unfold acc;rw[gi0];by_cases e:t<r.tick
   ·rw[jTj e,jTj (g0 e)]
   rw[jFj e,jFj (g0n e)];have l:okT r t:=okt e g;(iterate 10 rw[jFj (dne f (by decide))])
   rw[jTj f,Zd i hc j l,jBj];rw[Xq j,jBj,W4 (by omega),jBj];refine qg fun p=>?_;rw[QR];rfl
  ·rw[jFj d,jFj d]
 | .drain,_,hg=>by
  have f:=hg.kind;dsimp only[kw] at f;obtain⟨t,rfl,rfl,g⟩:=hg.d01 rfl rfl;simp only[jCj,jnj];unfold Qq;rw[jTj (by unfold Qg;omega)];by_cases d:num=(evs.length:Int)+1
  ·rw[jTj d,jTj d,jFj (kne f (by decide))];unfold acc;rw[gi0];by_cases e:t<r.tick
   ·rw[jTj e,jTj (g0 e)]
   rw[jFj e,jFj (g0n e)];have l:okT r t:=okt e g;(iterate 11 rw[jFj (dne f (by decide))])
   rw[jTj f,Zd i hc j l,jBj];rw[Xq j,jBj,W4 (by omega),jBj];refine qg fun p=>?_;rw[QR,jBj,Qkl _ (by have:=i.lenM;omega) (by have:=i.lenM;omega),jBj,QR,jBj,W4 (by omega)];rfl
  ·rw[jFj d,jFj d]
 | .trip,_,hg=>by
  have f:=hg.kind;dsimp only[kw] at f;obtain⟨t,rfl,rfl,g⟩:=hg.d01 rfl rfl;simp only[jCj,jnj];unfold Qq;rw[jTj (by unfold Qg;omega)];by_cases d:num=(evs.length:Int)+1
  ·rw[jTj d,jTj d,jFj (kne f (by decide))];unfold acc;rw[gi0];by_cases e:t<r.tick
   ·rw[jTj e,jTj (g0 e)]
   rw[jFj e,jFj (g0n e)];have l:okT r t:=okt e g;(iterate 12 rw[jFj (dne f (by decide))])
   rw[jTj f,Zd i hc j l,jBj];rw[Xq j,jBj,W4 (by omega),jBj];refine qg fun p=>?_;rw[QR];rfl
  ·rw[jFj d,jFj d]
 | .reset,_,hg=>by
  have f:=hg.kind;dsimp only[kw] at f;obtain⟨t,rfl,rfl,g⟩:=hg.d01 rfl rfl;simp only[jCj,jnj];unfold Qq;rw[jTj (by unfold Qg;omega)];by_cases d:num=(evs.length:Int)+1
  ·rw[jTj d,jTj d,jFj (kne f (by decide))];unfold acc;rw[gi0];by_cases e:t<r.tick
   ·rw[jTj e,jTj (g0 e)]
   rw[jFj e,jFj (g0n e)];have l:okT r t:=okt e g;(iterate 13 rw[jFj (dne f (by decide))])
   rw[jTj f,Zd i hc j l,jBj];rw[Xq j,jBj,W4 (by omega),jBj];refine qg fun p=>?_;rw[QR];rfl
  ·rw[jFj d,jFj d]
 | .offer,_,hg=>by
  have f:=hg.kind;dsimp only[kw] at f;obtain⟨a,t,m,y,z,A,rfl,rfl,g⟩:=hg.d15 rfl rfl;simp only[jCj,jnj];unfold Qq;rw[jTj (by unfold Qg;omega)];by_cases d:num=(evs.length:Int)+1
  ·rw[jTj d,jTj d,jFj (kne f (by decide))];unfold acc;rw[gi0];by_cases e:t<r.tick
   ·rw[jTj e,jTj (g0 e)]
   rw[jFj e,jFj (g0n e)];have l:okT r t:=okt e g;(iterate 14 rw[jFj (dne f (by decide))])
   rw[jTj f,Zd i hc j l,jBj];rw[Qjc j r.offers (by have:=i.lenO;omega) a,jBj,W4 (by omega),jBj];refine qg fun p=>?_;have O:Vb n num kind [Sd a] [I t,I m,I y,I z,I A] x=some (m,y,Qhs [t,m,y,z,A]):=by
    unfold Vb;rw[gi1,gi2,gi0];unfold Qhs;by_cases h:m<t
    ·rw[jTj h,jTj (show[t,m,y,z,A].getD 1 0<[t,m,y,z,A].getD 0 0 from h)];rfl
    ·rw[jFj h,jFj (show ¬[t,m,y,z,A].getD 1 0<[t,m,y,z,A].getD 0 0 from h),QR];rfl
   rw[O,jBj,gi3,YR,jBj,gi4,YR,jBj,QR,jBj,QeV (by omega),QeM];rfl
  ·rw[jFj d,jFj d]
 | .deliver,_,hg=>by
  have f:=hg.kind;dsimp only[kw] at f;obtain⟨a,t,m,rfl,rfl,g⟩:=hg.d12 rfl rfl;simp only[jCj,jnj];unfold Qq;rw[jTj (by unfold Qg;omega)];by_cases d:num=(evs.length:Int)+1
  ·rw[jTj d,jTj d,jFj (kne f (by decide))];unfold acc;rw[gi0];by_cases e:t<r.tick
   ·rw[jTj e,jTj (g0 e)]
   rw[jFj e,jFj (g0n e)];have l:okT r t:=okt e g;(iterate 15 rw[jFj (dne f (by decide))])
   rw[jTj f,Zd i hc j l,jBj];rw[QfT j r.offers (by have:=i.lenO;omega) a,jBj,W4 (by omega),jBj];refine qg fun p=>?_;have u:=WN (jO p);obtain⟨q,v,s⟩:=J6 u;have C:=i.offs _ (jgj s);have o:=hltO q v;rw[gs0,X8 _ (by have:=i.lenO;omega) (by have:=i.lenO;omega),jBj,ZQ _ _ (by rw[Wy];have:=i.lenO;omega) (by rw[Wy];have:=i.lenO;omega),jBj,jTj o,q];rw[gi1,Zc unO s,jBj,QR,jBj];have N:∀w:Int,((Qr n (m==0) 3).bind fun H=>(Za n (oAt r.offers a).1 (oAt r.offers a).2.1 (oAt r.offers a).2.2.1 (oAt r.offers a).2.2.2.1 (oAt r.offers a).2.2.2.2.1 (oAt r.offers a).2.2.2.2.2.1 (oAt r.offers a).2.2.2.2.2.2).bind fun J =>
     (Qr n (decide (m>J)) 20).bind fun K=>(Qi n ([I (QD (oAt r.offers a).2.2.2.2.2.2 23),I w,I H,I K])).bind fun E =>
     if E=0 then(if Qg (m*1000000) then(Q9 n t evs cnt r.tick r.level r.filled r.tripped r.light r.heat r.money (r.sectors.map Sd) (r.mirrors.map Q1) (r.offers.map Zs)).bind fun L=>(Qr n (decide ((m*1000000)>L.2)) 16).bind fun M=>some M else none) else some E) =
     some (if QK [QD (oAt r.offers a).2.2.2.2.2.2 23,w,QD (m==0) 3,QD (decide (m>WC (oAt r.offers a))) 20]=0 then QD (decide (m*1000000>r.heat+WP r t)) 16 else QK [QD (oAt r.offers a).2.2.2.2.2.2 23,w,QD (m==0) 3,QD (decide (m>WC (oAt r.offers a))) 20]):=by
    intro w;rw[QR,jBj,jh n C,jBj,QR,jBj,QeV (by omega),jBj];by_cases G:QK [QD (oAt r.offers a).2.2.2.2.2.2 23,w,QD (m==0) 3,QD (decide (m>WC (oAt r.offers a))) 20]=0
    ·have Q:=hg.val m (by simp);rw[jTj G,jTj G,jTj (by unfold Qg;omega),Wk i hc j l,jBj,QR,jBj]
    ·rw[jFj G,jFj G]
   unfold spec;simp only[List.getD_cons_zero,List.getD_cons_succ];by_cases F:t<(oAt r.offers a).2.1
   ·rw[jTj F];simp only[jTj F];exact N 14
   ·rw[jFj F,QR,jBj];simp only[jFj F];exact N _
  ·rw[jFj d,jFj d]
 | .bill,_,hg=>by
  have f:=hg.kind;dsimp only[kw] at f;obtain⟨a,t,rfl,rfl,g⟩:=hg.d11 rfl rfl;simp only[jCj,jnj];unfold Qq;rw[jTj (by unfold Qg;omega)];by_cases d:num=(evs.length:Int)+1
  ·rw[jTj d,jTj d,jFj (kne f (by decide))];unfold acc;rw[gi0];by_cases e:t<r.tick
   ·rw[jTj e,jTj (g0 e)]
   rw[jFj e,jFj (g0n e)];have l:okT r t:=okt e g;(iterate 16 rw[jFj (dne f (by decide))])
   rw[jTj f,Zd i hc j l,jBj];rw[QfT j r.offers (by have:=i.lenO;omega) a,jBj,W4 (by omega),jBj];refine qg fun p=>?_;have u:=WN (jO p);obtain⟨q,v,s⟩:=J6 u;have C:=i.offs _ (jgj s);have o:=hltO q v;rw[gs0,X8 _ (by have:=i.lenO;omega) (by have:=i.lenO;omega),jBj,ZQ _ _ (by rw[Wy];have:=i.lenO;omega) (by rw[Wy];have:=i.lenO;omega),jBj,jTj o,q,Zc unO s,jBj];rw[QR,jBj,QR,jBj,W4 (by omega)];rfl
  ·rw[jFj d,jFj d]
 | .undo,h,_=>absurd rfl h
def QcU (cnt:List Ev):Int:=match cnt.getLast? with
 | none=>12
 | some e=>if e.2.1.data.toList=kw .deliver\/e.2.1.data.toList=kw .bill then 21 else 0
theorem QcK {n:Nat}(r:Reg){num:Int}{kind b:jSj}{names:List jSj}{vals:List Int}{evs:jVj}(l:evs.length<=5000)(cnt:List Ev)(j:cnt.length<=5000)
  (k:Good (num,kind,names,vals,b) .undo):Qq n num kind (names.map Sd) (vals.map I) b evs (cnt.map Q5) r.tick r.level r.filled r.tripped r.light r.heat r.money (r.sectors.map Sd) (r.mirrors.map Q1) (r.offers.map Zs)=some (if num=(evs.length:Int)+1 then QcU cnt else 11):=by
 have g:=k.kind;dsimp only at g;unfold Qq;rw[jTj (by unfold Qg;omega)];by_cases a:num=(evs.length:Int)+1
 ·rw[jTj a,jTj a,jTj (keq g rfl)];unfold QcU;cases hl:cnt.getLast? with
  | none =>
   rw[List.getLast?_eq_none_iff.1 hl];rfl
  | some e =>
   have f:cnt≠[]:=fun h=>by rw[h] at hl;cases hl
   have i:=List.length_pos_iff.2 f;rw[List.getLast?_eq_getElem?] at hl;have hi:(((cnt.map Q5).length:Int) - 1)=((cnt.length - 1:Nat):Int):=by rw[jlj];omega
   rw[jFj (by rw[jlj];omega),hi,jTj (by unfold Qg;omega),jTj (by rw[jlj];omega),jtj,U4,List.getElem?_map,hl];show(if(e.2.1.toList==(⟨#[100,101,108,105,118,101,114]⟩:jSj).toList)=true then(Ko n).bind (fun t9=>some t9) else(Qr n (e.2.1.toList==(⟨#[98,105,108,108]⟩:jSj).toList) 21).bind fun t9=>some t9)=some (if e.2.1.data.toList=kw .deliver\/e.2.1.data.toList=kw .bill then 21 else 0);by_cases c:e.2.1.data.toList=kw .deliver
   ·rw[jTj (keq c rfl),jTj (.inl c)];rfl
   ·rw[jFj (fun h=>c (by rw[kq] at h;exact h)),QR,jBj];by_cases d:e.2.1.data.toList=kw .bill
    ·rw[jTj (.inr d)];unfold QD;rw[jTj (keq d rfl)]
    ·rw[jFj (by rintro(h|h);exact c h;exact d h)];unfold QD;rw[jFj (fun h=>d (by rw[kq] at h;exact h))]
 ·rw[jFj a,jFj a]
def bkd (r:Reg)(t:Int):Reg:={ r with tick:=t,light:=r.light+WP r t,heat:=r.heat+WP r t }
def chgM (r:Reg)(a:jSj)(m:Mir):Reg:={ r with mirrors:=r.mirrors.set (iM r.mirrors a) m }
def chgO (r:Reg)(a:jSj)(o:Off):Reg:={ r with offers:=r.offers.set (iO r.offers a) o }
def kO (m:Mir)(v:Int):Mir:=(m.1,m.2.1,m.2.2.1,v,m.2.2.2.2.1,m.2.2.2.2.2)
def defM (m:Mir)(b:Bool):Mir:=(m.1,m.2.1,m.2.2.1,m.2.2.2.1,b,m.2.2.2.2.2)
def aimM (m:Mir):Mir:=(m.1,m.2.1,m.2.2.1,m.2.2.2.1,m.2.2.2.2.1,true)
def delO (o:Off)(v:Int):Off:=(o.1,o.2.1,o.2.2.1,o.2.2.2.1,o.2.2.2.2.1,o.2.2.2.2.2.1+v,o.2.2.2.2.2.2)
def zp (o:Off):Off:=(o.1,o.2.1,o.2.2.1,o.2.2.2.1,o.2.2.2.2.1,o.2.2.2.2.2.1,true)
def act (k:Ki)(q:Reg)(ns:List jSj)(vs:List Int):Reg:=match k with
 | .sector=>{ q with sectors:=q.sectors++[ns.getD 0 ⟨#[]⟩] }
 | .mirror=>{ q with mirrors:=q.mirrors++[(ns.getD 0 ⟨#[]⟩,ns.getD 1 ⟨#[]⟩,vs.getD 1 0,0,false,false)] }
 | .soil=>chgM q (ns.getD 0 ⟨#[]⟩) (kO (mAt q.mirrors (ns.getD 0 ⟨#[]⟩)) (vs.getD 1 0))
 | .clean=>chgM q (ns.getD 0 ⟨#[]⟩) (kO (mAt q.mirrors (ns.getD 0 ⟨#[]⟩)) 0)
 | .defect=>chgM q (ns.getD 0 ⟨#[]⟩) (defM (mAt q.mirrors (ns.getD 0 ⟨#[]⟩)) true)
 | .repair=>chgM q (ns.getD 0 ⟨#[]⟩) (defM (mAt q.mirrors (ns.getD 0 ⟨#[]⟩)) false)
 | .aim=>chgM q (ns.getD 0 ⟨#[]⟩) (aimM (mAt q.mirrors (ns.getD 0 ⟨#[]⟩)))
 | .park=>chgM q (ns.getD 0 ⟨#[]⟩) (Xi (mAt q.mirrors (ns.getD 0 ⟨#[]⟩)))
 | .dim=>{ q with mirrors:=q.mirrors.map (kf (ns.getD 0 ⟨#[]⟩)) }
 | .sun=>{ q with level:=vs.getD 1 0 }
 | .fill=>{ q with filled:=true }
 | .drain=>{ q with filled:=false }
 | .trip=>{ q with tripped:=true,mirrors:=q.mirrors.map Xi }
 | .reset=>{ q with tripped:=false }
 | .offer=>{ q with offers:=q.offers++[(ns.getD 0 ⟨#[]⟩,vs.getD 1 0,vs.getD 2 0,vs.getD 3 0,vs.getD 4 0,0,false)] }
 | .deliver=>{ chgO q (ns.getD 0 ⟨#[]⟩) (delO (oAt q.offers (ns.getD 0 ⟨#[]⟩)) (vs.getD 1 0)) with heat:=q.heat - 1000000*vs.getD 1 0 }
 | .bill=>{ chgO q (ns.getD 0 ⟨#[]⟩) (zp (oAt q.offers (ns.getD 0 ⟨#[]⟩))) with money:=q.money+Gr (oAt q.offers (ns.getD 0 ⟨#[]⟩)) }
 | .undo=>q
def app (k:Ki)(r:Reg)(ns:List jSj)(vs:List Int):Reg:=act k (bkd r (vs.getD 0 0)) ns vs
abbrev wq:=Int×Int×Bool×Bool×Int×Int×Int×jVj×jVj×jVj
def Wd (r:Reg):wq:=(r.tick,r.level,r.filled,r.tripped,r.light,r.heat,r.money,r.sectors.map Sd,r.mirrors.map Q1,r.offers.map Zs)
theorem set_encO {s:List Off}{i:Nat}{y:Off}:List.set (s.map Zs) i (Zs y)=(s.set i y).map Zs:=by rw[List.map_set]
theorem QS {k:Ki}{r:Reg}{ns:List jSj}{vs:List Int}(h:acc k r ns vs=0):¬vs.getD 0 0<r.tick/\Gq r (vs.getD 0 0)=0/\known k r ns=0/\spec k r ns vs=0:=by
 unfold acc at h;by_cases a:vs.getD 0 0<r.tick
 ·rw[jTj a] at h;cases h
 ·rw[jFj a] at h;exact⟨a,Zl h _ (by simp),Zl h _ (by simp),Zl h _ (by simp)⟩
theorem wi {r:Reg}{a:jSj}{t b:Int}(h:spec .deliver r [a] [t,b]=0):(oAt r.offers a).2.2.2.2.2.2=false/\b≠0/\b<=WC (oAt r.offers a)/\b*1000000<=r.heat+WP r t:=by
 have h:(if QK [QD (oAt r.offers a).2.2.2.2.2.2 23,(if t<(oAt r.offers a).2.1 then 14 else QD (decide (t>=(oAt r.offers a).2.2.1)) 14),QD (b==0) 3,QD (decide (b>WC (oAt r.offers a))) 20]=0 then QD (decide (b*1000000>r.heat+WP r t)) 16 else QK [QD (oAt r.offers a).2.2.2.2.2.2 23,(if t<(oAt r.offers a).2.1 then 14 else QD (decide (t>=(oAt r.offers a).2.2.1)) 14),QD (b==0) 3,QD (decide (b>WC (oAt r.offers a))) 20])=0:=h;by_cases c:QK [QD (oAt r.offers a).2.2.2.2.2.2 23,(if t<(oAt r.offers a).2.1 then 14 else QD (decide (t>=(oAt r.offers a).2.2.1)) 14),QD (b==0) 3,QD (decide (b>WC (oAt r.offers a))) 20]=0
 ·rw[jTj c] at h;have d:=Ub (e:=23) (by decide) (Zl c (QD (oAt r.offers a).2.2.2.2.2.2 23) (by simp));have f:=Ub (e:=3) (by decide) (Zl c (QD (b==0) 3) (by simp));have g:=Ub (e:=20) (by decide) (Zl c (QD (decide (b>WC (oAt r.offers a))) 20) (by simp));have j:=Ub (e:=16) (by decide) h;have i:=of_decide_eq_false g;have k:=of_decide_eq_false j;refine⟨d,by simpa using f,by omega,by omega⟩
 ·rw[jFj c] at h;exact absurd h c
theorem Qiy {n c:Nat}(v:100<=n){r:Reg}(g:Inv c r)(hc:c<=40){num:Int}{kind E:jSj}{names:List jSj}{vals:List Int} :
  ∀{k:Ki},k≠.undo->Good (num,kind,names,vals,E) k->acc k r names vals=0->Qy n num kind (names.map Sd) (vals.map I) E r.tick r.level r.filled r.tripped r.light r.heat r.money (r.sectors.map Sd) (r.mirrors.map Q1) (r.offers.map Zs)=some (Wd (app k r names vals))
 | .sector,_,hg,ha=>by have f:=hg.kind;dsimp only[kw] at f;obtain⟨a,t,rfl,rfl,e⟩:=hg.d11 rfl rfl;obtain⟨d,p,j,m⟩:=QS ha;have o:okT r t:=okt d e;simp only[jCj,jnj];refine Eq.trans ?_ (show some (rtM r t ((r.sectors++[a]).map Sd) (r.mirrors.map Q1) (r.offers.map Zs))=some (Wd (app .sector r [a] [t])) from rfl);unfold Qy;rw[gi0,Wq g hc v o,jBj];rw[jTj f];rw[gs0,jTj (rmS g),List.map_append];rfl
 | .mirror,_,hg,ha=>by
  have f:=hg.kind;dsimp only[kw] at f;obtain⟨a,b,t,u,rfl,rfl,e⟩:=hg.d22 rfl rfl;obtain⟨d,p,j,m⟩:=QS ha;have o:okT r t:=okt d e;simp only[jCj,jnj];refine Eq.trans ?_ (show some (rtM r t (r.sectors.map Sd) ((r.mirrors++[((a,b,u,0,false,false):Mir)]).map Q1) (r.offers.map Zs))=some (Wd (app .mirror r [a,b] [t,u])) from rfl);unfold Qy;rw[gi0,Wq g hc v o,jBj];(iterate 1 rw[jFj (dne f (by decide))])
  rw[jTj f];rw[gs0,gs1,gi1,jTj (rmM g (by omega)),List.map_append];rfl
 | .soil,_,hg,ha=>by
  have f:=hg.kind;dsimp only[kw] at f;obtain⟨a,t,u,rfl,rfl,e⟩:=hg.d12 rfl rfl;obtain⟨d,p,j,m⟩:=QS ha;have o:okT r t:=okt d e;simp only[jCj,jnj];refine Eq.trans ?_ (show some (rtM r t (r.sectors.map Sd) ((r.mirrors.set (iM r.mirrors a) (kO (mAt r.mirrors a) u)).map Q1) (r.offers.map Zs))=some (Wd (app .soil r [a] [t,u])) from rfl);unfold Qy;rw[gi0,Wq g hc v o,jBj];(iterate 2 rw[jFj (dne f (by decide))])
  rw[jTj f];have A:ZG (nmM r.mirrors) a=true:=WN j;obtain⟨s,z,y⟩:=VM A;have q:=zm s z;rw[gs0,qT _ (by have:=g.lenM;omega) (by have:=g.lenM;omega),jBj,ZQ _ _ (by rw[Zh];have:=g.lenM;omega) (by rw[Zh];have:=g.lenM;omega),jBj,jTj q,s];rw[gi1];rw[Zc unM y,jBj,<-Yl,jtj];rfl
 | .clean,_,hg,ha=>by
  have f:=hg.kind;dsimp only[kw] at f;obtain⟨a,t,rfl,rfl,e⟩:=hg.d11 rfl rfl;obtain⟨d,p,j,m⟩:=QS ha;have o:okT r t:=okt d e;simp only[jCj,jnj];refine Eq.trans ?_ (show some (rtM r t (r.sectors.map Sd) ((r.mirrors.set (iM r.mirrors a) (kO (mAt r.mirrors a) 0)).map Q1) (r.offers.map Zs))=some (Wd (app .clean r [a] [t])) from rfl);unfold Qy;rw[gi0,Wq g hc v o,jBj];(iterate 3 rw[jFj (dne f (by decide))])
  rw[jTj f];have A:ZG (nmM r.mirrors) a=true:=WN j;obtain⟨s,z,y⟩:=VM A;have q:=zm s z;rw[gs0,qT _ (by have:=g.lenM;omega) (by have:=g.lenM;omega),jBj,ZQ _ _ (by rw[Zh];have:=g.lenM;omega) (by rw[Zh];have:=g.lenM;omega),jBj,jTj q,s];rw[Zc unM y,jBj,<-Yl,jtj];rfl
 | .defect,_,hg,ha=>by
  have f:=hg.kind;dsimp only[kw] at f;obtain⟨a,t,rfl,rfl,e⟩:=hg.d11 rfl rfl;obtain⟨d,p,j,m⟩:=QS ha;have o:okT r t:=okt d e;simp only[jCj,jnj];refine Eq.trans ?_ (show some (rtM r t (r.sectors.map Sd) ((r.mirrors.set (iM r.mirrors a) (defM (mAt r.mirrors a) true)).map Q1) (r.offers.map Zs))=some (Wd (app .defect r [a] [t])) from rfl);unfold Qy;rw[gi0,Wq g hc v o,jBj];(iterate 4 rw[jFj (dne f (by decide))])
  rw[jTj f];have A:ZG (nmM r.mirrors) a=true:=WN j;obtain⟨s,z,y⟩:=VM A;have q:=zm s z;rw[gs0,qT _ (by have:=g.lenM;omega) (by have:=g.lenM;omega),jBj,ZQ _ _ (by rw[Zh];have:=g.lenM;omega) (by rw[Zh];have:=g.lenM;omega),jBj,jTj q,s];rw[Zc unM y,jBj,<-Yl,jtj];rfl
 | .repair,_,hg,ha=>by
  have f:=hg.kind;dsimp only[kw] at f;obtain⟨a,t,rfl,rfl,e⟩:=hg.d11 rfl rfl;obtain⟨d,p,j,m⟩:=QS ha;have o:okT r t:=okt d e;simp only[jCj,jnj];refine Eq.trans ?_ (show some (rtM r t (r.sectors.map Sd) ((r.mirrors.set (iM r.mirrors a) (defM (mAt r.mirrors a) false)).map Q1) (r.offers.map Zs))=some (Wd (app .repair r [a] [t])) from rfl);unfold Qy;rw[gi0,Wq g hc v o,jBj];(iterate 5 rw[jFj (dne f (by decide))])
  rw[jTj f];have A:ZG (nmM r.mirrors) a=true:=WN j;obtain⟨s,z,y⟩:=VM A;have q:=zm s z;rw[gs0,qT _ (by have:=g.lenM;omega) (by have:=g.lenM;omega),jBj,ZQ _ _ (by rw[Zh];have:=g.lenM;omega) (by rw[Zh];have:=g.lenM;omega),jBj,jTj q,s];rw[Zc unM y,jBj,<-Yl,jtj];rfl
 | .aim,_,hg,ha=>by
  have f:=hg.kind;dsimp only[kw] at f;obtain⟨a,t,rfl,rfl,e⟩:=hg.d11 rfl rfl;obtain⟨d,p,j,m⟩:=QS ha;have o:okT r t:=okt d e;simp only[jCj,jnj];refine Eq.trans ?_ (show some (rtM r t (r.sectors.map Sd) ((r.mirrors.set (iM r.mirrors a) (aimM (mAt r.mirrors a))).map Q1) (r.offers.map Zs))=some (Wd (app .aim r [a] [t])) from rfl);unfold Qy;rw[gi0,Wq g hc v o,jBj];(iterate 6 rw[jFj (dne f (by decide))])
  rw[jTj f];have A:ZG (nmM r.mirrors) a=true:=WN j;obtain⟨s,z,y⟩:=VM A;have q:=zm s z;rw[gs0,qT _ (by have:=g.lenM;omega) (by have:=g.lenM;omega),jBj,ZQ _ _ (by rw[Zh];have:=g.lenM;omega) (by rw[Zh];have:=g.lenM;omega),jBj,jTj q,s];rw[Zc unM y,jBj,<-Yl,jtj];rfl
 | .park,_,hg,ha=>by
  have f:=hg.kind;dsimp only[kw] at f;obtain⟨a,t,rfl,rfl,e⟩:=hg.d11 rfl rfl;obtain⟨d,p,j,m⟩:=QS ha;have o:okT r t:=okt d e;simp only[jCj,jnj];refine Eq.trans ?_ (show some (rtM r t (r.sectors.map Sd) ((r.mirrors.set (iM r.mirrors a) (Xi (mAt r.mirrors a))).map Q1) (r.offers.map Zs))=some (Wd (app .park r [a] [t])) from rfl);unfold Qy;rw[gi0,Wq g hc v o,jBj];(iterate 7 rw[jFj (dne f (by decide))])
  rw[jTj f];have A:ZG (nmM r.mirrors) a=true:=WN j;obtain⟨s,z,y⟩:=VM A;have q:=zm s z;rw[gs0,qT _ (by have:=g.lenM;omega) (by have:=g.lenM;omega),jBj,ZQ _ _ (by rw[Zh];have:=g.lenM;omega) (by rw[Zh];have:=g.lenM;omega),jBj,jTj q,s];rw[Zc unM y,jBj,<-Yl,jtj];rfl
 | .dim,_,hg,ha=>by
  have f:=hg.kind;dsimp only[kw] at f;obtain⟨a,t,rfl,rfl,e⟩:=hg.d11 rfl rfl;obtain⟨d,p,j,m⟩:=QS ha;have o:okT r t:=okt d e;simp only[jCj,jnj];refine Eq.trans ?_ (show some (rtM r t (r.sectors.map Sd) ((r.mirrors.map (kf a)).map Q1) (r.offers.map Zs))=some (Wd (app .dim r [a] [t])) from rfl);unfold Qy;rw[gi0,Wq g hc v o,jBj];(iterate 8 rw[jFj (dne f (by decide))])
  rw[jTj f];rw[Qkw _ (by have:=g.lenM;omega) (by have:=g.lenM;omega),jBj]
 | .sun,_,hg,ha=>by
  have f:=hg.kind;dsimp only[kw] at f;obtain⟨t,u,rfl,rfl,e⟩:=hg.d02 rfl rfl;obtain⟨d,p,j,m⟩:=QS ha;have o:okT r t:=okt d e;simp only[jCj,jnj];refine Eq.trans ?_ (show some ((t,u,r.filled,r.tripped,r.light+WP r t,r.heat+WP r t,r.money,r.sectors.map Sd,r.mirrors.map Q1,r.offers.map Zs):wq)=some (Wd (app .sun r [] [t,u])) from rfl);unfold Qy;rw[gi0,Wq g hc v o,jBj];(iterate 9 rw[jFj (dne f (by decide))])
  rw[jTj f];rw[gi1]
 | .fill,_,hg,ha=>by
  have f:=hg.kind;dsimp only[kw] at f;obtain⟨t,rfl,rfl,e⟩:=hg.d01 rfl rfl;obtain⟨d,p,j,m⟩:=QS ha;have o:okT r t:=okt d e;simp only[jCj,jnj];refine Eq.trans ?_ (show some ((t,r.level,true,r.tripped,r.light+WP r t,r.heat+WP r t,r.money,r.sectors.map Sd,r.mirrors.map Q1,r.offers.map Zs):wq)=some (Wd (app .fill r [] [t])) from rfl);unfold Qy;rw[gi0,Wq g hc v o,jBj];(iterate 10 rw[jFj (dne f (by decide))])
  rw[jTj f]
 | .drain,_,hg,ha=>by
  have f:=hg.kind;dsimp only[kw] at f;obtain⟨t,rfl,rfl,e⟩:=hg.d01 rfl rfl;obtain⟨d,p,j,m⟩:=QS ha;have o:okT r t:=okt d e;simp only[jCj,jnj];refine Eq.trans ?_ (show some ((t,r.level,false,r.tripped,r.light+WP r t,r.heat+WP r t,r.money,r.sectors.map Sd,r.mirrors.map Q1,r.offers.map Zs):wq)=some (Wd (app .drain r [] [t])) from rfl);unfold Qy;rw[gi0,Wq g hc v o,jBj];(iterate 11 rw[jFj (dne f (by decide))])
  rw[jTj f]
 | .trip,_,hg,ha=>by
  have f:=hg.kind;dsimp only[kw] at f;obtain⟨t,rfl,rfl,e⟩:=hg.d01 rfl rfl;obtain⟨d,p,j,m⟩:=QS ha;have o:okT r t:=okt d e;simp only[jCj,jnj];refine Eq.trans ?_ (show some ((t,r.level,r.filled,true,r.light+WP r t,r.heat+WP r t,r.money,r.sectors.map Sd,(r.mirrors.map Xi).map Q1,r.offers.map Zs):wq)=some (Wd (app .trip r [] [t])) from rfl);unfold Qy;rw[gi0,Wq g hc v o,jBj];(iterate 12 rw[jFj (dne f (by decide))])
  rw[jTj f];rw[Qkv _ (by have:=g.lenM;omega) (by have:=g.lenM;omega),jBj]
 | .reset,_,hg,ha=>by
  have f:=hg.kind;dsimp only[kw] at f;obtain⟨t,rfl,rfl,e⟩:=hg.d01 rfl rfl;obtain⟨d,p,j,m⟩:=QS ha;have o:okT r t:=okt d e;simp only[jCj,jnj];refine Eq.trans ?_ (show some ((t,r.level,r.filled,false,r.light+WP r t,r.heat+WP r t,r.money,r.sectors.map Sd,r.mirrors.map Q1,r.offers.map Zs):wq)=some (Wd (app .reset r [] [t])) from rfl);unfold Qy;rw[gi0,Wq g hc v o,jBj];(iterate 13 rw[jFj (dne f (by decide))])
  rw[jTj f]
 | .offer,_,hg,ha=>by
  have f:=hg.kind;dsimp only[kw] at f;obtain⟨a,t,u,G,M,N,rfl,rfl,e⟩:=hg.d15 rfl rfl;obtain⟨d,p,j,m⟩:=QS ha;have o:okT r t:=okt d e;simp only[jCj,jnj];refine Eq.trans ?_ (show some (rtM r t (r.sectors.map Sd) (r.mirrors.map Q1) ((r.offers++[((a,u,G,M,N,0,false):Off)]).map Zs))=some (Wd (app .offer r [a] [t,u,G,M,N])) from rfl);unfold Qy;rw[gi0,Wq g hc v o,jBj];(iterate 14 rw[jFj (dne f (by decide))])
  rw[jTj f];have L:∃w,Vb n num kind [Sd a] [I t,I u,I G,I M,I N] E=some (u,G,w):=by
   unfold Vb;rw[gi1,gi2,gi0];by_cases h:u<t
   ·rw[jTj h];exact⟨14,rfl⟩
   ·rw[jFj h,QR];exact⟨_,rfl⟩
  obtain⟨w,L⟩:=L;rw[L,jBj,gs0,gi3,gi4,jTj (rmO g (by omega)),List.map_append];rfl
 | .deliver,_,hg,ha=>by
  have f:=hg.kind;dsimp only[kw] at f;obtain⟨a,t,u,rfl,rfl,e⟩:=hg.d12 rfl rfl;obtain⟨d,p,j,m⟩:=QS ha;have o:okT r t:=okt d e;simp only[jCj,jnj];refine Eq.trans ?_ (show some ((t,r.level,r.filled,r.tripped,r.light+WP r t,r.heat+WP r t - 1000000*u,r.money,r.sectors.map Sd,r.mirrors.map Q1,(r.offers.set (iO r.offers a) (delO (oAt r.offers a) u)).map Zs):wq)=some (Wd (app .deliver r [a] [t,u])) from rfl);unfold Qy;rw[gi0,Wq g hc v o,jBj];(iterate 15 rw[jFj (dne f (by decide))])
  rw[jTj f];have A:ZG (nmO r.offers) a=true:=WN j;obtain⟨s,z,y⟩:=J6 A;have C:=g.offs _ (jgj y);have q:=hltO s z;rw[gs0,QfK _ (by have:=g.lenO;omega) (by have:=g.lenO;omega),jBj,ZQ _ _ (by rw[Wy];have:=g.lenO;omega) (by rw[Wy];have:=g.lenO;omega),jBj,jTj q,s];have P:=wi m;have O:=Kg C;have V:=hg.val u (by simp);have S:=qe g hc o;have T:=g.heat;have J:=P.2.2.1;have Q:=C.2.2;unfold WC at J;rw[Zc unO y,jBj,gi1,jTj (by unfold Qg;have:=C.1;omega),jTj (by unfold Qg;omega),jTj (by unfold Qg;omega),<-set_encO,jtj];rfl
 | .bill,_,hg,ha=>by
  have f:=hg.kind;dsimp only[kw] at f;obtain⟨a,t,rfl,rfl,e⟩:=hg.d11 rfl rfl;obtain⟨d,p,j,m⟩:=QS ha;have o:okT r t:=okt d e;simp only[jCj,jnj];refine Eq.trans ?_ (show some ((t,r.level,r.filled,r.tripped,r.light+WP r t,r.heat+WP r t,r.money+Gr (oAt r.offers a),r.sectors.map Sd,r.mirrors.map Q1,(r.offers.set (iO r.offers a) (zp (oAt r.offers a))).map Zs):wq)=some (Wd (app .bill r [a] [t])) from rfl);unfold Qy;rw[gi0,Wq g hc v o,jBj];(iterate 16 rw[jFj (dne f (by decide))])
  rw[jTj f];have A:ZG (nmO r.offers) a=true:=WN j;obtain⟨s,z,y⟩:=J6 A;have C:=g.offs _ (jgj y);have q:=hltO s z;rw[gs0,QfK _ (by have:=g.lenO;omega) (by have:=g.lenO;omega),jBj,ZQ _ _ (by rw[Wy];have:=g.lenO;omega) (by rw[Wy];have:=g.lenO;omega),jBj,jTj q,s];have O:=(Kg C).2.2.2;have U:=g.money;have K:(nth (List.set (r.offers.map Zs) (Int.toNat (iO r.offers a:Int)) (Zs (zp (oAt r.offers a))):jVj) (Int.toNat (iO r.offers a:Int))).bind Z4=some (zp (oAt r.offers a)):=by rw[jtj,set_encO];have:=Zc (i:=iO r.offers a) (l:=r.offers.set (iO r.offers a) (zp (oAt r.offers a))) (x:=zp (oAt r.offers a)) unO (by rw[List.getElem?_set_self z]);rwa [jtj] at this
  have F:okO (zp (oAt r.offers a)):=C;have H:Gr (zp (oAt r.offers a))=Gr (oAt r.offers a):=rfl;rw[Zc unO y,jBj];refine Eq.trans (congrArg (fun x:Option Off=>x.bind _) K) ?_;rw[jBj,QcA n F,jBj,H,jTj (by unfold Qg;omega),<-set_encO,jtj];rfl
 | .undo,h,_,_=>absurd rfl h
theorem Qg8 {n c:Nat}(v:100<=n){r:Reg}(g:Inv c r)(hc:c<=40){num:Int}{kind E:jSj}{names:List jSj}{vals:List Int}{evs cnt:jVj} :
  ∀{k:Ki},k≠.undo->Good (num,kind,names,vals,E) k->acc k r names vals=0->Qw n num kind (names.map Sd) (vals.map I) E evs cnt r.tick r.level r.filled r.tripped r.light r.heat r.money (r.sectors.map Sd) (r.mirrors.map Q1) (r.offers.map Zs)=some (Wd (app k r names vals))
 | .sector,_,hg,ha=>by have f:=hg.kind;dsimp only[kw] at f;obtain⟨a,t,rfl,rfl,e⟩:=hg.d11 rfl rfl;obtain⟨d,p,j,m⟩:=QS ha;have o:okT r t:=okt d e;simp only[jCj,jnj];refine Eq.trans ?_ (show some (rtM r t ((r.sectors++[a]).map Sd) (r.mirrors.map Q1) (r.offers.map Zs))=some (Wd (app .sector r [a] [t])) from rfl);unfold Qw;rw[gi0,Wk g hc v o,jBj];rw[jTj f];rw[gs0,jTj (rmS g),List.map_append];rfl
 | .mirror,_,hg,ha=>by
  have f:=hg.kind;dsimp only[kw] at f;obtain⟨a,b,t,u,rfl,rfl,e⟩:=hg.d22 rfl rfl;obtain⟨d,p,j,m⟩:=QS ha;have o:okT r t:=okt d e;simp only[jCj,jnj];refine Eq.trans ?_ (show some (rtM r t (r.sectors.map Sd) ((r.mirrors++[((a,b,u,0,false,false):Mir)]).map Q1) (r.offers.map Zs))=some (Wd (app .mirror r [a,b] [t,u])) from rfl);unfold Qw;rw[gi0,Wk g hc v o,jBj];(iterate 1 rw[jFj (dne f (by decide))])
  rw[jTj f];rw[gs0,gs1,gi1,jTj (rmM g (by omega)),List.map_append];rfl
 | .soil,_,hg,ha=>by
  have f:=hg.kind;dsimp only[kw] at f;obtain⟨a,t,u,rfl,rfl,e⟩:=hg.d12 rfl rfl;obtain⟨d,p,j,m⟩:=QS ha;have o:okT r t:=okt d e;simp only[jCj,jnj];refine Eq.trans ?_ (show some (rtM r t (r.sectors.map Sd) ((r.mirrors.set (iM r.mirrors a) (kO (mAt r.mirrors a) u)).map Q1) (r.offers.map Zs))=some (Wd (app .soil r [a] [t,u])) from rfl);unfold Qw;rw[gi0,Wk g hc v o,jBj];(iterate 2 rw[jFj (dne f (by decide))])
  rw[jTj f];have A:ZG (nmM r.mirrors) a=true:=WN j;obtain⟨s,z,y⟩:=VM A;have q:=zm s z;rw[gs0,UE _ (by have:=g.lenM;omega) (by have:=g.lenM;omega),jBj,ZQ _ _ (by rw[Zh];have:=g.lenM;omega) (by rw[Zh];have:=g.lenM;omega),jBj,jTj q,s];rw[gi1];rw[Zc unM y,jBj,<-Yl,jtj];rfl
 | .clean,_,hg,ha=>by
  have f:=hg.kind;dsimp only[kw] at f;obtain⟨a,t,rfl,rfl,e⟩:=hg.d11 rfl rfl;obtain⟨d,p,j,m⟩:=QS ha;have o:okT r t:=okt d e;simp only[jCj,jnj];refine Eq.trans ?_ (show some (rtM r t (r.sectors.map Sd) ((r.mirrors.set (iM r.mirrors a) (kO (mAt r.mirrors a) 0)).map Q1) (r.offers.map Zs))=some (Wd (app .clean r [a] [t])) from rfl);unfold Qw;rw[gi0,Wk g hc v o,jBj];(iterate 3 rw[jFj (dne f (by decide))])
  rw[jTj f];have A:ZG (nmM r.mirrors) a=true:=WN j;obtain⟨s,z,y⟩:=VM A;have q:=zm s z;rw[gs0,UE _ (by have:=g.lenM;omega) (by have:=g.lenM;omega),jBj,ZQ _ _ (by rw[Zh];have:=g.lenM;omega) (by rw[Zh];have:=g.lenM;omega),jBj,jTj q,s];rw[Zc unM y,jBj,<-Yl,jtj];rfl
 | .defect,_,hg,ha=>by
  have f:=hg.kind;dsimp only[kw] at f;obtain⟨a,t,rfl,rfl,e⟩:=hg.d11 rfl rfl;obtain⟨d,p,j,m⟩:=QS ha;have o:okT r t:=okt d e;simp only[jCj,jnj];refine Eq.trans ?_ (show some (rtM r t (r.sectors.map Sd) ((r.mirrors.set (iM r.mirrors a) (defM (mAt r.mirrors a) true)).map Q1) (r.offers.map Zs))=some (Wd (app .defect r [a] [t])) from rfl);unfold Qw;rw[gi0,Wk g hc v o,jBj];(iterate 4 rw[jFj (dne f (by decide))])
  rw[jTj f];have A:ZG (nmM r.mirrors) a=true:=WN j;obtain⟨s,z,y⟩:=VM A;have q:=zm s z;rw[gs0,UE _ (by have:=g.lenM;omega) (by have:=g.lenM;omega),jBj,ZQ _ _ (by rw[Zh];have:=g.lenM;omega) (by rw[Zh];have:=g.lenM;omega),jBj,jTj q,s];rw[Zc unM y,jBj,<-Yl,jtj];rfl
 | .repair,_,hg,ha=>by
  have f:=hg.kind;dsimp only[kw] at f;obtain⟨a,t,rfl,rfl,e⟩:=hg.d11 rfl rfl;obtain⟨d,p,j,m⟩:=QS ha;have o:okT r t:=okt d e;simp only[jCj,jnj];refine Eq.trans ?_ (show some (rtM r t (r.sectors.map Sd) ((r.mirrors.set (iM r.mirrors a) (defM (mAt r.mirrors a) false)).map Q1) (r.offers.map Zs))=some (Wd (app .repair r [a] [t])) from rfl);unfold Qw;rw[gi0,Wk g hc v o,jBj];(iterate 5 rw[jFj (dne f (by decide))])
  rw[jTj f];have A:ZG (nmM r.mirrors) a=true:=WN j;obtain⟨s,z,y⟩:=VM A;have q:=zm s z;rw[gs0,UE _ (by have:=g.lenM;omega) (by have:=g.lenM;omega),jBj,ZQ _ _ (by rw[Zh];have:=g.lenM;omega) (by rw[Zh];have:=g.lenM;omega),jBj,jTj q,s];rw[Zc unM y,jBj,<-Yl,jtj];rfl
 | .aim,_,hg,ha=>by
  have f:=hg.kind;dsimp only[kw] at f;obtain⟨a,t,rfl,rfl,e⟩:=hg.d11 rfl rfl;obtain⟨d,p,j,m⟩:=QS ha;have o:okT r t:=okt d e;simp only[jCj,jnj];refine Eq.trans ?_ (show some (rtM r t (r.sectors.map Sd) ((r.mirrors.set (iM r.mirrors a) (aimM (mAt r.mirrors a))).map Q1) (r.offers.map Zs))=some (Wd (app .aim r [a] [t])) from rfl);unfold Qw;rw[gi0,Wk g hc v o,jBj];(iterate 6 rw[jFj (dne f (by decide))])
  rw[jTj f];have A:ZG (nmM r.mirrors) a=true:=WN j;obtain⟨s,z,y⟩:=VM A;have q:=zm s z;rw[gs0,UE _ (by have:=g.lenM;omega) (by have:=g.lenM;omega),jBj,ZQ _ _ (by rw[Zh];have:=g.lenM;omega) (by rw[Zh];have:=g.lenM;omega),jBj,jTj q,s];rw[Zc unM y,jBj,<-Yl,jtj];rfl
 | .park,_,hg,ha=>by
  have f:=hg.kind;dsimp only[kw] at f;obtain⟨a,t,rfl,rfl,e⟩:=hg.d11 rfl rfl;obtain⟨d,p,j,m⟩:=QS ha;have o:okT r t:=okt d e;simp only[jCj,jnj];refine Eq.trans ?_ (show some (rtM r t (r.sectors.map Sd) ((r.mirrors.set (iM r.mirrors a) (Xi (mAt r.mirrors a))).map Q1) (r.offers.map Zs))=some (Wd (app .park r [a] [t])) from rfl);unfold Qw;rw[gi0,Wk g hc v o,jBj];(iterate 7 rw[jFj (dne f (by decide))])
  rw[jTj f];have A:ZG (nmM r.mirrors) a=true:=WN j;obtain⟨s,z,y⟩:=VM A;have q:=zm s z;rw[gs0,UE _ (by have:=g.lenM;omega) (by have:=g.lenM;omega),jBj,ZQ _ _ (by rw[Zh];have:=g.lenM;omega) (by rw[Zh];have:=g.lenM;omega),jBj,jTj q,s];rw[Zc unM y,jBj,<-Yl,jtj];rfl
 | .dim,_,hg,ha=>by
  have f:=hg.kind;dsimp only[kw] at f;obtain⟨a,t,rfl,rfl,e⟩:=hg.d11 rfl rfl;obtain⟨d,p,j,m⟩:=QS ha;have o:okT r t:=okt d e;simp only[jCj,jnj];refine Eq.trans ?_ (show some (rtM r t (r.sectors.map Sd) ((r.mirrors.map (kf a)).map Q1) (r.offers.map Zs))=some (Wd (app .dim r [a] [t])) from rfl);unfold Qw;rw[gi0,Wk g hc v o,jBj];(iterate 8 rw[jFj (dne f (by decide))])
  rw[jTj f];rw[QjY _ (by have:=g.lenM;omega) (by have:=g.lenM;omega),jBj]
 | .sun,_,hg,ha=>by
  have f:=hg.kind;dsimp only[kw] at f;obtain⟨t,u,rfl,rfl,e⟩:=hg.d02 rfl rfl;obtain⟨d,p,j,m⟩:=QS ha;have o:okT r t:=okt d e;simp only[jCj,jnj];refine Eq.trans ?_ (show some ((t,u,r.filled,r.tripped,r.light+WP r t,r.heat+WP r t,r.money,r.sectors.map Sd,r.mirrors.map Q1,r.offers.map Zs):wq)=some (Wd (app .sun r [] [t,u])) from rfl);unfold Qw;rw[gi0,Wk g hc v o,jBj];(iterate 9 rw[jFj (dne f (by decide))])
  rw[jTj f];rw[gi1]
 | .fill,_,hg,ha=>by
  have f:=hg.kind;dsimp only[kw] at f;obtain⟨t,rfl,rfl,e⟩:=hg.d01 rfl rfl;obtain⟨d,p,j,m⟩:=QS ha;have o:okT r t:=okt d e;simp only[jCj,jnj];refine Eq.trans ?_ (show some ((t,r.level,true,r.tripped,r.light+WP r t,r.heat+WP r t,r.money,r.sectors.map Sd,r.mirrors.map Q1,r.offers.map Zs):wq)=some (Wd (app .fill r [] [t])) from rfl);unfold Qw;rw[gi0,Wk g hc v o,jBj];(iterate 10 rw[jFj (dne f (by decide))])
  rw[jTj f]
 | .drain,_,hg,ha=>by
  have f:=hg.kind;dsimp only[kw] at f;obtain⟨t,rfl,rfl,e⟩:=hg.d01 rfl rfl;obtain⟨d,p,j,m⟩:=QS ha;have o:okT r t:=okt d e;simp only[jCj,jnj];refine Eq.trans ?_ (show some ((t,r.level,false,r.tripped,r.light+WP r t,r.heat+WP r t,r.money,r.sectors.map Sd,r.mirrors.map Q1,r.offers.map Zs):wq)=some (Wd (app .drain r [] [t])) from rfl);unfold Qw;rw[gi0,Wk g hc v o,jBj];(iterate 11 rw[jFj (dne f (by decide))])
  rw[jTj f]
 | .trip,_,hg,ha=>by
  have f:=hg.kind;dsimp only[kw] at f;obtain⟨t,rfl,rfl,e⟩:=hg.d01 rfl rfl;obtain⟨d,p,j,m⟩:=QS ha;have o:okT r t:=okt d e;simp only[jCj,jnj];refine Eq.trans ?_ (show some ((t,r.level,r.filled,true,r.light+WP r t,r.heat+WP r t,r.money,r.sectors.map Sd,(r.mirrors.map Xi).map Q1,r.offers.map Zs):wq)=some (Wd (app .trip r [] [t])) from rfl);unfold Qw;rw[gi0,Wk g hc v o,jBj];(iterate 12 rw[jFj (dne f (by decide))])
  rw[jTj f];rw[QjX _ (by have:=g.lenM;omega) (by have:=g.lenM;omega),jBj]
 | .reset,_,hg,ha=>by
  have f:=hg.kind;dsimp only[kw] at f;obtain⟨t,rfl,rfl,e⟩:=hg.d01 rfl rfl;obtain⟨d,p,j,m⟩:=QS ha;have o:okT r t:=okt d e;simp only[jCj,jnj];refine Eq.trans ?_ (show some ((t,r.level,r.filled,false,r.light+WP r t,r.heat+WP r t,r.money,r.sectors.map Sd,r.mirrors.map Q1,r.offers.map Zs):wq)=some (Wd (app .reset r [] [t])) from rfl);unfold Qw;rw[gi0,Wk g hc v o,jBj];(iterate 13 rw[jFj (dne f (by decide))])
  rw[jTj f]
 | .offer,_,hg,ha=>by
  have f:=hg.kind;dsimp only[kw] at f;obtain⟨a,t,u,G,M,N,rfl,rfl,e⟩:=hg.d15 rfl rfl;obtain⟨d,p,j,m⟩:=QS ha;have o:okT r t:=okt d e;simp only[jCj,jnj];refine Eq.trans ?_ (show some (rtM r t (r.sectors.map Sd) (r.mirrors.map Q1) ((r.offers++[((a,u,G,M,N,0,false):Off)]).map Zs))=some (Wd (app .offer r [a] [t,u,G,M,N])) from rfl);unfold Qw;rw[gi0,Wk g hc v o,jBj];(iterate 14 rw[jFj (dne f (by decide))])
  rw[jTj f];have L:∃w,Vb n num kind [Sd a] [I t,I u,I G,I M,I N] E=some (u,G,w):=by
   unfold Vb;rw[gi1,gi2,gi0];by_cases h:u<t
   ·rw[jTj h];exact⟨14,rfl⟩
   ·rw[jFj h,QR];exact⟨_,rfl⟩
  obtain⟨w,L⟩:=L;rw[L,jBj,gs0,gi3,gi4,jTj (rmO g (by omega)),List.map_append];rfl
 | .deliver,_,hg,ha=>by
  have f:=hg.kind;dsimp only[kw] at f;obtain⟨a,t,u,rfl,rfl,e⟩:=hg.d12 rfl rfl;obtain⟨d,p,j,m⟩:=QS ha;have o:okT r t:=okt d e;simp only[jCj,jnj];refine Eq.trans ?_ (show some ((t,r.level,r.filled,r.tripped,r.light+WP r t,r.heat+WP r t - 1000000*u,r.money,r.sectors.map Sd,r.mirrors.map Q1,(r.offers.set (iO r.offers a) (delO (oAt r.offers a) u)).map Zs):wq)=some (Wd (app .deliver r [a] [t,u])) from rfl);unfold Qw;rw[gi0,Wk g hc v o,jBj];(iterate 15 rw[jFj (dne f (by decide))])
  rw[jTj f];have A:ZG (nmO r.offers) a=true:=WN j;obtain⟨s,z,y⟩:=J6 A;have C:=g.offs _ (jgj y);have q:=hltO s z;rw[gs0,X8 _ (by have:=g.lenO;omega) (by have:=g.lenO;omega),jBj,ZQ _ _ (by rw[Wy];have:=g.lenO;omega) (by rw[Wy];have:=g.lenO;omega),jBj,jTj q,s];have P:=wi m;have O:=Kg C;have V:=hg.val u (by simp);have S:=qe g hc o;have T:=g.heat;have J:=P.2.2.1;have Q:=C.2.2;unfold WC at J;rw[Zc unO y,jBj,gi1,jTj (by unfold Qg;have:=C.1;omega),jTj (by unfold Qg;omega),jTj (by unfold Qg;omega),<-set_encO,jtj];rfl
 | .bill,_,hg,ha=>by
  have f:=hg.kind;dsimp only[kw] at f;obtain⟨a,t,rfl,rfl,e⟩:=hg.d11 rfl rfl;obtain⟨d,p,j,m⟩:=QS ha;have o:okT r t:=okt d e;simp only[jCj,jnj];refine Eq.trans ?_ (show some ((t,r.level,r.filled,r.tripped,r.light+WP r t,r.heat+WP r t,r.money+Gr (oAt r.offers a),r.sectors.map Sd,r.mirrors.map Q1,(r.offers.set (iO r.offers a) (zp (oAt r.offers a))).map Zs):wq)=some (Wd (app .bill r [a] [t])) from rfl);unfold Qw;rw[gi0,Wk g hc v o,jBj];(iterate 16 rw[jFj (dne f (by decide))])
  rw[jTj f];have A:ZG (nmO r.offers) a=true:=WN j;obtain⟨s,z,y⟩:=J6 A;have C:=g.offs _ (jgj y);have q:=hltO s z;rw[gs0,X8 _ (by have:=g.lenO;omega) (by have:=g.lenO;omega),jBj,ZQ _ _ (by rw[Wy];have:=g.lenO;omega) (by rw[Wy];have:=g.lenO;omega),jBj,jTj q,s];have O:=(Kg C).2.2.2;have U:=g.money;have K:(nth (List.set (r.offers.map Zs) (Int.toNat (iO r.offers a:Int)) (Zs (zp (oAt r.offers a))):jVj) (Int.toNat (iO r.offers a:Int))).bind Z4=some (zp (oAt r.offers a)):=by rw[jtj,set_encO];have:=Zc (i:=iO r.offers a) (l:=r.offers.set (iO r.offers a) (zp (oAt r.offers a))) (x:=zp (oAt r.offers a)) unO (by rw[List.getElem?_set_self z]);rwa [jtj] at this
  have F:okO (zp (oAt r.offers a)):=C;have H:Gr (zp (oAt r.offers a))=Gr (oAt r.offers a):=rfl;rw[Zc unO y,jBj];refine Eq.trans (congrArg (fun x:Option Off=>x.bind _) K) ?_;rw[jBj,QcA n F,jBj,H,jTj (by unfold Qg;omega),<-set_encO,jtj];rfl
 | .undo,h,_,_=>absurd rfl h
theorem QqP {l:List jSj}{s:jSj}(h:¬ZG l s=true):zk l s<0:=QhE.2 fun a=>h (pos_mem.2 a)
theorem Qqd {l:List jSj}{s:jSj}(h:ZG l s=true):¬zk l s<0:=fun a=>QhE.1 a (pos_mem.1 h)
theorem QpT {l:List jSj}{s:jSj}:zk l s>=0↔ZG l s=true:=posI_nn.trans pos_mem.symm
theorem Qqh {n:Nat}(u:100<=n){f g:Int}{h i:Bool}{j l m:Int}{o:jVj}{p:jVj}{r:jVj}{c:jVj}{b:Int}{a:jSj}{d:jVj}{e:jSj}{k:Ki}(s:a.data.toList=kw k)(t:kr k=[]):um n f g h i j l m o p r b a c d e=some (0):=by
 unfold um;rw[Qmm n s,jBj,t];have q:Kn n f g h i j l m o p r b a c d e (mkS [],(kv k:Int),true) 0=some (.inr (.inr ())):=by unfold Kn;dsimp only;rw[jFj (show ¬(0:Int)<((mkS []).size:Int) by decide)]
 rw[W7 (by omega) q,jBj];dsimp only;rw[jFj (show ¬((mkS []).size:Int)>0 by decide)]
theorem QtQ {n:Nat}(w:100<=n){f g:Int}{i j:Bool}{l m o:Int}{p:jVj}{r:jVj}{c:Int}{b:jSj}{d:jVj}{e:jSj}(ss:List jSj)(x:ss.length<=40)(a:jSj){k:Ki}(t:b.data.toList=kw k)(u:kr k=[83]):um n f g i j l m o (ss.map Sd) p r c b [Sd a] d e=some (QD (ZG ss a) 9):=by
 unfold um;rw[Qmm n t,jBj,u];have q:Kn n f g i j l m o (ss.map Sd) p r c b [Sd a] d e (mkS [83],(kv k:Int),true) 0=some (.inl 1):=by unfold Kn;dsimp only;rw[jTj (show(0:Int)<((mkS [83]).size:Int) by decide),show UY (mkS [83]) 0=some 83 from rfl,jBj,jFj (by decide),jTj (by decide)];rfl
 have v:Kn n f g i j l m o (ss.map Sd) p r c b [Sd a] d e (mkS [83],(kv k:Int),true) 1=some (.inr (.inr ())):=by unfold Kn;dsimp only;rw[jFj (show ¬(1:Int)<((mkS [83]).size:Int) by decide)]
 rw[Y5 (by omega) q,W7 (by omega) v,jBj];dsimp only;rw[jTj (show((mkS [83]).size:Int)>0 by decide),show UY (mkS [83]) 0=some 83 from rfl,jBj,jTj (by decide),gs0,show IntKind.wrap .u8 (IntKind.wrap .u8 (83+97) - 65)=115 from by decide,at_s ss a (by omega) (by omega),jBj];unfold QD;by_cases h:ZG ss a=true
 ·rw[jTj (QpT.2 h),jTj h]
 ·rw[jFj (fun s=>h (QpT.1 s)),jFj h]
theorem QtR {n:Nat}(x:100<=n){g i:Int}{j l:Bool}{m o p:Int}{r:jVj}{s:jVj}{c:Int}{b:jSj}{d:jVj}{e:jSj}(f:List Off)(y:f.length<=40)(a:jSj){k:Ki}(u:b.data.toList=kw k)(v:kr k=[79]):um n g i j l m o p r s (f.map Zs) c b [Sd a] d e=some (QD (ZG (nmO f) a) 9):=by
 unfold um;rw[Qmm n u,jBj,v];have q:Kn n g i j l m o p r s (f.map Zs) c b [Sd a] d e (mkS [79],(kv k:Int),true) 0=some (.inl 1):=by unfold Kn;dsimp only;rw[jTj (show(0:Int)<((mkS [79]).size:Int) by decide),show UY (mkS [79]) 0=some 79 from rfl,jBj,jFj (by decide),jTj (by decide)];rfl
 have w:Kn n g i j l m o p r s (f.map Zs) c b [Sd a] d e (mkS [79],(kv k:Int),true) 1=some (.inr (.inr ())):=by unfold Kn;dsimp only;rw[jFj (show ¬(1:Int)<((mkS [79]).size:Int) by decide)]
 rw[Y5 (by omega) q,W7 (by omega) w,jBj];dsimp only;rw[jTj (show((mkS [79]).size:Int)>0 by decide),show UY (mkS [79]) 0=some 79 from rfl,jBj,jTj (by decide),gs0,show IntKind.wrap .u8 (IntKind.wrap .u8 (79+97) - 65)=111 from by decide,at_o f a (by omega) (by omega),jBj];unfold QD;by_cases h:ZG (nmO f) a=true
 ·rw[jTj (QpT.2 h),jTj h]
 ·rw[jFj (fun t=>h (QpT.1 t)),jFj h]
theorem QtP {n:Nat}(v:100<=n){f g:Int}{i j:Bool}{l m o:Int}{p:jVj}{r:jVj}{c:Int}{b:jSj}{d:jVj}{e:jSj}(ss:List jSj)(w:ss.length<=40)(a:jSj){k:Ki}(s:b.data.toList=kw k)(t:kr k=[115]):um n f g i j l m o (ss.map Sd) p r c b [Sd a] d e=some (QD (!ZG ss a) 10):=by
 unfold um;rw[Qmm n s,jBj,t];by_cases h:ZG ss a=true
 ·have q:Kn n f g i j l m o (ss.map Sd) p r c b [Sd a] d e (mkS [115],(kv k:Int),true) 0=some (.inl 1):=by unfold Kn;dsimp only;rw[jTj (show(0:Int)<((mkS [115]).size:Int) by decide),show UY (mkS [115]) 0=some 115 from rfl,jBj,jTj (by decide),gs0,at_s ss a (by omega) (by omega),jBj,jFj (Qqd h),jTj (by decide)];rfl
  have u:Kn n f g i j l m o (ss.map Sd) p r c b [Sd a] d e (mkS [115],(kv k:Int),true) 1=some (.inr (.inr ())):=by unfold Kn;dsimp only;rw[jFj (show ¬(1:Int)<((mkS [115]).size:Int) by decide)]
  rw[Y5 (by omega) q,W7 (by omega) u,jBj,h];dsimp only;rw[jTj (show((mkS [115]).size:Int)>0 by decide),show UY (mkS [115]) 0=some 115 from rfl,jBj,jFj (by decide)];rfl
 ·have q:Kn n f g i j l m o (ss.map Sd) p r c b [Sd a] d e (mkS [115],(kv k:Int),true) 0=some (.inr (.inl ())):=by unfold Kn;dsimp only;rw[jTj (show(0:Int)<((mkS [115]).size:Int) by decide),show UY (mkS [115]) 0=some 115 from rfl,jBj,jTj (by decide),gs0,at_s ss a (by omega) (by omega),jBj,jTj (QqP h)]
  rw[W7 (by omega) q,jBj];simp only[Bool.not_eq_true] at h;rw[h];rfl
theorem Qrw {n:Nat}(w:100<=n){f g:Int}{i j:Bool}{l m o:Int}{p:jVj}{r:jVj}{c:Int}{b:jSj}{d:jVj}{e:jSj}(ms:List Mir)(v:ms.length<=40)(a:jSj){k:Ki}(s:b.data.toList=kw k)(t:kr k=[109]):um n f g i j l m o p (ms.map Q1) r c b [Sd a] d e=some (QD (!ZG (nmM ms) a) 10):=by
 unfold um;rw[Qmm n s,jBj,t];by_cases h:ZG (nmM ms) a=true
 ·have q:Kn n f g i j l m o p (ms.map Q1) r c b [Sd a] d e (mkS [109],(kv k:Int),true) 0=some (.inl 1):=by unfold Kn;dsimp only;rw[jTj (show(0:Int)<((mkS [109]).size:Int) by decide),show UY (mkS [109]) 0=some 109 from rfl,jBj,jTj (by decide),gs0,at_m ms a (by omega) (by omega),jBj,jFj (Qqd h),jTj (by decide)];rfl
  have u:Kn n f g i j l m o p (ms.map Q1) r c b [Sd a] d e (mkS [109],(kv k:Int),true) 1=some (.inr (.inr ())):=by unfold Kn;dsimp only;rw[jFj (show ¬(1:Int)<((mkS [109]).size:Int) by decide)]
  rw[Y5 (by omega) q,W7 (by omega) u,jBj,h];dsimp only;rw[jTj (show((mkS [109]).size:Int)>0 by decide),show UY (mkS [109]) 0=some 109 from rfl,jBj,jFj (by decide)];rfl
 ·have q:Kn n f g i j l m o p (ms.map Q1) r c b [Sd a] d e (mkS [109],(kv k:Int),true) 0=some (.inr (.inl ())):=by unfold Kn;dsimp only;rw[jTj (show(0:Int)<((mkS [109]).size:Int) by decide),show UY (mkS [109]) 0=some 109 from rfl,jBj,jTj (by decide),gs0,at_m ms a (by omega) (by omega),jBj,jTj (QqP h)]
  rw[W7 (by omega) q,jBj];simp only[Bool.not_eq_true] at h;rw[h];rfl
theorem Qtt {n:Nat}(w:100<=n){g i:Int}{j l:Bool}{m o p:Int}{r:jVj}{s:jVj}{c:Int}{b:jSj}{d:jVj}{e:jSj}(f:List Off)(x:f.length<=40)(a:jSj){k:Ki}(t:b.data.toList=kw k)(u:kr k=[111]):um n g i j l m o p r s (f.map Zs) c b [Sd a] d e=some (QD (!ZG (nmO f) a) 10):=by
 unfold um;rw[Qmm n t,jBj,u];by_cases h:ZG (nmO f) a=true
 ·have q:Kn n g i j l m o p r s (f.map Zs) c b [Sd a] d e (mkS [111],(kv k:Int),true) 0=some (.inl 1):=by unfold Kn;dsimp only;rw[jTj (show(0:Int)<((mkS [111]).size:Int) by decide),show UY (mkS [111]) 0=some 111 from rfl,jBj,jTj (by decide),gs0,at_o f a (by omega) (by omega),jBj,jFj (Qqd h),jTj (by decide)];rfl
  have v:Kn n g i j l m o p r s (f.map Zs) c b [Sd a] d e (mkS [111],(kv k:Int),true) 1=some (.inr (.inr ())):=by unfold Kn;dsimp only;rw[jFj (show ¬(1:Int)<((mkS [111]).size:Int) by decide)]
  rw[Y5 (by omega) q,W7 (by omega) v,jBj,h];dsimp only;rw[jTj (show((mkS [111]).size:Int)>0 by decide),show UY (mkS [111]) 0=some 111 from rfl,jBj,jFj (by decide)];rfl
 ·have q:Kn n g i j l m o p r s (f.map Zs) c b [Sd a] d e (mkS [111],(kv k:Int),true) 0=some (.inr (.inl ())):=by unfold Kn;dsimp only;rw[jTj (show(0:Int)<((mkS [111]).size:Int) by decide),show UY (mkS [111]) 0=some 111 from rfl,jBj,jTj (by decide),gs0,at_o f a (by omega) (by omega),jBj,jTj (QqP h)]
  rw[W7 (by omega) q,jBj];simp only[Bool.not_eq_true] at h;rw[h];rfl
theorem QtC {n:Nat}(z:100<=n){i j:Int}{l m:Bool}{o p r:Int}{s:jVj}{d:Int}{c:jSj}{e:jVj}{f:jSj}(ss:List jSj)(A:ss.length<=40)(ms:List Mir)(y:ms.length<=40)(a b:jSj){k:Ki}(v:c.data.toList=kw k)(w:kr k=[77,115]):um n i j l m o p r (ss.map Sd) (ms.map Q1) s d c [Sd a,Sd b] e f=some (if ZG ss b=true then QD (ZG (nmM ms) a) 9 else 10):=by
 unfold um;rw[Qmm n v,jBj,w];have q:Kn n i j l m o p r (ss.map Sd) (ms.map Q1) s d c [Sd a,Sd b] e f (mkS [77,115],(kv k:Int),true) 0=some (.inl 1):=by unfold Kn;dsimp only;rw[jTj (show(0:Int)<((mkS [77,115]).size:Int) by decide),show UY (mkS [77,115]) 0=some 77 from rfl,jBj,jFj (by decide),jTj (by decide)];rfl
 rw[Y5 (by omega) q];by_cases h:ZG ss b=true
 ·have t:Kn n i j l m o p r (ss.map Sd) (ms.map Q1) s d c [Sd a,Sd b] e f (mkS [77,115],(kv k:Int),true) 1=some (.inl 2):=by unfold Kn;dsimp only;rw[jTj (show(1:Int)<((mkS [77,115]).size:Int) by decide),show UY (mkS [77,115]) 1=some 115 from rfl,jBj,jTj (by decide),gs1,at_s ss b (by omega) (by omega),jBj,jFj (Qqd h),jTj (by decide)];rfl
  have x:Kn n i j l m o p r (ss.map Sd) (ms.map Q1) s d c [Sd a,Sd b] e f (mkS [77,115],(kv k:Int),true) 2=some (.inr (.inr ())):=by unfold Kn;dsimp only;rw[jFj (show ¬(2:Int)<((mkS [77,115]).size:Int) by decide)]
  rw[Y5 (by omega) t,W7 (by omega) x,jBj,jTj h];dsimp only;rw[jTj (show((mkS [77,115]).size:Int)>0 by decide),show UY (mkS [77,115]) 0=some 77 from rfl,jBj,jTj (by decide),gs0,show IntKind.wrap .u8 (IntKind.wrap .u8 (77+97) - 65)=109 from by decide,at_m ms a (by omega) (by omega),jBj];unfold QD;by_cases g:ZG (nmM ms) a=true
  ·rw[jTj (QpT.2 g),jTj g]
  ·rw[jFj (fun u=>g (QpT.1 u)),jFj g]
 ·have t:Kn n i j l m o p r (ss.map Sd) (ms.map Q1) s d c [Sd a,Sd b] e f (mkS [77,115],(kv k:Int),true) 1=some (.inr (.inl ())):=by unfold Kn;dsimp only;rw[jTj (show(1:Int)<((mkS [77,115]).size:Int) by decide),show UY (mkS [77,115]) 1=some 115 from rfl,jBj,jTj (by decide),gs1,at_s ss b (by omega) (by omega),jBj,jTj (QqP h)]
  rw[W7 (by omega) t,jBj,jFj h]
def outE (r:Reg)(e:Int):Int×Int×Bool×Bool×Int×Int×Int×jVj×jVj×jVj×Int:=(r.tick,r.level,r.filled,r.tripped,r.light,r.heat,r.money,r.sectors.map Sd,r.mirrors.map Q1,r.offers.map Zs,e)
theorem QnG {x:Option (Int×Int×Bool×Bool×Int×Int×Int×jVj×jVj×jVj×Int)}{k:Ki}{r:Reg}{ns:List jSj}{vs:List Int}{t:Int}(e:Int)(d:e≠0)(a:spec k r ns vs=e)(h:x=some (outE (bkd r t) e)) :
  ∃b,x=some (outE b (spec k r ns vs))/\(spec k r ns vs=0->b=app k r ns vs):=⟨bkd r t,by rw[a];exact h,fun c=>absurd (a.symm.trans c) d⟩
theorem Qoy {x:Option (Int×Int×Bool×Bool×Int×Int×Int×jVj×jVj×jVj×Int)}{k:Ki}{r:Reg}{ns:List jSj}{vs:List Int}(b:spec k r ns vs=0)(h:x=some (outE (app k r ns vs) 0)) :
  ∃a,x=some (outE a (spec k r ns vs))/\(spec k r ns vs=0->a=app k r ns vs):=⟨_,by rw[b];exact h,fun _=>rfl⟩
theorem Qse {x lo hi:Int}(h:x>hi):inR x lo hi=3:=by
 unfold inR;by_cases a:x<lo
 ·rw[jTj a]
 ·rw[jFj a,jTj h]
theorem Qcm {x lo hi:Int}(a:lo<=x)(b:x<=hi):inR x lo hi=0:=WS.2 ⟨a,b⟩
theorem uS {a:Int}(l:List Int)(h:a=0):QK (a::l)=QK l:=by unfold QK;rw[jTj h];cases l<;>rfl
theorem QgQ {a:Int}(l:List Int)(h:a≠0):QK (a::l)=a:=by unfold QK;rw[jFj h]
theorem QgP {x:Int}:QK [x]=x:=by
 simp only[QK];split
 ·rename_i h;exact h.symm
 ·rfl
theorem Qp7 (e:Int):QD true e=e:=rfl
theorem Qpu (e:Int):QD false e=0:=rfl
theorem Qta {n c:Nat}(u:100<=n){r:Reg}(l:Inv c r)(hc:c<=30){num:Int}{kind T:jSj}{names:List jSj}{vals:List Int} :
  ∀{k:Ki},k≠.undo->Good (num,kind,names,vals,T) k->∃s,QmC n r.tick r.level r.filled r.tripped r.light r.heat r.money (r.sectors.map Sd) (r.mirrors.map Q1) (r.offers.map Zs) num kind (names.map Sd) (vals.map I) T=some (outE s (acc k r names vals))/\(acc k r names vals=0->s=app k r names vals)
 | .sector,_,hg=>by
  have j:=hg.kind;dsimp only at j;have m:=j;dsimp only[kw] at m;obtain⟨a,t,rfl,rfl,o⟩:=hg.d11 rfl rfl;simp only[jCj,jnj];unfold QmC acc;rw[gi0];by_cases d:t<r.tick
  ·exact⟨r,by rw[jTj d,jTj (g0 d)];rfl,fun h=>by rw[jTj (g0 d)] at h;cases h⟩
  rw[jFj d,jFj (g0n d)];have v:okT r t:=okt d o;rw[QmJ l (by omega) u v,jBj];show ∃s,_=some (outE s (QK [Gq r t,known .sector r [a],spec .sector r [a] [t]]))/\(QK [Gq r t,known .sector r [a],spec .sector r [a] [t]]=0->_)
  by_cases g:Gq r t=0
  ·rw[jTj g,uS _ g];dsimp only;rw[jTj rfl,QtQ u r.sectors (by have:=l.secs;omega) a j rfl,jBj];show ∃s,(if known .sector r [a]=0 then _ else _)=_/\_;by_cases f:known .sector r [a]=0
   ·rw[jTj f,uS _ f];rw[QgP,jTj (rzS l),jTj (rzM l (by omega)),jTj (rzO l (by omega))];(iterate 8 rw[jFj (kne m (by decide))])
    rw[jTj (keq m rfl)];have a8:=l.secs;have i:spec .sector r [a] [t]=QD ((r.sectors.length:Int)==8) 5:=rfl;by_cases h:((r.sectors.map Sd).length:Int)>=8
    ·have F:((r.sectors.length:Int)==8)=true:=by rw[jlj] at h;simp;omega
     exact QnG (t:=t) 5 (by decide) (by rw[i,F];rfl) (by rw[jTj h];rfl)
    ·have F:((r.sectors.length:Int)==8)=false:=by rw[jlj] at h;simp;omega
     exact Qoy (by rw[i,F];rfl) (by rw[jFj h,gs0,jTj (UO (by decide) (by rw[jlj];omega))];unfold outE app act bkd;simp only[List.map_append];rfl)
   ·rw[jFj f,QgQ _ f];exact⟨r,rfl,fun h=>absurd h f⟩
  ·rw[jFj g,QgQ _ g];rw[bk4 g];exact⟨r,rfl,fun h=>by cases h⟩
 | .mirror,_,hg=>by
  have j:=hg.kind;dsimp only at j;have m:=j;dsimp only[kw] at m;obtain⟨a,b,t,p,rfl,rfl,o⟩:=hg.d22 rfl rfl;simp only[jCj,jnj];unfold QmC acc;rw[gi0];by_cases d:t<r.tick
  ·exact⟨r,by rw[jTj d,jTj (g0 d)];rfl,fun h=>by rw[jTj (g0 d)] at h;cases h⟩
  rw[jFj d,jFj (g0n d)];have v:okT r t:=okt d o;rw[QmJ l (by omega) u v,jBj];show ∃s,_=some (outE s (QK [Gq r t,known .mirror r [a,b],spec .mirror r [a,b] [t,p]]))/\(QK [Gq r t,known .mirror r [a,b],spec .mirror r [a,b] [t,p]]=0->_)
  by_cases g:Gq r t=0
  ·rw[jTj g,uS _ g];dsimp only;rw[jTj rfl,QtC u r.sectors (by have:=l.secs;omega) r.mirrors (by have:=l.lenM;omega) a b j rfl,jBj];show ∃s,(if known .mirror r [a,b]=0 then _ else _)=_/\_;by_cases f:known .mirror r [a,b]=0
   ·rw[jTj f,uS _ f];rw[QgP,jTj (rzS l),jTj (rzM l (by omega)),jTj (rzO l (by omega))];(iterate 9 rw[jFj (kne m (by decide))])
    rw[jTj (keq m rfl)];have a6:=l.lenM;have i:spec .mirror r [a,b] [t,p]=QK [inR p 1 100,QD ((r.mirrors.length:Int)==32) 5]:=rfl;rw[gi1,Qle,jBj];by_cases h:inR p 1 100=0
    ·rw[uS _ h] at i;have U:((r.mirrors.length:Int)==32)=false:=by simp;omega
     refine Qoy (by rw[i,U];rfl) (by rw[jFj (by simp[h]),jFj (by rw[jlj];omega),gs0,gs1,jTj (UO (by decide) (by rw[jlj];omega))];unfold outE app act bkd;simp only[List.map_append];rfl)
    ·have h':=(QeR p 1 100).resolve_left h;exact QnG (t:=t) 3 (by decide) (by rw[i,h'];rfl) (by rw[jTj (by simp[h])];rfl)
   ·rw[jFj f,QgQ _ f];exact⟨r,rfl,fun h=>absurd h f⟩
  ·rw[jFj g,QgQ _ g];rw[bk4 g];exact⟨r,rfl,fun h=>by cases h⟩
 | .soil,_,hg=>by
  have j:=hg.kind;dsimp only at j;have m:=j;dsimp only[kw] at m;obtain⟨a,t,p,rfl,rfl,o⟩:=hg.d12 rfl rfl;simp only[jCj,jnj];unfold QmC acc;rw[gi0];by_cases d:t<r.tick
  ·exact⟨r,by rw[jTj d,jTj (g0 d)];rfl,fun h=>by rw[jTj (g0 d)] at h;cases h⟩
  rw[jFj d,jFj (g0n d)];have v:okT r t:=okt d o;rw[QmJ l (by omega) u v,jBj];show ∃s,_=some (outE s (QK [Gq r t,known .soil r [a],spec .soil r [a] [t,p]]))/\(QK [Gq r t,known .soil r [a],spec .soil r [a] [t,p]]=0->_)
  by_cases g:Gq r t=0
  ·rw[jTj g,uS _ g];dsimp only;rw[jTj rfl,Qrw u r.mirrors (by have:=l.lenM;omega) a j rfl,jBj];show ∃s,(if known .soil r [a]=0 then _ else _)=_/\_;by_cases f:known .soil r [a]=0
   ·rw[jTj f,uS _ f];rw[QgP,jTj (rzS l),jTj (rzM l (by omega)),jTj (rzO l (by omega))];(iterate 11 rw[jFj (kne m (by decide))])
    have A:ZG (nmM r.mirrors) a=true:=WN f;obtain⟨y,z,C⟩:=VM A;have w:=zm y z;have q:Int.toNat (zk (nmM r.mirrors) a)<(r.mirrors.map Q1).length:=by rw[y,jlj,jtj];exact z
    rw[gs0,at_m _ _ (by have:=l.lenM;omega) (by have:=l.lenM;omega),jBj,jTj w];rw[y] at q ⊢;rw[Zc unM C,jBj];rw[jTj (keq m rfl),gi1];by_cases h:p>1000
    ·exact QnG (t:=t) 3 (by decide) (Qse h) (by rw[jTj h];rfl)
    ·exact Qoy (Qcm (x:=p) (lo:=0) (hi:=1000) (hg.val p (by simp)).1 (by omega)) (by rw[jFj h];rw[jTj q,show some (outE (app .soil r [a] [t,p]) 0)=some ((rtE r t (r.sectors.map Sd) ((r.mirrors.set (iM r.mirrors a) (kO (mAt r.mirrors a) p)).map Q1) (r.offers.map Zs))) from rfl,<-Yl,jtj];rfl)
   ·rw[jFj f,QgQ _ f];exact⟨r,rfl,fun h=>absurd h f⟩
  ·rw[jFj g,QgQ _ g];rw[bk4 g];exact⟨r,rfl,fun h=>by cases h⟩
 | .clean,_,hg=>by
  have j:=hg.kind;dsimp only at j;have m:=j;dsimp only[kw] at m;obtain⟨a,t,rfl,rfl,o⟩:=hg.d11 rfl rfl;simp only[jCj,jnj];unfold QmC acc;rw[gi0];by_cases d:t<r.tick
  ·exact⟨r,by rw[jTj d,jTj (g0 d)];rfl,fun h=>by rw[jTj (g0 d)] at h;cases h⟩
  rw[jFj d,jFj (g0n d)];have v:okT r t:=okt d o;rw[QmJ l (by omega) u v,jBj];show ∃s,_=some (outE s (QK [Gq r t,known .clean r [a],spec .clean r [a] [t]]))/\(QK [Gq r t,known .clean r [a],spec .clean r [a] [t]]=0->_)
  by_cases g:Gq r t=0
  ·rw[jTj g,uS _ g];dsimp only;rw[jTj rfl,Qrw u r.mirrors (by have:=l.lenM;omega) a j rfl,jBj];show ∃s,(if known .clean r [a]=0 then _ else _)=_/\_;by_cases f:known .clean r [a]=0
   ·rw[jTj f,uS _ f];rw[QgP,jTj (rzS l),jTj (rzM l (by omega)),jTj (rzO l (by omega))];(iterate 11 rw[jFj (kne m (by decide))])
    have A:ZG (nmM r.mirrors) a=true:=WN f;obtain⟨y,z,C⟩:=VM A;have w:=zm y z;have q:Int.toNat (zk (nmM r.mirrors) a)<(r.mirrors.map Q1).length:=by rw[y,jlj,jtj];exact z
    rw[gs0,at_m _ _ (by have:=l.lenM;omega) (by have:=l.lenM;omega),jBj,jTj w];rw[y] at q ⊢;rw[Zc unM C,jBj];rw[jFj (kne m (by decide)),jTj (keq m rfl)];exact Qoy rfl (by rw[jTj q,show some (outE (app .clean r [a] [t]) 0)=some ((rtE r t (r.sectors.map Sd) ((r.mirrors.set (iM r.mirrors a) (kO (mAt r.mirrors a) 0)).map Q1) (r.offers.map Zs))) from rfl,<-Yl,jtj];rfl)
   ·rw[jFj f,QgQ _ f];exact⟨r,rfl,fun h=>absurd h f⟩
  ·rw[jFj g,QgQ _ g];rw[bk4 g];exact⟨r,rfl,fun h=>by cases h⟩
 | .defect,_,hg=>by
  have j:=hg.kind;dsimp only at j;have m:=j;dsimp only[kw] at m;obtain⟨a,t,rfl,rfl,o⟩:=hg.d11 rfl rfl;simp only[jCj,jnj];unfold QmC acc;rw[gi0];by_cases d:t<r.tick
  ·exact⟨r,by rw[jTj d,jTj (g0 d)];rfl,fun h=>by rw[jTj (g0 d)] at h;cases h⟩
  rw[jFj d,jFj (g0n d)];have v:okT r t:=okt d o;rw[QmJ l (by omega) u v,jBj];show ∃s,_=some (outE s (QK [Gq r t,known .defect r [a],spec .defect r [a] [t]]))/\(QK [Gq r t,known .defect r [a],spec .defect r [a] [t]]=0->_)
  by_cases g:Gq r t=0
  ·rw[jTj g,uS _ g];dsimp only;rw[jTj rfl,Qrw u r.mirrors (by have:=l.lenM;omega) a j rfl,jBj];show ∃s,(if known .defect r [a]=0 then _ else _)=_/\_;by_cases f:known .defect r [a]=0
   ·rw[jTj f,uS _ f];rw[QgP,jTj (rzS l),jTj (rzM l (by omega)),jTj (rzO l (by omega))];(iterate 11 rw[jFj (kne m (by decide))])
    have A:ZG (nmM r.mirrors) a=true:=WN f;obtain⟨y,z,C⟩:=VM A;have w:=zm y z;have q:Int.toNat (zk (nmM r.mirrors) a)<(r.mirrors.map Q1).length:=by rw[y,jlj,jtj];exact z
    rw[gs0,at_m _ _ (by have:=l.lenM;omega) (by have:=l.lenM;omega),jBj,jTj w];rw[y] at q ⊢;rw[Zc unM C,jBj];rw[jFj (kne m (by decide)),jFj (kne m (by decide)),jTj (keq m rfl)];have i:spec .defect r [a] [t]=QK [QD (mAt r.mirrors a).2.2.2.2.1 9,QD (mAt r.mirrors a).2.2.2.2.2 31]:=rfl;cases hd:(mAt r.mirrors a).2.2.2.2.1 with
    | true=>exact QnG (t:=t) 9 (by decide) (by rw[i,hd];rfl) (by rw[jTj rfl];rfl)
    | false =>
     rw[jFj (by decide)];cases O:(mAt r.mirrors a).2.2.2.2.2 with
     | true=>exact QnG (t:=t) 31 (by decide) (by rw[i,hd,O];rfl) (by rw[jTj rfl];rfl)
     | false =>
      have V:defM (mAt r.mirrors a) true=((mAt r.mirrors a).1,(mAt r.mirrors a).2.1,(mAt r.mirrors a).2.2.1,(mAt r.mirrors a).2.2.2.1,true,false):=by unfold defM;rw[O]
      exact Qoy (by rw[i,hd,O];rfl) (by rw[jFj (by decide)];rw[jTj q,show some (outE (app .defect r [a] [t]) 0)=some ((rtE r t (r.sectors.map Sd) ((r.mirrors.set (iM r.mirrors a) (defM (mAt r.mirrors a) true)).map Q1) (r.offers.map Zs))) from rfl,V,<-Yl,jtj];rfl)
   ·rw[jFj f,QgQ _ f];exact⟨r,rfl,fun h=>absurd h f⟩
  ·rw[jFj g,QgQ _ g];rw[bk4 g];exact⟨r,rfl,fun h=>by cases h⟩
 | .repair,_,hg=>by
  have j:=hg.kind;dsimp only at j;have m:=j;dsimp only[kw] at m;obtain⟨a,t,rfl,rfl,o⟩:=hg.d11 rfl rfl;simp only[jCj,jnj];unfold QmC acc;rw[gi0];by_cases d:t<r.tick
  ·exact⟨r,by rw[jTj d,jTj (g0 d)];rfl,fun h=>by rw[jTj (g0 d)] at h;cases h⟩
  rw[jFj d,jFj (g0n d)];have v:okT r t:=okt d o;rw[QmJ l (by omega) u v,jBj];show ∃s,_=some (outE s (QK [Gq r t,known .repair r [a],spec .repair r [a] [t]]))/\(QK [Gq r t,known .repair r [a],spec .repair r [a] [t]]=0->_)
  by_cases g:Gq r t=0
  ·rw[jTj g,uS _ g];dsimp only;rw[jTj rfl,Qrw u r.mirrors (by have:=l.lenM;omega) a j rfl,jBj];show ∃s,(if known .repair r [a]=0 then _ else _)=_/\_;by_cases f:known .repair r [a]=0
   ·rw[jTj f,uS _ f];rw[QgP,jTj (rzS l),jTj (rzM l (by omega)),jTj (rzO l (by omega))];(iterate 11 rw[jFj (kne m (by decide))])
    have A:ZG (nmM r.mirrors) a=true:=WN f;obtain⟨y,z,C⟩:=VM A;have w:=zm y z;have q:Int.toNat (zk (nmM r.mirrors) a)<(r.mirrors.map Q1).length:=by rw[y,jlj,jtj];exact z
    rw[gs0,at_m _ _ (by have:=l.lenM;omega) (by have:=l.lenM;omega),jBj,jTj w];rw[y] at q ⊢;rw[Zc unM C,jBj];(iterate 3 rw[jFj (kne m (by decide))])
    rw[jTj (keq m rfl)];have i:spec .repair r [a] [t]=QD (!(mAt r.mirrors a).2.2.2.2.1) 22:=rfl;cases hd:(mAt r.mirrors a).2.2.2.2.1 with
    | false=>exact QnG (t:=t) 22 (by decide) (by rw[i,hd];rfl) (by rw[jFj (by decide)];rfl)
    | true=>exact Qoy (by rw[i,hd];rfl) (by rw[jTj rfl];rw[jTj q,show some (outE (app .repair r [a] [t]) 0)=some ((rtE r t (r.sectors.map Sd) ((r.mirrors.set (iM r.mirrors a) (defM (mAt r.mirrors a) false)).map Q1) (r.offers.map Zs))) from rfl,<-Yl,jtj];rfl)
   ·rw[jFj f,QgQ _ f];exact⟨r,rfl,fun h=>absurd h f⟩
  ·rw[jFj g,QgQ _ g];rw[bk4 g];exact⟨r,rfl,fun h=>by cases h⟩
 | .aim,_,hg=>by
  have j:=hg.kind;dsimp only at j;have m:=j;dsimp only[kw] at m;obtain⟨a,t,rfl,rfl,o⟩:=hg.d11 rfl rfl;simp only[jCj,jnj];unfold QmC acc;rw[gi0];by_cases d:t<r.tick
  ·exact⟨r,by rw[jTj d,jTj (g0 d)];rfl,fun h=>by rw[jTj (g0 d)] at h;cases h⟩
  rw[jFj d,jFj (g0n d)];have v:okT r t:=okt d o;rw[QmJ l (by omega) u v,jBj];show ∃s,_=some (outE s (QK [Gq r t,known .aim r [a],spec .aim r [a] [t]]))/\(QK [Gq r t,known .aim r [a],spec .aim r [a] [t]]=0->_)
  by_cases g:Gq r t=0
  ·rw[jTj g,uS _ g];dsimp only;rw[jTj rfl,Qrw u r.mirrors (by have:=l.lenM;omega) a j rfl,jBj];show ∃s,(if known .aim r [a]=0 then _ else _)=_/\_;by_cases f:known .aim r [a]=0
   ·rw[jTj f,uS _ f];rw[QgP,jTj (rzS l),jTj (rzM l (by omega)),jTj (rzO l (by omega))];(iterate 11 rw[jFj (kne m (by decide))])
    have A:ZG (nmM r.mirrors) a=true:=WN f;obtain⟨y,z,C⟩:=VM A;have w:=zm y z;have q:Int.toNat (zk (nmM r.mirrors) a)<(r.mirrors.map Q1).length:=by rw[y,jlj,jtj];exact z
    rw[gs0,at_m _ _ (by have:=l.lenM;omega) (by have:=l.lenM;omega),jBj,jTj w];rw[y] at q ⊢;rw[Zc unM C,jBj];(iterate 4 rw[jFj (kne m (by decide))])
    rw[jTj (keq m rfl)];have i:spec .aim r [a] [t]=QK [QD (!r.filled) 30,QD r.tripped 29,QD (mAt r.mirrors a).2.2.2.2.1 21,QD (mAt r.mirrors a).2.2.2.2.2 9]:=rfl;cases hf:r.filled with
    | false=>exact QnG (t:=t) 30 (by decide) (by rw[i,hf];rfl) (by rw[jFj (by decide)];unfold outE bkd;rw[hf])
    | true =>
     rw[jTj rfl];cases htr:r.tripped with
     | true=>exact QnG (t:=t) 29 (by decide) (by rw[i,hf,htr];rfl) (by rw[jTj rfl];unfold outE bkd;rw[hf,htr])
     | false =>
      rw[jFj (by decide)];cases hd:(mAt r.mirrors a).2.2.2.2.1 with
      | true=>exact QnG (t:=t) 21 (by decide) (by rw[i,hf,htr,hd];rfl) (by rw[jTj rfl];unfold outE bkd;rw[hf,htr])
      | false =>
       rw[jFj (by decide)];cases O:(mAt r.mirrors a).2.2.2.2.2 with
       | true=>exact QnG (t:=t) 9 (by decide) (by rw[i,hf,htr,hd,O];rfl) (by rw[jTj rfl];unfold outE bkd;rw[hf,htr])
       | false =>
        have V:aimM (mAt r.mirrors a)=((mAt r.mirrors a).1,(mAt r.mirrors a).2.1,(mAt r.mirrors a).2.2.1,(mAt r.mirrors a).2.2.2.1,false,true):=by unfold aimM;rw[hd]
        exact Qoy (by rw[i,hf,htr,hd,O];rfl) (by rw[jFj (by decide)];rw[jTj q,show some (outE (app .aim r [a] [t]) 0)=some ((rtE r t (r.sectors.map Sd) ((r.mirrors.set (iM r.mirrors a) (aimM (mAt r.mirrors a))).map Q1) (r.offers.map Zs))) from rfl,rtE,V,<-Yl,jtj,hf,htr];rfl)
   ·rw[jFj f,QgQ _ f];exact⟨r,rfl,fun h=>absurd h f⟩
  ·rw[jFj g,QgQ _ g];rw[bk4 g];exact⟨r,rfl,fun h=>by cases h⟩
 | .park,_,hg=>by
  have j:=hg.kind;dsimp only at j;have m:=j;dsimp only[kw] at m;obtain⟨a,t,rfl,rfl,o⟩:=hg.d11 rfl rfl;simp only[jCj,jnj];unfold QmC acc;rw[gi0];by_cases d:t<r.tick
  ·exact⟨r,by rw[jTj d,jTj (g0 d)];rfl,fun h=>by rw[jTj (g0 d)] at h;cases h⟩
  rw[jFj d,jFj (g0n d)];have v:okT r t:=okt d o;rw[QmJ l (by omega) u v,jBj];show ∃s,_=some (outE s (QK [Gq r t,known .park r [a],spec .park r [a] [t]]))/\(QK [Gq r t,known .park r [a],spec .park r [a] [t]]=0->_)
  by_cases g:Gq r t=0
  ·rw[jTj g,uS _ g];dsimp only;rw[jTj rfl,Qrw u r.mirrors (by have:=l.lenM;omega) a j rfl,jBj];show ∃s,(if known .park r [a]=0 then _ else _)=_/\_;by_cases f:known .park r [a]=0
   ·rw[jTj f,uS _ f];rw[QgP,jTj (rzS l),jTj (rzM l (by omega)),jTj (rzO l (by omega))];(iterate 11 rw[jFj (kne m (by decide))])
    have A:ZG (nmM r.mirrors) a=true:=WN f;obtain⟨y,z,C⟩:=VM A;have w:=zm y z;have q:Int.toNat (zk (nmM r.mirrors) a)<(r.mirrors.map Q1).length:=by rw[y,jlj,jtj];exact z
    rw[gs0,at_m _ _ (by have:=l.lenM;omega) (by have:=l.lenM;omega),jBj,jTj w];rw[y] at q ⊢;rw[Zc unM C,jBj];(iterate 5 rw[jFj (kne m (by decide))])
    have i:spec .park r [a] [t]=QD (!(mAt r.mirrors a).2.2.2.2.2) 22:=rfl;cases O:(mAt r.mirrors a).2.2.2.2.2 with
    | false=>exact QnG (t:=t) 22 (by decide) (by rw[i,O];rfl) (by rw[jFj (by decide)];rfl)
    | true=>exact Qoy (by rw[i,O];rfl) (by rw[jTj rfl];rw[jTj q,show some (outE (app .park r [a] [t]) 0)=some ((rtE r t (r.sectors.map Sd) ((r.mirrors.set (iM r.mirrors a) (Xi (mAt r.mirrors a))).map Q1) (r.offers.map Zs))) from rfl,<-Yl,jtj];rfl)
   ·rw[jFj f,QgQ _ f];exact⟨r,rfl,fun h=>absurd h f⟩
  ·rw[jFj g,QgQ _ g];rw[bk4 g];exact⟨r,rfl,fun h=>by cases h⟩
 | .dim,_,hg=>by
  have j:=hg.kind;dsimp only at j;have m:=j;dsimp only[kw] at m;obtain⟨a,t,rfl,rfl,o⟩:=hg.d11 rfl rfl;simp only[jCj,jnj];unfold QmC acc;rw[gi0];by_cases d:t<r.tick
  ·exact⟨r,by rw[jTj d,jTj (g0 d)];rfl,fun h=>by rw[jTj (g0 d)] at h;cases h⟩
  rw[jFj d,jFj (g0n d)];have v:okT r t:=okt d o;rw[QmJ l (by omega) u v,jBj];show ∃s,_=some (outE s (QK [Gq r t,known .dim r [a],spec .dim r [a] [t]]))/\(QK [Gq r t,known .dim r [a],spec .dim r [a] [t]]=0->_)
  by_cases g:Gq r t=0
  ·rw[jTj g,uS _ g];dsimp only;rw[jTj rfl,QtP u r.sectors (by have:=l.secs;omega) a j rfl,jBj];show ∃s,(if known .dim r [a]=0 then _ else _)=_/\_;by_cases f:known .dim r [a]=0
   ·rw[jTj f,uS _ f];rw[QgP,jTj (rzS l),jTj (rzM l (by omega)),jTj (rzO l (by omega))];(iterate 10 rw[jFj (kne m (by decide))])
    rw[jTj (keq m rfl)];exact Qoy rfl (by rw[gs0,QsU _ (by have:=l.lenM;omega) (by have:=l.lenM;omega),jBj];rfl)
   ·rw[jFj f,QgQ _ f];exact⟨r,rfl,fun h=>absurd h f⟩
  ·rw[jFj g,QgQ _ g];rw[bk4 g];exact⟨r,rfl,fun h=>by cases h⟩
 | .sun,_,hg=>by
  have j:=hg.kind;dsimp only at j;have m:=j;dsimp only[kw] at m;obtain⟨t,p,rfl,rfl,o⟩:=hg.d02 rfl rfl;simp only[jCj,jnj];unfold QmC acc;rw[gi0];by_cases d:t<r.tick
  ·exact⟨r,by rw[jTj d,jTj (g0 d)];rfl,fun h=>by rw[jTj (g0 d)] at h;cases h⟩
  rw[jFj d,jFj (g0n d)];have v:okT r t:=okt d o;rw[QmJ l (by omega) u v,jBj];show ∃s,_=some (outE s (QK [Gq r t,known .sun r [],spec .sun r [] [t,p]]))/\(QK [Gq r t,known .sun r [],spec .sun r [] [t,p]]=0->_)
  by_cases g:Gq r t=0
  ·rw[jTj g,uS _ g];dsimp only;rw[jTj rfl,Qqh u j rfl,jBj];show ∃s,(if known .sun r []=0 then _ else _)=_/\_;by_cases f:known .sun r []=0
   ·rw[jTj f,uS _ f];rw[QgP,jTj (rzS l),jTj (rzM l (by omega)),jTj (rzO l (by omega))];rw[jTj (keq m rfl)];rw[gi1];by_cases h:p>1000
    ·exact QnG (t:=t) 3 (by decide) (Qse h) (by rw[jTj h];rfl)
    ·exact Qoy (Qcm (x:=p) (lo:=0) (hi:=1000) (hg.val p (by simp)).1 (by omega)) (by rw[jFj h];rfl)
   ·rw[jFj f,QgQ _ f];exact⟨r,rfl,fun h=>absurd h f⟩
  ·rw[jFj g,QgQ _ g];rw[bk4 g];exact⟨r,rfl,fun h=>by cases h⟩
 | .fill,_,hg=>by
  have j:=hg.kind;dsimp only at j;have m:=j;dsimp only[kw] at m;obtain⟨t,rfl,rfl,o⟩:=hg.d01 rfl rfl;simp only[jCj,jnj];unfold QmC acc;rw[gi0];by_cases d:t<r.tick
  ·exact⟨r,by rw[jTj d,jTj (g0 d)];rfl,fun h=>by rw[jTj (g0 d)] at h;cases h⟩
  rw[jFj d,jFj (g0n d)];have v:okT r t:=okt d o;rw[QmJ l (by omega) u v,jBj];show ∃s,_=some (outE s (QK [Gq r t,known .fill r [],spec .fill r [] [t]]))/\(QK [Gq r t,known .fill r [],spec .fill r [] [t]]=0->_)
  by_cases g:Gq r t=0
  ·rw[jTj g,uS _ g];dsimp only;rw[jTj rfl,Qqh u j rfl,jBj];show ∃s,(if known .fill r []=0 then _ else _)=_/\_;by_cases f:known .fill r []=0
   ·rw[jTj f,uS _ f];rw[QgP,jTj (rzS l),jTj (rzM l (by omega)),jTj (rzO l (by omega))];(iterate 1 rw[jFj (kne m (by decide))])
    rw[jTj (keq m rfl)];cases hf:r.filled with
    | true=>exact QnG (t:=t) 9 (by decide) (by unfold spec;rw[hf];rfl) (by rw[jTj rfl];unfold outE bkd;rw[hf])
    | false=>exact Qoy (by unfold spec;rw[hf];rfl) (by rw[jFj (by decide)];rfl)
   ·rw[jFj f,QgQ _ f];exact⟨r,rfl,fun h=>absurd h f⟩
  ·rw[jFj g,QgQ _ g];rw[bk4 g];exact⟨r,rfl,fun h=>by cases h⟩
 | .drain,_,hg=>by
  have j:=hg.kind;dsimp only at j;have m:=j;dsimp only[kw] at m;obtain⟨t,rfl,rfl,o⟩:=hg.d01 rfl rfl;simp only[jCj,jnj];unfold QmC acc;rw[gi0];by_cases d:t<r.tick
  ·exact⟨r,by rw[jTj d,jTj (g0 d)];rfl,fun h=>by rw[jTj (g0 d)] at h;cases h⟩
  rw[jFj d,jFj (g0n d)];have v:okT r t:=okt d o;rw[QmJ l (by omega) u v,jBj];show ∃s,_=some (outE s (QK [Gq r t,known .drain r [],spec .drain r [] [t]]))/\(QK [Gq r t,known .drain r [],spec .drain r [] [t]]=0->_)
  by_cases g:Gq r t=0
  ·rw[jTj g,uS _ g];dsimp only;rw[jTj rfl,Qqh u j rfl,jBj];show ∃s,(if known .drain r []=0 then _ else _)=_/\_;by_cases f:known .drain r []=0
   ·rw[jTj f,uS _ f];rw[QgP,jTj (rzS l),jTj (rzM l (by omega)),jTj (rzO l (by omega))];(iterate 2 rw[jFj (kne m (by decide))])
    rw[jTj (keq m rfl)];cases hf:r.filled with
    | true =>
     rw[jTj rfl,QrS _ (by have:=l.lenM;omega) (by have:=l.lenM;omega),jBj];have S:((((kD r.mirrors).map Sd).length:Int)>0)↔r.mirrors.any isA=true:=by
      unfold kD;rw[jlj,jlj,List.any_eq_true];constructor
      ·intro h;have:(r.mirrors.filter isA).length≠0:=by omega
       obtain⟨x,hx⟩:=List.exists_mem_of_length_pos (Nat.pos_of_ne_zero this);exact⟨x,(List.mem_filter.1 hx).1,(List.mem_filter.1 hx).2⟩
      ·rintro⟨x,E,J⟩;have:=List.length_pos_of_mem (List.mem_filter.2 ⟨E,J⟩);omega
     by_cases h:r.mirrors.any isA=true
     ·exact QnG (t:=t) 31 (by decide) (by unfold spec;rw[hf,h];rfl) (by rw[jTj (S.2 h)];unfold outE bkd;rw[hf])
     ·refine Qoy (by unfold spec;simp only[Bool.not_eq_true] at h;rw[hf,h];rfl) (by rw[jFj (fun A=>h (S.1 A))];rfl)
    | false=>exact QnG (t:=t) 22 (by decide) (by unfold spec;rw[hf];rfl) (by rw[jFj (by decide)];unfold outE bkd;rw[hf])
   ·rw[jFj f,QgQ _ f];exact⟨r,rfl,fun h=>absurd h f⟩
  ·rw[jFj g,QgQ _ g];rw[bk4 g];exact⟨r,rfl,fun h=>by cases h⟩
 | .trip,_,hg=>by
  have j:=hg.kind;dsimp only at j;have m:=j;dsimp only[kw] at m;obtain⟨t,rfl,rfl,o⟩:=hg.d01 rfl rfl;simp only[jCj,jnj];unfold QmC acc;rw[gi0];by_cases d:t<r.tick
  ·exact⟨r,by rw[jTj d,jTj (g0 d)];rfl,fun h=>by rw[jTj (g0 d)] at h;cases h⟩
  rw[jFj d,jFj (g0n d)];have v:okT r t:=okt d o;rw[QmJ l (by omega) u v,jBj];show ∃s,_=some (outE s (QK [Gq r t,known .trip r [],spec .trip r [] [t]]))/\(QK [Gq r t,known .trip r [],spec .trip r [] [t]]=0->_)
  by_cases g:Gq r t=0
  ·rw[jTj g,uS _ g];dsimp only;rw[jTj rfl,Qqh u j rfl,jBj];show ∃s,(if known .trip r []=0 then _ else _)=_/\_;by_cases f:known .trip r []=0
   ·rw[jTj f,uS _ f];rw[QgP,jTj (rzS l),jTj (rzM l (by omega)),jTj (rzO l (by omega))];(iterate 3 rw[jFj (kne m (by decide))])
    rw[jTj (keq m rfl)];cases hf:r.tripped with
    | true=>exact QnG (t:=t) 9 (by decide) (by unfold spec;rw[hf];rfl) (by rw[jTj rfl];unfold outE bkd;rw[hf])
    | false=>exact Qoy (by unfold spec;rw[hf];rfl) (by rw[jFj (by decide),QsT _ (by have:=l.lenM;omega) (by have:=l.lenM;omega),jBj];rfl)
   ·rw[jFj f,QgQ _ f];exact⟨r,rfl,fun h=>absurd h f⟩
  ·rw[jFj g,QgQ _ g];rw[bk4 g];exact⟨r,rfl,fun h=>by cases h⟩
 | .reset,_,hg=>by
  have j:=hg.kind;dsimp only at j;have m:=j;dsimp only[kw] at m;obtain⟨t,rfl,rfl,o⟩:=hg.d01 rfl rfl;simp only[jCj,jnj];unfold QmC acc;rw[gi0];by_cases d:t<r.tick
  ·exact⟨r,by rw[jTj d,jTj (g0 d)];rfl,fun h=>by rw[jTj (g0 d)] at h;cases h⟩
  rw[jFj d,jFj (g0n d)];have v:okT r t:=okt d o;rw[QmJ l (by omega) u v,jBj];show ∃s,_=some (outE s (QK [Gq r t,known .reset r [],spec .reset r [] [t]]))/\(QK [Gq r t,known .reset r [],spec .reset r [] [t]]=0->_)
  by_cases g:Gq r t=0
  ·rw[jTj g,uS _ g];dsimp only;rw[jTj rfl,Qqh u j rfl,jBj];show ∃s,(if known .reset r []=0 then _ else _)=_/\_;by_cases f:known .reset r []=0
   ·rw[jTj f,uS _ f];rw[QgP,jTj (rzS l),jTj (rzM l (by omega)),jTj (rzO l (by omega))];(iterate 4 rw[jFj (kne m (by decide))])
    rw[jTj (keq m rfl)];cases hf:r.tripped with
    | true=>exact Qoy (by unfold spec;rw[hf];rfl) (by rw[jTj rfl];rfl)
    | false=>exact QnG (t:=t) 22 (by decide) (by unfold spec;rw[hf];rfl) (by rw[jFj (by decide)];unfold outE bkd;rw[hf])
   ·rw[jFj f,QgQ _ f];exact⟨r,rfl,fun h=>absurd h f⟩
  ·rw[jFj g,QgQ _ g];rw[bk4 g];exact⟨r,rfl,fun h=>by cases h⟩
 | .offer,_,hg=>by
  have j:=hg.kind;dsimp only at j;have m:=j;dsimp only[kw] at m;obtain⟨a,t,p,N,G,H,rfl,rfl,o⟩:=hg.d15 rfl rfl;simp only[jCj,jnj];unfold QmC acc;rw[gi0];by_cases d:t<r.tick
  ·exact⟨r,by rw[jTj d,jTj (g0 d)];rfl,fun h=>by rw[jTj (g0 d)] at h;cases h⟩
  rw[jFj d,jFj (g0n d)];have v:okT r t:=okt d o;rw[QmJ l (by omega) u v,jBj];show ∃s,_=some (outE s (QK [Gq r t,known .offer r [a],spec .offer r [a] [t,p,N,G,H]]))/\(QK [Gq r t,known .offer r [a],spec .offer r [a] [t,p,N,G,H]]=0->_)
  by_cases g:Gq r t=0
  ·rw[jTj g,uS _ g];dsimp only;rw[jTj rfl,QtR u r.offers (by have:=l.lenO;omega) a j rfl,jBj];show ∃s,(if known .offer r [a]=0 then _ else _)=_/\_;by_cases f:known .offer r [a]=0
   ·rw[jTj f,uS _ f];rw[QgP,jTj (rzS l),jTj (rzM l (by omega)),jTj (rzO l (by omega))];(iterate 5 rw[jFj (kne m (by decide))])
    rw[jTj (keq m rfl)];rw[gi1];have i:spec .offer r [a] [t,p,N,G,H]=QK [Qhs [t,p,N,G,H],inR G 1 1000,inR H 0 1000,QD ((r.offers.length:Int)==32) 5]:=rfl;by_cases E:p<t
    ·exact QnG (t:=t) 14 (by decide) (by rw[i];unfold Qhs;rw[jTj (show[t,p,N,G,H].getD 1 0<[t,p,N,G,H].getD 0 0 from E)];rfl) (by rw[jTj E];rfl)
    rw[jFj E,gi2];have M:Qhs [t,p,N,G,H]=QD (decide (p>=N)) 14:=by unfold Qhs;rw[jFj (show ¬[t,p,N,G,H].getD 1 0<[t,p,N,G,H].getD 0 0 from E)];rfl
    by_cases J:p>=N
    ·exact QnG (t:=t) 14 (by decide) (by rw[i,M,jDj J];rfl) (by rw[jTj J];rfl)
    rw[jFj J,gi3,Qle,jBj];rw[M,jEj J,Qpu,uS _ rfl] at i;by_cases P:inR G 1 1000=0
    ·rw[jFj (by simp[P]),gi4];rw[uS _ P] at i;have a2:=hg.val H (by simp);by_cases Q:H>1000
     ·exact QnG (t:=t) 3 (by decide) (by rw[i,Qse Q];rfl) (by rw[jTj Q];rfl)
     ·rw[uS _ (Qcm a2.1 (by omega))] at i;have a7:=l.lenO;have a1:¬(((r.offers.map Zs).length:Int)>=32):=by rw[jlj];omega
      have U:((r.offers.length:Int)==32)=false:=by simp;omega
      refine Qoy (by rw[i,U];rfl) (by rw[jFj Q,jFj a1,gs0,jTj (UO (by decide) (by rw[jlj];omega))];unfold outE app act bkd;simp only[List.map_append];rfl)
    ·have K:=(QeR G 1 1000).resolve_left P;exact QnG (t:=t) 3 (by decide) (by rw[i,K];rfl) (by rw[jTj (by simp[P])];rfl)
   ·rw[jFj f,QgQ _ f];exact⟨r,rfl,fun h=>absurd h f⟩
  ·rw[jFj g,QgQ _ g];rw[bk4 g];exact⟨r,rfl,fun h=>by cases h⟩
 | .deliver,_,hg=>by
  have j:=hg.kind;dsimp only at j;have m:=j;dsimp only[kw] at m;obtain⟨a,t,p,rfl,rfl,o⟩:=hg.d12 rfl rfl;simp only[jCj,jnj];unfold QmC acc;rw[gi0];by_cases d:t<r.tick
  ·exact⟨r,by rw[jTj d,jTj (g0 d)];rfl,fun h=>by rw[jTj (g0 d)] at h;cases h⟩
  rw[jFj d,jFj (g0n d)];have v:okT r t:=okt d o;rw[QmJ l (by omega) u v,jBj];show ∃s,_=some (outE s (QK [Gq r t,known .deliver r [a],spec .deliver r [a] [t,p]]))/\(QK [Gq r t,known .deliver r [a],spec .deliver r [a] [t,p]]=0->_)
  by_cases g:Gq r t=0
  ·rw[jTj g,uS _ g];dsimp only;rw[jTj rfl,Qtt u r.offers (by have:=l.lenO;omega) a j rfl,jBj];show ∃s,(if known .deliver r [a]=0 then _ else _)=_/\_;by_cases f:known .deliver r [a]=0
   ·rw[jTj f,uS _ f];rw[QgP,jTj (rzS l),jTj (rzM l (by omega)),jTj (rzO l (by omega))];(iterate 6 rw[jFj (kne m (by decide))])
    rw[jTj (keq m rfl)];have A:ZG (nmO r.offers) a=true:=WN f;obtain⟨y,z,C⟩:=J6 A;have L:=l.offs _ (jgj C);have w:=hltO y z;rw[gs0,at_o _ _ (by have:=l.lenO;omega) (by have:=l.lenO;omega),jBj,jTj w,y,Zc unO C,jBj];have X:=L;obtain⟨b2,b3,b4⟩:=X;have a9:=hg.val p (by simp);have a4:=qe l (by omega) v;have a5:=l.heat;have i:spec .deliver r [a] [t,p]=if QK [QD (oAt r.offers a).2.2.2.2.2.2 23,(if t<(oAt r.offers a).2.1 then 14 else QD (decide (t>=(oAt r.offers a).2.2.1)) 14),QD (p==0) 3,QD (decide (p>WC (oAt r.offers a))) 20]=0
     then QD (decide (p*1000000>r.heat+WP r t)) 16
     else QK [QD (oAt r.offers a).2.2.2.2.2.2 23,(if t<(oAt r.offers a).2.1 then 14 else QD (decide (t>=(oAt r.offers a).2.2.1)) 14),QD (p==0) 3,QD (decide (p>WC (oAt r.offers a))) 20]:=rfl
    cases F:(oAt r.offers a).2.2.2.2.2.2 with
    | true =>
     rw[F,Qp7,QgQ _ (by decide),jFj (by decide)] at i;exact QnG (t:=t) 23 (by decide) i (by rw[jTj rfl];rfl)
    | false =>
     rw[F,Qpu,uS _ rfl] at i;rw[jFj (by decide),jFj (kne m (by decide))];by_cases E:t<(oAt r.offers a).2.1
     ·rw[jTj E,QgQ _ (by decide),jFj (by decide)] at i;exact QnG (t:=t) 14 (by decide) i (by rw[jTj E];rfl)
     rw[jFj E] at i;rw[jFj E];by_cases J:t>=(oAt r.offers a).2.2.1
     ·rw[jDj J,Qp7,QgQ _ (by decide),jFj (by decide)] at i;exact QnG (t:=t) 14 (by decide) i (by rw[jTj J];rfl)
     rw[jEj J,Qpu,uS _ rfl] at i;rw[jFj J,gi1];by_cases P:p=0
     ·have K : (p==0)=true:=by simp[P]
      rw[K,Qp7,QgQ _ (by decide),jFj (by decide)] at i;exact QnG (t:=t) 3 (by decide) i (by rw[jTj P];rfl)
     have K : (p==0)=false:=by simp[P]
     rw[K,Qpu,uS _ rfl] at i;have Y:=QqJ n L;rw[F] at Y;rw[jFj P,Y,jBj];by_cases Q:p>WC (oAt r.offers a)
     ·rw[jDj Q,Qp7,QgQ _ (by decide),jFj (by decide)] at i;exact QnG (t:=t) 20 (by decide) i (by rw[jTj Q];rfl)
     rw[jEj Q,Qpu,uS _ rfl,jTj (show QK []=0 from rfl)] at i;rw[jFj Q,jTj (by unfold Qg;omega)];by_cases Z:p*1000000>r.heat+WP r t
     ·rw[jDj Z,Qp7] at i;exact QnG (t:=t) 16 (by decide) i (by rw[jTj Z];rfl)
     rw[jEj Z,Qpu] at i;unfold WC at Q;have a0:r.heat+WP r t - p*1000000=r.heat+WP r t - 1000000*p:=by omega
     refine Qoy i ?_;rw[jFj Z,jTj (by unfold Qg;omega),jTj (by unfold Qg;omega),a0];have e:(r.offers.set (iO r.offers a) (delO (oAt r.offers a) p)).map Zs=List.set (r.offers.map Zs) (iO r.offers a) (Zs (delO (oAt r.offers a) p)):=set_encO.symm;have e2:outE (app .deliver r [a] [t,p]) 0=(t,r.level,r.filled,r.tripped,r.light+WP r t,r.heat+WP r t - 1000000*p,r.money,r.sectors.map Sd,r.mirrors.map Q1,(r.offers.set (iO r.offers a) (delO (oAt r.offers a) p)).map Zs,0):=rfl;have V:delO (oAt r.offers a) p=((oAt r.offers a).1,(oAt r.offers a).2.1,(oAt r.offers a).2.2.1,(oAt r.offers a).2.2.2.1,(oAt r.offers a).2.2.2.2.1,(oAt r.offers a).2.2.2.2.2.1+p,false):=by unfold delO;rw[F]
     rw[e2,e,V,jtj];rfl
   ·rw[jFj f,QgQ _ f];exact⟨r,rfl,fun h=>absurd h f⟩
  ·rw[jFj g,QgQ _ g];rw[bk4 g];exact⟨r,rfl,fun h=>by cases h⟩
 | .bill,_,hg=>by
  have j:=hg.kind;dsimp only at j;have m:=j;dsimp only[kw] at m;obtain⟨a,t,rfl,rfl,o⟩:=hg.d11 rfl rfl;simp only[jCj,jnj];unfold QmC acc;rw[gi0];by_cases d:t<r.tick
  ·exact⟨r,by rw[jTj d,jTj (g0 d)];rfl,fun h=>by rw[jTj (g0 d)] at h;cases h⟩
  rw[jFj d,jFj (g0n d)];have v:okT r t:=okt d o;rw[QmJ l (by omega) u v,jBj];show ∃s,_=some (outE s (QK [Gq r t,known .bill r [a],spec .bill r [a] [t]]))/\(QK [Gq r t,known .bill r [a],spec .bill r [a] [t]]=0->_)
  by_cases g:Gq r t=0
  ·rw[jTj g,uS _ g];dsimp only;rw[jTj rfl,Qtt u r.offers (by have:=l.lenO;omega) a j rfl,jBj];show ∃s,(if known .bill r [a]=0 then _ else _)=_/\_;by_cases f:known .bill r [a]=0
   ·rw[jTj f,uS _ f];rw[QgP,jTj (rzS l),jTj (rzM l (by omega)),jTj (rzO l (by omega))];(iterate 7 rw[jFj (kne m (by decide))])
    rw[jTj (keq m rfl)];have A:ZG (nmO r.offers) a=true:=WN f;obtain⟨y,z,C⟩:=J6 A;have L:=l.offs _ (jgj C);have w:=hltO y z;rw[gs0,at_o _ _ (by have:=l.lenO;omega) (by have:=l.lenO;omega),jBj,jTj w,y,Zc unO C,jBj];have a3:=(Kg L).2.2.2;have O:=l.money;have i:spec .bill r [a] [t]=QK [QD (oAt r.offers a).2.2.2.2.2.2 23,QD (decide (t<(oAt r.offers a).2.2.1)) 32]:=rfl;cases F:(oAt r.offers a).2.2.2.2.2.2 with
    | true =>
     rw[F,Qp7,QgQ _ (by decide)] at i;exact QnG (t:=t) 23 (by decide) i (by rw[jTj rfl];rfl)
    | false =>
     rw[F,Qpu,uS _ rfl] at i;rw[jFj (by decide)];by_cases E:t<(oAt r.offers a).2.2.1
     ·rw[jDj E,Qp7,QgQ _ (by decide)] at i;exact QnG (t:=t) 32 (by decide) i (by rw[jTj E];rfl)
     rw[jEj E,Qpu,uS _ rfl] at i;have W:=Qsa n L;rw[F] at W;refine Qoy i ?_;rw[jFj E,W,jBj,jTj (by unfold Qg;omega)];have e:(r.offers.set (iO r.offers a) (zp (oAt r.offers a))).map Zs=List.set (r.offers.map Zs) (iO r.offers a) (Zs (zp (oAt r.offers a))):=set_encO.symm;have e2:outE (app .bill r [a] [t]) 0=(t,r.level,r.filled,r.tripped,r.light+WP r t,r.heat+WP r t,r.money+Gr (oAt r.offers a),r.sectors.map Sd,r.mirrors.map Q1,(r.offers.set (iO r.offers a) (zp (oAt r.offers a))).map Zs,0):=rfl;rw[e2,e,jtj];rfl
   ·rw[jFj f,QgQ _ f];exact⟨r,rfl,fun h=>absurd h f⟩
  ·rw[jFj g,QgQ _ g];rw[bk4 g];exact⟨r,rfl,fun h=>by cases h⟩
 | .undo,h,_=>absurd rfl h
theorem Vt {c d:Nat}(h:c<=d){r:Reg}(a:Inv c r):Inv d r :=
 ⟨a.tick,a.level,a.light,a.heat,by have:=a.money;omega,a.secs,by have:=a.lenM;omega,by have:=a.lenO;omega,a.mirs,a.offs⟩
theorem Ya {c:Nat}{r:Reg}(a:Inv c r)(hc:c<=40){t:Int}(f:okT r t)(d:Gq r t=0):Inv c (bkd r t):=by
 have l:=(qe a hc f).2;have i:=a.light;have j:=a.heat;have k:=a.tick;have b : r.light+WP r t<=1000000000000000/\r.heat+WP r t<=1000000000000000:=by
  unfold Gq at d;split at d
  ·rename_i h;exact h
  ·cases d
 obtain⟨g,e⟩:=f;exact⟨⟨show 0<=t by omega,e⟩,a.level,⟨show 0<=r.light+WP r t by omega,b.1⟩,⟨show 0<=r.heat+WP r t by omega,b.2⟩,a.money,a.secs,a.lenM,a.lenO,a.mirs,a.offs⟩
theorem Xs {c:Nat}{q:Reg}(b:Inv c q)(a:jSj){m:Mir}(d:okM m):Inv c (chgM q a m) :=
 ⟨b.tick,b.level,b.light,b.heat,b.money,b.secs,by show(q.mirrors.set _ _).length<=c;rw[List.length_set];exact b.lenM,b.lenO,fun x e=>by
  obtain h|h:=List.mem_or_eq_of_mem_set e
  ·exact b.mirs x h
  ·rw[h];exact d,b.offs⟩
theorem QdN {c:Nat}{q:Reg}(b:Inv c q)(a:jSj){o:Off}(d:okO o):Inv c (chgO q a o) :=
 ⟨b.tick,b.level,b.light,b.heat,b.money,b.secs,b.lenM,by show(q.offers.set _ _).length<=c;rw[List.length_set];exact b.lenO,b.mirs,fun x e=>by
  obtain h|h:=List.mem_or_eq_of_mem_set e
  ·exact b.offs x h
  ·rw[h];exact d⟩
theorem QdO {c:Nat}{q:Reg}(a:Inv c q)(f:Mir->Mir)(b:∀m,okM m->okM (f m)):Inv c { q with mirrors:=q.mirrors.map f } :=
 ⟨a.tick,a.level,a.light,a.heat,a.money,a.secs,by show(q.mirrors.map f).length<=c;rw[jlj];exact a.lenM,a.lenO,fun x d=>by obtain⟨y,e,rfl⟩:=List.mem_map.1 d;exact b y (a.mirs y e),a.offs⟩
theorem Qkk (s:jSj)(m:Mir)(h:okM m):okM (kf s m):=by
 unfold kf;split
 ·exact h
 ·exact h
theorem Qjf {c:Nat}{r:Reg}(p:Inv c r)(hc:c<=30){num:Int}{kind x:jSj}{names:List jSj}{vals:List Int} :
  ∀{k:Ki},k≠.undo->Good (num,kind,names,vals,x) k->acc k r names vals=0->Inv (c+1) (app k r names vals)
 | .sector,_,hg,ha=>by
  obtain⟨a,t,rfl,rfl,i⟩:=hg.d11 rfl rfl;obtain⟨g,f,j,l⟩:=QS ha;have n:okT r t:=okt g i;have d:=Vt (Nat.le_succ c) (Ya p (by omega) n f);have F:=Ub (e:=5) (b:=((r.sectors.length:Int)==8)) (by decide) l;have G : ¬(r.sectors.length:Int)=8:=by simpa using F
  have q:=p.secs;exact⟨d.tick,d.level,d.light,d.heat,d.money,by show(r.sectors++[a]).length<=8;simp;omega,d.lenM,d.lenO,d.mirs,d.offs⟩
 | .mirror,_,hg,ha=>by
  obtain⟨a,b,t,v,rfl,rfl,i⟩:=hg.d22 rfl rfl;obtain⟨g,f,j,l⟩:=QS ha;have n:okT r t:=okt g i;have d:=Vt (Nat.le_succ c) (Ya p (by omega) n f);have A:=WS.1 (Zl l (inR v 1 100) (by simp));have K:=p.lenM;refine⟨d.tick,d.level,d.light,d.heat,d.money,d.secs,by show(r.mirrors++[_]).length<=c+1;simp;omega,d.lenO,fun m u=>?_,d.offs⟩;obtain h|h:=List.mem_append.1 u
  ·exact p.mirs m h
  ·rw[List.mem_singleton.1 h];exact⟨A,⟨Int.le_refl 0,show(0:Int)<=1000 by decide⟩⟩
 | .soil,_,hg,ha=>by obtain⟨a,t,v,rfl,rfl,i⟩:=hg.d12 rfl rfl;obtain⟨g,f,j,l⟩:=QS ha;have n:okT r t:=okt g i;have d:=Vt (Nat.le_succ c) (Ya p (by omega) n f);have s:ZG (nmM r.mirrors) a=true:=WN j;have u:=p.mirs _ (jgj (VM s).2.2);exact Xs d a (m:=kO (mAt r.mirrors a) v) ⟨u.1,WS.1 l⟩
 | .clean,_,hg,ha=>by obtain⟨a,t,rfl,rfl,i⟩:=hg.d11 rfl rfl;obtain⟨g,f,j,l⟩:=QS ha;have n:okT r t:=okt g i;have d:=Vt (Nat.le_succ c) (Ya p (by omega) n f);have s:ZG (nmM r.mirrors) a=true:=WN j;have u:=p.mirs _ (jgj (VM s).2.2);exact Xs d a (m:=kO (mAt r.mirrors a) 0) ⟨u.1,⟨Int.le_refl 0,show(0:Int)<=1000 by decide⟩⟩
 | .defect,_,hg,ha=>by obtain⟨a,t,rfl,rfl,i⟩:=hg.d11 rfl rfl;obtain⟨g,f,j,l⟩:=QS ha;have n:okT r t:=okt g i;have d:=Vt (Nat.le_succ c) (Ya p (by omega) n f);have s:ZG (nmM r.mirrors) a=true:=WN j;have u:=p.mirs _ (jgj (VM s).2.2);exact Xs d a (m:=defM (mAt r.mirrors a) true) u
 | .repair,_,hg,ha=>by obtain⟨a,t,rfl,rfl,i⟩:=hg.d11 rfl rfl;obtain⟨g,f,j,l⟩:=QS ha;have n:okT r t:=okt g i;have d:=Vt (Nat.le_succ c) (Ya p (by omega) n f);have s:ZG (nmM r.mirrors) a=true:=WN j;have u:=p.mirs _ (jgj (VM s).2.2);exact Xs d a (m:=defM (mAt r.mirrors a) false) u
 | .aim,_,hg,ha=>by obtain⟨a,t,rfl,rfl,i⟩:=hg.d11 rfl rfl;obtain⟨g,f,j,l⟩:=QS ha;have n:okT r t:=okt g i;have d:=Vt (Nat.le_succ c) (Ya p (by omega) n f);have s:ZG (nmM r.mirrors) a=true:=WN j;have u:=p.mirs _ (jgj (VM s).2.2);exact Xs d a (m:=aimM (mAt r.mirrors a)) u
 | .park,_,hg,ha=>by obtain⟨a,t,rfl,rfl,i⟩:=hg.d11 rfl rfl;obtain⟨g,f,j,l⟩:=QS ha;have n:okT r t:=okt g i;have d:=Vt (Nat.le_succ c) (Ya p (by omega) n f);have s:ZG (nmM r.mirrors) a=true:=WN j;have u:=p.mirs _ (jgj (VM s).2.2);exact Xs d a (m:=Xi (mAt r.mirrors a)) u
 | .dim,_,hg,ha=>by obtain⟨a,t,rfl,rfl,i⟩:=hg.d11 rfl rfl;obtain⟨g,f,j,l⟩:=QS ha;have n:okT r t:=okt g i;have d:=Vt (Nat.le_succ c) (Ya p (by omega) n f);exact QdO d (kf a) (Qkk a)
 | .sun,_,hg,ha=>by obtain⟨t,v,rfl,rfl,i⟩:=hg.d02 rfl rfl;obtain⟨g,f,j,l⟩:=QS ha;have n:okT r t:=okt g i;have d:=Vt (Nat.le_succ c) (Ya p (by omega) n f);exact⟨d.tick,WS.1 l,d.light,d.heat,d.money,d.secs,d.lenM,d.lenO,d.mirs,d.offs⟩
 | .fill,_,hg,ha=>by obtain⟨t,rfl,rfl,i⟩:=hg.d01 rfl rfl;obtain⟨g,f,j,l⟩:=QS ha;have n:okT r t:=okt g i;have d:=Vt (Nat.le_succ c) (Ya p (by omega) n f);exact⟨d.tick,d.level,d.light,d.heat,d.money,d.secs,d.lenM,d.lenO,d.mirs,d.offs⟩
 | .drain,_,hg,ha=>by obtain⟨t,rfl,rfl,i⟩:=hg.d01 rfl rfl;obtain⟨g,f,j,l⟩:=QS ha;have n:okT r t:=okt g i;have d:=Vt (Nat.le_succ c) (Ya p (by omega) n f);exact⟨d.tick,d.level,d.light,d.heat,d.money,d.secs,d.lenM,d.lenO,d.mirs,d.offs⟩
 | .trip,_,hg,ha=>by obtain⟨t,rfl,rfl,i⟩:=hg.d01 rfl rfl;obtain⟨g,f,j,l⟩:=QS ha;have n:okT r t:=okt g i;have d:=Vt (Nat.le_succ c) (Ya p (by omega) n f);have:=QdO d Xi (fun m h=>h);exact⟨this.tick,this.level,this.light,this.heat,this.money,this.secs,this.lenM,this.lenO,this.mirs,this.offs⟩
 | .reset,_,hg,ha=>by obtain⟨t,rfl,rfl,i⟩:=hg.d01 rfl rfl;obtain⟨g,f,j,l⟩:=QS ha;have n:okT r t:=okt g i;have d:=Vt (Nat.le_succ c) (Ya p (by omega) n f);exact⟨d.tick,d.level,d.light,d.heat,d.money,d.secs,d.lenM,d.lenO,d.mirs,d.offs⟩
 | .offer,_,hg,ha=>by
  obtain⟨a,t,v,S,z,N,rfl,rfl,i⟩:=hg.d15 rfl rfl;obtain⟨g,f,j,l⟩:=QS ha;have n:okT r t:=okt g i;have d:=Vt (Nat.le_succ c) (Ya p (by omega) n f);have C:=WS.1 (Zl l (inR z 1 1000) (by simp));have E:=WS.1 (Zl l (inR N 0 1000) (by simp));have K:=p.lenO;refine⟨d.tick,d.level,d.light,d.heat,d.money,d.secs,d.lenM,by show(r.offers++[_]).length<=c+1;simp;omega,d.mirs,fun o w=>?_⟩;obtain h|h:=List.mem_append.1 w
  ·exact p.offs o h
  ·rw[List.mem_singleton.1 h];exact⟨C,E,⟨Int.le_refl 0,show(0:Int)<=z by omega⟩⟩
 | .deliver,_,hg,ha=>by obtain⟨a,t,v,rfl,rfl,i⟩:=hg.d12 rfl rfl;obtain⟨g,f,j,l⟩:=QS ha;have n:okT r t:=okt g i;have d:=Vt (Nat.le_succ c) (Ya p (by omega) n f);have s:ZG (nmO r.offers) a=true:=WN j;have w:=p.offs _ (jgj (J6 s).2.2);have H:=wi l;have P:=hg.val v (by simp);have y:=H.2.2.1;unfold WC at y;obtain⟨L,M,Q⟩:=w;have q:=QdN d a (o:=delO (oAt r.offers a) v) ⟨L,M,⟨show 0<=(oAt r.offers a).2.2.2.2.2.1+v by omega,show(oAt r.offers a).2.2.2.2.2.1+v<=(oAt r.offers a).2.2.2.1 by omega⟩⟩;have s:=d.heat;have J:0<=r.heat+WP r t/\r.heat+WP r t<=1000000000000000:=s;exact⟨q.tick,q.level,q.light,⟨show 0<=r.heat+WP r t - 1000000*v by omega,show r.heat+WP r t - 1000000*v<=1000000000000000 by omega⟩,q.money,q.secs,q.lenM,q.lenO,q.mirs,q.offs⟩
 | .bill,_,hg,ha=>by obtain⟨a,t,rfl,rfl,i⟩:=hg.d11 rfl rfl;obtain⟨g,f,j,l⟩:=QS ha;have n:okT r t:=okt g i;have d:=Vt (Nat.le_succ c) (Ya p (by omega) n f);have s:ZG (nmO r.offers) a=true:=WN j;have w:=p.offs _ (jgj (J6 s).2.2);have q:=QdN d a (o:=zp (oAt r.offers a)) w;have O:=(Kg w).2.2.2;have u:=p.money;exact⟨q.tick,q.level,q.light,q.heat,⟨show -(2000000*((c+1:Nat):Int))<=r.money+Gr (oAt r.offers a) by omega,show r.money+Gr (oAt r.offers a)<=2000000*((c+1:Nat):Int) by omega⟩,q.secs,q.lenM,q.lenO,q.mirs,q.offs⟩
 | .undo,h,_,_=>absurd rfl h
theorem Qh8:Inv 0 Reg.zero:=⟨by decide,by decide,by decide,by decide,by decide,by decide,jLj _,jLj _,fun m a=>(List.not_mem_nil a).elim,fun o b=>(List.not_mem_nil b).elim⟩
def kdE (e:Ev):Option Ki:=zl e.2.1.data.toList
def appE (r:Reg)(e:Ev):Reg:=match kdE e with
 | some k=>app k r e.2.2.1 e.2.2.2.1
 | none=>r
def accE (r:Reg)(e:Ev):Int:=match kdE e with
 | some k=>acc k r e.2.2.1 e.2.2.2.1
 | none=>0
def QN (l:List Ev):Reg:=l.foldl appE Reg.zero
theorem Kx (l:List Ev)(e:Ev):QN (l++[e])=appE (QN l) e:=by unfold QN;rw[List.foldl_append];rfl
theorem Qcl {e:Ev}{k:Ki}(h:Good e k):kdE e=some k:=by unfold kdE;rw[h.kind,qZ]
theorem JX {e:Ev}{k:Ki}(h:Good e k)(r:Reg):appE r e=app k r e.2.2.1 e.2.2.2.1:=by unfold appE;rw[Qcl h]
theorem zh {e:Ev}{k:Ki}(h:Good e k)(r:Reg):accE r e=acc k r e.2.2.1 e.2.2.2.1:=by unfold accE;rw[Qcl h]
def OkL (l:List Ev):Prop:=∀(i:Nat) (e:Ev),l[i]?=some e->∃k,k≠.undo/\Good e k/\acc k (QN (l.take i)) e.2.2.1 e.2.2.2.1=0
theorem wD:OkL []:=fun i e h=>by simp at h
theorem Qdu {l:List Ev}(h:OkL l)(j:Nat):OkL (l.take j):=fun i e a=>by
 rw[List.getElem?_take] at a;split at a
 ·rename_i f;obtain⟨k,b,c,d⟩:=h i e a;refine⟨k,b,c,?_⟩;rw[List.take_take,Nat.min_eq_left (by omega)];exact d
 ·cases a
theorem Qdw {l:List Ev}(h:OkL l){e:Ev}{k:Ki}(g:k≠.undo)(f:Good e k)(d:acc k (QN l) e.2.2.1 e.2.2.2.1=0):OkL (l++[e]):=fun i x a=>by
 by_cases hi:i<l.length
 ·rw[List.getElem?_append_left hi] at a;rw[List.take_append_of_le_length (by omega)];exact h i x a
 ·rw[List.getElem?_append_right (by omega)] at a;have b:i - l.length=0:=by
   obtain c|c:=Nat.eq_zero_or_pos (i - l.length)
   ·exact c
   ·rw[List.getElem?_eq_none (by simp;omega)] at a;cases a
  rw[b] at a;cases a;have:i=l.length:=by omega
  subst this;rw[List.take_left];exact⟨k,g,f,d⟩
theorem Qb9 {l:List Ev}(h:OkL l)(d:l.length<=30):∀j,j<=l.length->Inv j (QN (l.take j))
 | 0,_=>by rw[List.take_zero];exact Qh8
 | j+1,hj=>by have f:=Qb9 h d j (by omega);have e:=jej (l:=l) (i:=j) (by omega);obtain⟨k,b,a,c⟩:=h j _ e;rw[List.take_succ_eq_append_getElem (by omega),Kx,JX a];exact Qjf f (by omega) b a c
theorem qR {l:List Ev}(h:OkL l)(a:l.length<=30):Inv l.length (QN l):=by have:=Qb9 h a l.length (jLj _);rwa [List.take_length] at this
def isU (e:Ev):Bool:=decide (kdE e=some .undo)
def Uk (i:Nat)(cnt:List Ev)(e:Ev):Int:=if chk e=0 then(if e.1=(i:Int)+1 then(if isU e=true then QcU cnt else accE (QN cnt) e) else 11) else chk e
def YV (cnt:List Ev)(e:Ev):List Ev:=if isU e=true then cnt.dropLast else cnt++[e]
def rep:Nat->List Ev->List Ev->(Int×Int)⊕List Ev
 | _,cnt,[]=>.inr cnt
 | i,cnt,e::l=>if Uk i cnt e=0 then rep (i+1) (YV cnt e) l else .inl ((i:Int)+1,Uk i cnt e)
theorem Xr {e:Ev}{k:Ki}(h:Good e k):isU e=decide (k=.undo):=by
 unfold isU;rw[Qcl h];by_cases a:k=.undo
 ·simp[a]
 ·simp[a]
theorem jY {i:Nat}{cnt:List Ev}{e:Ev}(h:Uk i cnt e=0):∃k,Good e k/\e.1=(i:Int)+1/\(if isU e=true then QcU cnt else accE (QN cnt) e)=0:=by
 unfold Uk at h;by_cases hc:chk e=0
 ·rw[jTj hc] at h;obtain⟨k,b⟩:=Qec hc;by_cases a:e.1=(i:Int)+1
  ·rw[jTj a] at h;exact⟨k,b,a,h⟩
  ·rw[jFj a] at h;cases h
 ·rw[jFj hc] at h;exact absurd h hc
theorem Qen {cnt:List Ev}(h:QcU cnt=0):cnt≠[]:=by intro e;subst e;cases h
theorem Qdv {i:Nat}{cnt:List Ev}(d:OkL cnt)(hc:cnt.length<=i){e:Ev}(h:Uk i cnt e=0):OkL (YV cnt e)/\(YV cnt e).length<=i+1:=by
 obtain⟨k,c,_,b⟩:=jY h;unfold YV;by_cases a:isU e=true
 ·rw[jTj a];rw[List.dropLast_eq_take];exact⟨Qdu d _,by simp;omega⟩
 ·rw[jFj a] at b ⊢;rw[Xr c] at a;rw[zh c] at b;exact⟨Qdw d (by simpa using a) c b,by simp;omega⟩
theorem wC {x:D}(l:jVj):l.take ((List.replicate (Int.toNat ((l.length:Nat):Int)) (x:D)):jVj).length++(List.replicate (Int.toNat ((l.length:Nat):Int)) (x:D)).drop l.length=l:=by rw[List.length_replicate,jtj,List.take_length,List.drop_eq_nil_of_le (by rw[List.length_replicate];exact jLj _),List.append_nil]
theorem jl {n:Nat}(i:100<=n){cnt:List Ev}(g:OkL cnt)(hc:cnt.length<=30){evs:jVj}(d:evs.length<=5000){e:Ev}(f:chk e=0) :
  Qq n e.1 e.2.1 (e.2.2.1.map Sd) (e.2.2.2.1.map I) e.2.2.2.2 evs (cnt.map Q5) (QN cnt).tick (QN cnt).level (QN cnt).filled (QN cnt).tripped (QN cnt).light (QN cnt).heat (QN cnt).money ((QN cnt).sectors.map Sd) ((QN cnt).mirrors.map Q1) ((QN cnt).offers.map Zs)=some (Uk evs.length cnt e):=by
 obtain⟨k,b⟩:=Qec f;unfold Uk;rw[jTj f];by_cases c:isU e=true
 ·have a:k=.undo:=by rw[Xr b] at c;exact of_decide_eq_true c
  subst a;rw[QcK (QN cnt) d cnt (by omega) b,jTj c]
 ·have a:k≠.undo:=fun h=>c (by rw[Xr b];exact jDj h);rw[Qfj i (qR g hc) (by omega) d a b,jFj c,zh b]
abbrev AddT:=jVj×jVj×Int×Int×Bool×Bool×Int×Int×Int×jVj×jVj×jVj
def VJ (evs cnt:jVj)(r:Reg):AddT:=(evs,cnt,Wd r)
theorem unEs (e:Ev):(Option.map Q5 (some e)).bind Wc=some (e.1,e.2.1,e.2.2.1.map Sd,e.2.2.2.1.map I,e.2.2.2.2):=rfl
theorem Qi9 {n:Nat}(O:100<=n){z:Int}{A:jSj}{C E:jVj}{F:jSj}{G:jVj}{cnt:List Ev}{H J:Int}{K c:Bool}{d f g:Int}{h j o:jVj}(w:OkL cnt)(hc:cnt.length<=30)(y:cnt≠[]) :
  QU (Zn n z A C E F G (cnt.map Q5) H J K c d f g h j o) n (.inl ())=some (if cnt.dropLast=[] then .inl () else .inr (Wd (QN cnt.dropLast))):=by
 have a:((cnt.map Q5).take (Int.toNat (((cnt.map Q5).length:Int) - 1)))=cnt.dropLast.map Q5:=by
  rw[jlj,List.dropLast_eq_take,List.map_take];congr 1
  have:=List.length_pos_iff.2 y;omega
 have v:OkL cnt.dropLast:=by rw[List.dropLast_eq_take];exact Qdu w _
 have p:cnt.dropLast.length<=30:=by simp;omega
 generalize cnt.dropLast=l at a v p ⊢;have step:∀(i:Nat) (e:Ev),l[i]?=some e->Qy n e.1 e.2.1 (e.2.2.1.map Sd) (e.2.2.2.1.map I) e.2.2.2.2 (QN (l.take i)).tick (QN (l.take i)).level (QN (l.take i)).filled (QN (l.take i)).tripped (QN (l.take i)).light (QN (l.take i)).heat (QN (l.take i)).money ((QN (l.take i)).sectors.map Sd) ((QN (l.take i)).mirrors.map Q1) ((QN (l.take i)).offers.map Zs)=some (Wd (QN (l.take (i+1)))):=by
  intro i e b;have hi:=(jGj b).1;obtain⟨k,M,L,N⟩:=v i e b;have q:=Qb9 v p i (by omega);rw[Qiy O q (by omega) M L N];have:l.take (i+1)=l.take i++[e]:=by rw[List.take_succ_eq_append_getElem hi];rw[jej hi] at b;rw[Option.some.inj b]
  rw[this,Kx,JX L]
 have s:∀(m i k:Nat),0<i->i+m=l.length->m<k->QU (Zn n z A C E F G (cnt.map Q5) H J K c d f g h j o) k (.inr ((i:Int),Wd (QN (l.take i))))=some (.inr (Wd (QN l))):=by
  intro m;induction m with
  | zero =>
   intro i k t hi w;have:i=l.length:=by omega
   subst this;rw[List.take_length];rw[W7 (by omega)];unfold Zn;dsimp only;rw[a,jFj (by simp)]
  | succ m ih =>
   intro i k t hi w;have b:=jej (l:=l) (i:=i) (by omega);rw[Y5 (s':=.inr (((i+1:Nat):Int),Wd (QN (l.take (i+1))))) (by omega) ?_]
   ·exact ih (i+1) (k - 1) (by omega) (by omega) (by omega)
   ·unfold Zn;dsimp only;rw[a,jTj (ZF b),jTj ⟨Int.natCast_nonneg i,ZF b⟩,jtj,U4,List.getElem?_map,b,unEs,jBj];refine Eq.trans (congrArg (fun x=>Option.bind x _) (step i _ b)) ?_;rw[jBj,jTj (by unfold Qg;omega)];rfl
 by_cases u:l=[]
 ·rw[jTj u];refine W7 (by omega) ?_;unfold Zn;dsimp only;rw[a,u,jFj (by decide)]
 ·rw[jFj u];have r:=List.length_pos_iff.2 u;have b:=jej (l:=l) (i:=0) r;rw[Y5 (s':=.inr (((1:Nat):Int),Wd (QN (l.take 1)))) (by omega) ?_]
  ·exact s (l.length - 1) 1 (n - 1) (by omega) (by omega) (by omega)
  ·unfold Zn;dsimp only;rw[a,jTj (by simp;omega),jTj (by simp;omega),U4,List.getElem?_map,b,unEs,jBj];have t:=step 0 _ b;rw[List.take_zero] at t;refine Eq.trans (congrArg (fun x=>Option.bind x _) t) ?_;rfl
theorem addE {n:Nat}(l:100<=n){cnt:List Ev}(j:OkL cnt)(hc:cnt.length<=30){evs:jVj}(q:evs.length<=4000){e:Ev}(p:QnI e)(h:Uk evs.length cnt e=0) :
  WF n e.1 e.2.1 (e.2.2.1.map Sd) (e.2.2.2.1.map I) e.2.2.2.2 evs (cnt.map Q5) (QN cnt).tick (QN cnt).level (QN cnt).filled (QN cnt).tripped (QN cnt).light (QN cnt).heat (QN cnt).money ((QN cnt).sectors.map Sd) ((QN cnt).mirrors.map Q1) ((QN cnt).offers.map Zs)=some (VJ (evs++[Q5 e]) ((YV cnt e).map Q5) (QN (YV cnt e))):=by
 obtain⟨k,c,m,g⟩:=jY h;obtain⟨s1,r,s,t,u⟩:=p;unfold WF;rw[jTj (by rw[jlj];omega),jTj (by rw[jlj];omega),jTj (UO (by decide) (by omega)),wC,wC];unfold YV;by_cases d:isU e=true
 ·have a:k=.undo:=by rw[Xr c] at d;exact of_decide_eq_true d
  subst a;rw[jTj d] at g;have f:=Qen g;have o:=List.length_pos_iff.2 f;have b:((cnt.map Q5).take (Int.toNat (((cnt.map Q5).length:Int) - 1)))=cnt.dropLast.map Q5:=by
   rw[jlj,List.dropLast_eq_take,List.map_take];congr 1
   omega
  rw[jTj (keq c.kind rfl),jTj (by rw[jlj];unfold Qg;omega),jTj (by rw[jlj];omega),Qi9 l j hc f,jBj,jTj d];by_cases i:cnt.dropLast=[]
  ·rw[jTj i,b,i];rfl
  ·rw[jFj i,b];rfl
 ·have a:k≠.undo:=fun h=>d (by rw[Xr c];exact jDj h);rw[jFj d,zh c] at g;rw[jFj (by rw[kq,c.kind];intro h;exact a (by have:=qZ k;rw[h] at this;exact(Option.some.inj this).symm)),jTj (UO (by decide) (by rw[jlj];omega)),Qg8 l (qR j hc) (by omega) a c g,jBj,jFj d,Kx,JX c,List.map_append];rfl
abbrev StT:=Int×Int×Bool×Bool×Int×Int×Int×jVj×jVj×jVj×jVj×jVj
def stS (evs cnt:jVj)(r:Reg):StT:=(r.tick,r.level,r.filled,r.tripped,r.light,r.heat,r.money,evs,cnt,r.sectors.map Sd,r.mirrors.map Q1,r.offers.map Zs)
theorem el_E {l:List Ev}{i:Nat}{e:Ev}(h:l[i]?=some e):el Wc (l.map Q5) (i:Int)=some (e.1,e.2.1,e.2.2.1.map Sd,e.2.2.2.1.map I,e.2.2.2.2):=by unfold el;rw[jTj (Int.natCast_nonneg i),jtj,U4,List.getElem?_map,h];rfl
theorem wS {i:Nat}{cnt:List Ev}{e:Ev}(h:¬chk e=0):Uk i cnt e=chk e:=by unfold Uk;rw[jFj h]
theorem Qdf {n:Nat}(o:100<=n)(l:List Ev)(v:l.length<=30)(t:∀e,e∈l->QnI e):∀(m pre cnt:List Ev) (k:Nat),l=pre++m->pre≠[]->OkL cnt->cnt.length<=pre.length->m.length<k ->
  (match rep pre.length cnt m with
   | .inr c=>QU (QP n (l.map Q5)) k (.inr ((pre.length:Int),stS (pre.map Q5) (cnt.map Q5) (QN cnt)))=some (.inr (.inr (.inr (stS (l.map Q5) (c.map Q5) (QN c)))))/\OkL c/\c.length<=l.length
   | .inl (i,err)=>err≠0/\∃w,QU (QP n (l.map Q5)) k (.inr ((pre.length:Int),stS (pre.map Q5) (cnt.map Q5) (QN cnt)))=some (.inl (i,err,w)))
 | [],pre,cnt,k,hl0,hne,hok,hc,hk=>by rw[List.append_nil] at hl0;subst hl0;unfold rep;refine⟨?_,hok,hc⟩;refine W7 (by omega) ?_;unfold QP;dsimp only;rw[jFj (by rw[jlj];omega)]
 | e::m,pre,cnt,k,hl0,hne,hok,hc,hk=>by
  have s:l.length=pre.length+(m.length+1):=by rw[hl0];simp
  have j:l[pre.length]?=some e:=by rw[hl0,List.getElem?_append_right (jLj _),Nat.sub_self];rfl
  have f:=t e (jgj j);have a:(pre.map Q5).length=pre.length:=jlj _;unfold rep;by_cases g:chk e=0
  ·have b:=jl o hok (by omega) (evs:=pre.map Q5) (by rw[a];omega) g;rw[a] at b;by_cases d:Uk pre.length cnt e=0
   ·rw[jTj d];obtain⟨q,r⟩:=Qdv hok hc d;have p:=addE o hok (by omega) (evs:=pre.map Q5) (by rw[a];omega) f (by rw[a];exact d);have h:QP n (l.map Q5) (.inr ((pre.length:Int),stS (pre.map Q5) (cnt.map Q5) (QN cnt)))=some (.inl (.inr (((pre++[e]).length:Int),stS ((pre++[e]).map Q5) ((YV cnt e).map Q5) (QN (YV cnt e))))):=by unfold QP;dsimp only;rw[jTj (ZF j),el_E j,jBj,VS o e f,jBj,jTj g];refine Eq.trans (congrArg (fun x=>Option.bind x _) b) ?_;rw[jBj,jTj d];refine Eq.trans (congrArg (fun x=>Option.bind x _) p) ?_;rw[jBj,jTj (by unfold Qg;omega),List.map_append,jaj];rfl
    rw[Y5 (by omega) h];have:=Qdf o l v t m (pre++[e]) (YV cnt e) (k - 1) (by rw[hl0];simp) (by simp) q (by rw[jaj];exact r) (by simp at hk;omega);have u:(pre++[e]).length=pre.length+1:=by simp
    rw[u] at this ⊢;exact this
   ·rw[jFj d];refine⟨d,stS (pre.map Q5) (cnt.map Q5) (QN cnt),?_⟩;refine W7 (by omega) ?_;unfold QP;dsimp only;rw[jTj (ZF j),el_E j,jBj,VS o e f,jBj,jTj g];refine Eq.trans (congrArg (fun x=>Option.bind x _) b) ?_;rw[jBj,jFj d,jTj (by unfold Qg;omega)];try rfl
  ·have d:¬Uk pre.length cnt e=0:=by rw[wS g];exact g
   rw[jFj d,wS g];refine⟨g,stS (pre.map Q5) (cnt.map Q5) (QN cnt),?_⟩;refine W7 (by omega) ?_;unfold QP;dsimp only;rw[jTj (ZF j),el_E j,jBj,VS o e f,jBj,jFj g,jTj (by unfold Qg;omega)];try rfl
theorem EZ {n:Nat}(s:100<=n)(l:List Ev)(C:l.length<=30)(E:∀e,e∈l->QnI e) :
  (match rep 0 [] l with
   | .inr c=>ZK n (l.map Q5)=some (0,0,l.map Q5,c.map Q5,Wd (QN c))/\OkL c/\c.length<=l.length
   | .inl (i,err)=>err≠0/\∃w,ZK n (l.map Q5)=some (i,err,w)):=by
 have g:¬(((l.map Q5).length:Int)>1000):=by rw[jlj];omega
 cases l with
 | nil =>
  unfold rep ZK;refine⟨?_,wD,jLj _⟩;rw[jFj g];have:QU (QP n (([]:List Ev).map Q5)) n (.inl ())=some (.inr (.inr (.inl ()))):=by refine W7 (by omega) ?_;unfold QP;dsimp only;rw[jFj (by decide)]
  rw[this];rfl
 | cons e m =>
  have A:(e::m)[0]?=some e:=rfl;have h:=E e jMj;have d:(0:Int)<(((e::m).map Q5).length:Int):=by simp only[jCj,List.length_cons];omega
  unfold rep;by_cases o:chk e=0
  ·have j:=jl s wD (by simp) (evs:=[]) (by simp) o;by_cases f:Uk 0 [] e=0
   ·rw[jTj f];obtain⟨y,z⟩:=Qdv wD (jLj _) f;have t:=addE s wD (by simp) (evs:=[]) (by simp) h f;have r:QP n ((e::m).map Q5) (.inl ())=some (.inl (.inr ((([e]:List Ev).length:Int),stS ([e].map Q5) ((YV [] e).map Q5) (QN (YV [] e))))):=by unfold QP;dsimp only;rw[jTj d,show el Wc ((e::m).map Q5) 0=_ from el_E A,jBj,VS s e h,jBj,jTj o];refine Eq.trans (congrArg (fun x=>Option.bind x _) j) ?_;rw[jBj,jTj (show Uk ([]:jVj).length [] e=0 from f)];refine Eq.trans (congrArg (fun x=>Option.bind x _) t) ?_;rfl
    have a:=Qdf s (e::m) C E m [e] (YV [] e) (n - 1) rfl (by simp) y (by simpa using z) (by simp at C;omega);have b:=Y5 (k:=n) (by omega) r;have q:([e]:List Ev).length=0+1:=rfl;rw[q] at a b;unfold ZK;rw[jFj g,b];cases hr:rep (0+1) (YV [] e) m with
    | inr c =>
     rw[hr] at a;obtain⟨u,v,F⟩:=a;refine⟨?_,v,F⟩;rw[u];rfl
    | inl p =>
     obtain⟨i,err⟩:=p;rw[hr] at a;obtain⟨u,w,v⟩:=a;refine⟨u,?_⟩;rw[v];exact⟨_,rfl⟩
   ·rw[jFj f];refine⟨f,?_⟩;unfold ZK;have:QU (QP n ((e::m).map Q5)) n (.inl ())=some (.inl (1,Uk 0 [] e,0,0,false,false,0,0,0,[],[],[],[],[])):=by refine W7 (by omega) ?_;unfold QP;dsimp only;rw[jTj d,show el Wc ((e::m).map Q5) 0=_ from el_E A,jBj,VS s e h,jBj,jTj o];refine Eq.trans (congrArg (fun x=>Option.bind x _) j) ?_;rw[jBj,jFj (show ¬Uk ([]:jVj).length [] e=0 from f)];rfl
    rw[jFj g,this];exact⟨_,rfl⟩
  ·have f:¬Uk 0 [] e=0:=by rw[wS o];exact o
   rw[jFj f,wS o];refine⟨o,?_⟩;unfold ZK;have:QU (QP n ((e::m).map Q5)) n (.inl ())=some (.inr (.inl (chk e))):=by refine W7 (by omega) ?_;unfold QP;dsimp only;rw[jTj d,show el Wc ((e::m).map Q5) 0=_ from el_E A,jBj,VS s e h,jBj,jFj o]
   rw[jFj g,this];exact⟨_,rfl⟩
def encR (r:Reg):D:=QnA (Wd r)
def z0:D:=jZj
def allD (cnt:List Ev):jVj:=z0::(List.range cnt.length).map fun j=>encR (QN (cnt.take (j+1)))
theorem Qn6 (cnt:List Ev):(allD cnt).length=cnt.length+1:=by unfold allD;simp
theorem Qto (r:Reg):QmP (some (encR r))=false:=by
 unfold encR QnA QmP;split
 ·rename_i h;simp at h
 ·rfl
theorem QqR {cnt:List Ev}{j:Nat}(h:j<cnt.length):(allD cnt)[j+1]?=some (encR (QN (cnt.take (j+1)))):=by unfold allD;rw[List.getElem?_cons_succ,List.getElem?_map,List.getElem?_range h];rfl
theorem Qrx {cnt:List Ev}(h:cnt≠[]):(allD cnt)[cnt.length]?=some (encR (QN cnt)):=by have hp:=List.length_pos_iff.2 h;have:=QqR (cnt:=cnt) (j:=cnt.length - 1) (by omega);rw[show cnt.length - 1+1=cnt.length by omega,List.take_length] at this;exact this
theorem QpU (cnt:List Ev)(e:Ev):allD cnt++[encR (QN (cnt++[e]))]=allD (cnt++[e]):=by
 apply List.ext_getElem?;intro i;by_cases b:i=0
 ·subst b;rfl
 obtain⟨j,rfl⟩:∃j,i=j+1:=⟨i - 1,by omega⟩
 by_cases c:j<cnt.length
 ·rw[List.getElem?_append_left (by rw[Qn6];omega),QqR c,QqR (by simp;omega),List.take_append_of_le_length (by omega)]
 ·by_cases a:j=cnt.length
  ·subst a;rw[List.getElem?_append_right (by rw[Qn6];omega),Qn6,Nat.sub_self,QqR (by simp)];have e:(cnt++[e]).take (cnt.length+1)=cnt++[e]:=by rw[List.take_of_length_le];simp
   rw[e];rfl
  ·rw[List.getElem?_eq_none (by rw[jaj,Qn6];simp;omega),List.getElem?_eq_none (by rw[Qn6];simp;omega)]
theorem Qs8 {cnt:List Ev}(h:cnt≠[]):(allD cnt).take cnt.length=allD cnt.dropLast:=by
 have hp:=List.length_pos_iff.2 h;have a:cnt=cnt.dropLast++[cnt.getLast h]:=(List.dropLast_concat_getLast h).symm;have b:cnt.length=(allD cnt.dropLast).length:=by rw[Qn6];simp;omega
 have e:allD cnt=allD cnt.dropLast++[encR (QN cnt)]:=by have:=QpU cnt.dropLast (cnt.getLast h);rw[<-a] at this;exact this.symm
 conv=>lhs;rw[e,b]
 rw[List.take_left]
theorem QqZ {cnt:List Ev}:QmP (nth (allD cnt) (Int.toNat (cnt.length:Int)))=decide (cnt=[]):=by
 rw[jtj,U4];by_cases h:cnt=[]
 ·subst h;rfl
 ·rw[Qrx h,Qto];simp[h]
theorem elA {cnt:List Ev}(h:cnt≠[]):el QnF (allD cnt) (cnt.length:Int)=some (Wd (QN cnt)):=by unfold el;rw[jTj (Int.natCast_nonneg _),jtj,U4,Qrx h];rfl
theorem Qtb {n:Nat}(i:100<=n){cnt:List Ev}(g:OkL cnt)(hc:cnt.length<=30){e:Ev}(l:chk e=0)(j:¬isU e=true) :
  ∃b,QmC n (QN cnt).tick (QN cnt).level (QN cnt).filled (QN cnt).tripped (QN cnt).light (QN cnt).heat (QN cnt).money ((QN cnt).sectors.map Sd) ((QN cnt).mirrors.map Q1) ((QN cnt).offers.map Zs) e.1 e.2.1 (e.2.2.1.map Sd) (e.2.2.2.1.map I) e.2.2.2.2=some (outE b (accE (QN cnt) e))/\(accE (QN cnt) e=0->b=QN (cnt++[e])):=by
 obtain⟨k,a⟩:=Qec l;have c:k≠.undo:=fun h=>j (by rw[Xr a];exact jDj h);obtain⟨b,d,f⟩:=Qta i (qR g hc) hc c a;refine⟨b,by rw[zh a];exact d,fun h=>?_⟩;rw[zh a] at h;rw[Kx,JX a];exact f h
theorem Qsl {e:Ev}(c:chk e=0):isU e=true↔e.2.1.data.toList=kw .undo:=by
 obtain⟨k,b⟩:=Qec c;rw[Xr b,decide_eq_true_eq];have:=b.kind;constructor
 ·rintro rfl;exact this
 ·intro h;have a:=qZ k;rw[<-this,h,qZ] at a;exact(Option.some.inj a).symm
theorem Qr1 {i:Nat}{cnt:List Ev}{e:Ev}(b:chk e=0)(a:¬e.1=(i:Int)+1):Uk i cnt e=11:=by unfold Uk;rw[jTj b,jFj a]
theorem Qs0 {i:Nat}{cnt:List Ev}{e:Ev}(c:chk e=0)(a:e.1=(i:Int)+1)(b:isU e=true):Uk i cnt e=QcU cnt:=by unfold Uk;rw[jTj c,jTj a,jTj b]
theorem Qs1 {i:Nat}{cnt:List Ev}{e:Ev}(c:chk e=0)(a:e.1=(i:Int)+1)(b:¬isU e=true):Uk i cnt e=accE (QN cnt) e:=by unfold Uk;rw[jTj c,jTj a,jFj b]
theorem Qs7 {n:Nat}(F:100<=n)(l:List Ev)(K:l.length<=30){i:Nat}{e:Ev}(E:l[i]?=some e)(C:QnI e){cnt:List Ev}(z:OkL cnt)(hc:cnt.length<=i) :
  QmH n (l.map Q5) (.inr (cnt.map Q5,allD cnt,(i:Int)))=some (if Uk i cnt e=0 then .inl (.inr ((YV cnt e).map Q5,allD (YV cnt e),((i+1:Nat):Int))) else .inr (.inl (((i+1:Nat):Int),Uk i cnt e))):=by
 have hi:=(jGj E).1;have b:(cnt.map Q5).length=cnt.length:=jlj _;have hin:Qg ((i:Int)+1):=by unfold Qg;omega
 unfold QmH;dsimp only;rw[jTj (ZF E),el_E E,jBj,QoZ F e C,jBj];by_cases m:chk e=0
 ·rw[jTj m,jTj hin];by_cases d:e.1=(i:Int)+1
  ·rw[jTj d];by_cases q:isU e=true
   ·rw[jTj (keq ((Qsl m).1 q) rfl),Qs0 m d q];unfold YV;rw[jTj q];cases hgl:cnt.getLast? with
    | none =>
     have J:=List.getLast?_eq_none_iff.1 hgl;subst J;rw[jTj (by rfl),jFj (show ¬QcU []=0 by decide)];rfl
    | some x =>
     have f:QcU cnt=if x.2.1.data.toList=kw .deliver\/x.2.1.data.toList=kw .bill then 21 else 0:=by unfold QcU;rw[hgl]
     have c:cnt≠[]:=fun h=>by rw[h] at hgl;cases hgl
     have hp:=List.length_pos_iff.2 c;have w:=Qs8 c;rw[List.getLast?_eq_getElem?] at hgl;have y:(((cnt.map Q5).length:Int) - 1)=((cnt.length - 1:Nat):Int):=by rw[b];omega
     rw[jFj (by rw[b];omega),y,jTj (by unfold Qg;omega),el_E hgl,jBj];dsimp only;by_cases t:x.2.1.data.toList=kw .deliver
     ·rw[jTj (Or.inl t)] at f;rw[jTj (keq t rfl),f,jFj (by decide)];rfl
     ·rw[jFj (fun h=>t (by rw[kq] at h;exact h))];by_cases u:x.2.1.data.toList=kw .bill
      ·rw[jTj (Or.inr u)] at f;rw[jTj (keq u rfl),f,jFj (by decide)];rfl
      ·have A:¬(x.2.1.data.toList=kw .deliver\/x.2.1.data.toList=kw .bill):=by
        rintro(h|h)
        ·exact t h
        ·exact u h
       rw[jFj A] at f;rw[jFj (fun h=>u (by rw[kq] at h;exact h)),f,jTj rfl,jTj (by rw[b];refine⟨by omega,by omega,by omega,.inr rfl⟩),jTj (by rw[b,Qn6];refine⟨by omega,by omega,by omega,.inr rfl⟩)];have G:((cnt.map Q5).take (Int.toNat ((cnt.length - 1:Nat):Int))).drop (Int.toNat 0)=cnt.dropLast.map Q5:=by rw[jtj,Int.toNat_zero,List.drop_zero,List.dropLast_eq_take,List.map_take]
       have H:((allD cnt).take (Int.toNat ((cnt.map Q5).length:Int))).drop (Int.toNat 0)=allD cnt.dropLast:=by rw[jtj,Int.toNat_zero,List.drop_zero,b,w]
       rw[G,H];rfl
   ·rw[jFj (fun h=>q ((Qsl m).2 (by rw[kq] at h;exact h))),Qs1 m d q];obtain⟨v,r,s⟩:=Qtb F z (by omega) m q;unfold YV;rw[jFj q];have a:Wi 88 (0+(cnt.map Q5).length)/\Wi 88 ((cnt.map Q5).length+1)/\Wi 120 (0+(allD cnt).length)/\Wi 120 ((allD cnt).length+1) :=
     ⟨UO (by decide) (by rw[b];omega),UO (by decide) (by rw[b];omega),UO (by decide) (by rw[Qn6];omega),UO (by decide) (by rw[Qn6];omega)⟩
    by_cases c:cnt=[]
    ·have k:QmP (nth (allD cnt) (Int.toNat ((cnt.map Q5).length:Int)))=true:=by rw[b,QqZ];exact jDj c
     rw[jTj k,jTj (Int.natCast_nonneg _)];have o:=r;rw[c] at o;refine Eq.trans (congrArg (fun x=>Option.bind x _) o) ?_;rw[jBj];by_cases g:accE (QN cnt) e=0
     ·have p:=s g;have j:=g;rw[c] at j;rw[jTj (show(outE v (accE (QN []) e)).2.2.2.2.2.2.2.2.2.2=0 from j),jTj a.1,jTj a.2.1,jTj a.2.2.1,jTj a.2.2.2,jTj g,List.map_append,<-QpU,p];rfl
     ·have j:=g;rw[c] at j;rw[jFj (show ¬(outE v (accE (QN []) e)).2.2.2.2.2.2.2.2.2.2=0 from j),jFj g,c];rfl
    ·have k:¬QmP (nth (allD cnt) (Int.toNat ((cnt.map Q5).length:Int)))=true:=by rw[b,QqZ];simpa using c
     rw[jFj k,b,elA c,jBj];refine Eq.trans (congrArg (fun x=>Option.bind x _) r) ?_;rw[b] at a;rw[jBj];by_cases g:accE (QN cnt) e=0
     ·have p:=s g;rw[jTj (show(outE v (accE (QN cnt) e)).2.2.2.2.2.2.2.2.2.2=0 from g),jTj a.1,jTj a.2.1,jTj a.2.2.1,jTj a.2.2.2,jTj g,List.map_append,<-QpU,p];rfl
     ·rw[jFj (show ¬(outE v (accE (QN cnt) e)).2.2.2.2.2.2.2.2.2.2=0 from g),jFj g];rfl
  ·rw[jFj d,Qr1 m d,jFj (by decide)];rfl
 ·rw[jFj m,wS m,jFj m,jTj hin];rfl
theorem QsI {n:Nat}(l:100<=n)(e:Ev)(m:List Ev)(k:QnI e) :
  QmH n ((e::m).map Q5) (.inl ())=some (if Uk 0 [] e=0 then .inl (.inr ((YV [] e).map Q5,allD (YV [] e),1)) else .inr (.inl (1,Uk 0 [] e))):=by
 have p:(e::m)[0]?=some e:=rfl;have f:(0:Int)<(((e::m).map Q5).length:Int):=by simp only[jCj,List.length_cons];omega
 unfold QmH;dsimp only;rw[jTj f,show el Wc ((e::m).map Q5) 0=_ from el_E p,jBj,QoZ l e k,jBj];by_cases b:chk e=0
 ·rw[jTj b];by_cases a:e.1=((0:Nat):Int)+1
  ·rw[jTj (show e.1=1 from a)];by_cases c:isU e=true
   ·rw[jTj (keq ((Qsl b).1 c) rfl),Qs0 b a c,jFj (show ¬QcU []=0 by decide)];rfl
   ·rw[jFj (fun h=>c ((Qsl b).2 (by rw[kq] at h;exact h))),Qs1 b a c];obtain⟨o,g,i⟩:=Qtb l wD (by simp) b c;unfold YV;rw[jFj c];refine Eq.trans (congrArg (fun x=>Option.bind x _) g) ?_;rw[jBj];by_cases d:accE (QN []) e=0
    ·have j:=i d;rw[jTj (show(outE o (accE (QN []) e)).2.2.2.2.2.2.2.2.2.2=0 from d),jTj d,<-QpU,j];rfl
    ·rw[jFj (show ¬(outE o (accE (QN []) e)).2.2.2.2.2.2.2.2.2.2=0 from d),jFj d];rfl
  ·rw[jFj (show ¬e.1=1 from a),Qr1 b a,jFj (by decide)]
 ·rw[jFj b,wS b,jFj b]
theorem Qr4 {n:Nat}(i:100<=n)(l:List Ev)(g:l.length<=30)(j:∀e,e∈l->QnI e):∀(m pre cnt:List Ev) (k:Nat),l=pre++m->OkL cnt->cnt.length<=pre.length->m.length<k ->
  QU (QmH n (l.map Q5)) k (.inr (cnt.map Q5,allD cnt,(pre.length:Int)))=some (match rep pre.length cnt m with
   | .inr c=>.inr (.inr (c.map Q5,allD c))
   | .inl p=>.inl p)
 | [],pre,cnt,k,hl0,hok,hc,hk=>by rw[List.append_nil] at hl0;subst hl0;unfold rep;refine W7 (by omega) ?_;unfold QmH;dsimp only;rw[jFj (by rw[jlj];omega)]
 | e::m,pre,cnt,k,hl0,hok,hc,hk=>by
  have h:l.length=pre.length+(m.length+1):=by rw[hl0];simp
  have o:l[pre.length]?=some e:=by rw[hl0,List.getElem?_append_right (jLj _),Nat.sub_self];rfl
  have a:=Qs7 i l g o (j e (jgj o)) hok hc;unfold rep;by_cases b:Uk pre.length cnt e=0
  ·rw[jTj b] at a ⊢;obtain⟨d,f⟩:=Qdv hok hc b;rw[Y5 (by omega) a];have:=Qr4 i l g j m (pre++[e]) (YV cnt e) (k - 1) (by rw[hl0];simp) d (by rw[jaj];exact f) (by simp at hk;omega);have q:(pre++[e]).length=pre.length+1:=by simp
   rw[q] at this;exact this
  ·rw[jFj b] at a ⊢;exact W7 (by omega) a
def cntD:(Int×Int)⊕List Ev->jVj×jVj×Int×Int
 | .inr c=>(c.map Q5,allD c,0,0)
 | .inl p=>([],[],p.1,p.2)
theorem Qsh {n:Nat}(i:100<=n)(l:List Ev)(h:l.length<=30)(j:∀e,e∈l->QnI e):QnZ n (l.map Q5)=some (cntD (rep 0 [] l)):=by
 have d:¬(((l.map Q5).length:Int)>1000):=by rw[jlj];omega
 unfold QnZ;rw[jFj d];cases l with
 | nil =>
  have:QU (QmH n (([]:List Ev).map Q5)) n (.inl ())=some (.inr (.inl ())):=by refine W7 (by omega) ?_;unfold QmH;dsimp only;rw[jFj (by decide)]
  rw[this];rfl
 | cons e m =>
  have a:=QsI i e m (j e jMj);unfold rep;by_cases b:Uk 0 [] e=0
  ·rw[jTj b] at a ⊢;obtain⟨f,g⟩:=Qdv wD (jLj _) b;have:=Qr4 i (e::m) h j m [e] (YV [] e) (n - 1) rfl f (by simpa using g) (by simp at h;omega);have k:([e]:List Ev).length=0+1:=rfl;rw[k] at this;rw[Y5 (by omega) a,show QU (QmH n ((e::m).map Q5)) (n - 1) (.inr ((YV [] e).map Q5,allD (YV [] e),1))=_ from this];cases rep (0+1) (YV [] e) m with
   | inr c=>rfl
   | inl p=>rfl
  ·rw[jFj b] at a ⊢;rw[W7 (by omega) a];rfl
abbrev RepT:=Int×Int×Bool×Bool×Int×Int×Int×jVj×jVj×jVj×Int×Int
def outF (r:Reg)(a b:Int):RepT:=(r.tick,r.level,r.filled,r.tripped,r.light,r.heat,r.money,r.sectors.map Sd,r.mirrors.map Q1,r.offers.map Zs,a,b)
def repD:(Int×Int)⊕List Ev->RepT
 | .inr c=>outF (QN c) 0 0
 | .inl p=>outF Reg.zero p.1 p.2
theorem QrD:∀(l cnt:List Ev) (i:Nat) (p:Int×Int),rep i cnt l=.inl p->p.2≠0
 | [],cnt,i,p,h=>by cases h
 | e::l,cnt,i,p,h=>by
  unfold rep at h;by_cases a:Uk i cnt e=0
  ·rw[jTj a] at h;exact QrD l _ _ p h
  ·rw[jFj a] at h;cases h;exact a
theorem QqX:∀(l cnt:List Ev) (i:Nat) (c:List Ev),OkL cnt->cnt.length<=i->rep i cnt l=.inr c->OkL c/\c.length<=i+l.length
 | [],cnt,i,c,h1,h2,h=>by cases h;exact⟨h1,by simpa using h2⟩
 | e::l,cnt,i,c,h1,h2,h=>by
  unfold rep at h;by_cases a:Uk i cnt e=0
  ·rw[jTj a] at h;obtain⟨b,d⟩:=Qdv h1 h2 a;obtain⟨f,g⟩:=QqX l _ _ c b d h;exact⟨f,by simp;omega⟩
  ·rw[jFj a] at h;cases h
theorem QrE {n:Nat}(f:100<=n)(l:List Ev)(d:l.length<=30)(g:∀e,e∈l->QnI e):Qn8 n (l.map Q5)=some (repD (rep 0 [] l)):=by
 unfold Qn8;rw[Qsh f l d g,jBj];cases hr:rep 0 [] l with
 | inl p =>
  have hp:=QrD _ _ _ _ hr;unfold cntD;dsimp only;rw[jFj hp];rfl
 | inr c =>
  have hc:=(QqX l [] 0 c wD (jLj 0) hr).2;have b:=Qn6 c;have a:(((allD c).length:Int) - 1)=(c.length:Int):=by rw[Qn6];omega
  unfold cntD;dsimp only;rw[jTj rfl,a,jTj (by unfold Qg;omega),QqZ];by_cases h:c=[]
  ·rw[jTj (jDj h),jTj (Int.natCast_nonneg _),h];rfl
  ·rw[jFj (by simpa using h),elA h,jBj];rfl
def shG (_:Unit)(s:jSj):Unit⊕(Unit⊕Unit):=if s.size>40 then .inr (.inl ()) else .inl ()
theorem QrB:∀(l:List jSj),Kw shG (fun _=>.inr ()) l ()=if l.all (fun s=>decide (s.size<=40))=true then .inr () else .inl ()
 | []=>rfl
 | s::l=>by
  unfold Kw shG;by_cases h:s.size>40
  ·rw[jTj h];simp;omega
  ·rw[jFj h];have:decide (s.size<=40)=true:=jDj (by omega);simp only[List.all_cons,this,Bool.true_and];exact QrB l
instance (e:Ev):Decidable (QnI e):=by unfold QnI;infer_instance
def evG (_:Unit)(e:Ev):Unit⊕(Unit⊕Unit):=if QnI e then .inl () else .inr (.inl ())
theorem Qso:∀(l:List Ev),Kw evG (fun _=>.inr ()) l ()=if ∀e,e∈l->QnI e then .inr () else .inl ()
 | []=>by unfold Kw;rw[jTj (fun e h=>(List.not_mem_nil h).elim)]
 | e::l=>by
  unfold Kw evG;by_cases h:QnI e
  ·rw[jTj h];simp only;have d:=Qso l;unfold evG at d;rw[d];by_cases b:∀e,e∈l->QnI e
   ·rw[jTj b,jTj (fun x a=>by
     obtain rfl|a:=List.mem_cons.1 a
     ·exact h
     ·exact b x a)]
   ·rw[jFj b,jFj (fun c=>b fun x a=>c x (jmj _ a))]
  ·rw[jFj h,jFj (fun c=>h (c e jMj))]
theorem QqW {n:Nat}(z:100<=n)(l:List Ev)(b:Nat)(x:b<=50):Qnu n (l.map Q5) (b:Int)=some (decide (l.length<=b/\∀e,e∈l->QnI e)):=by
 unfold Qnu;by_cases r:l.length<=b
 ·rw[jFj (by rw[jlj];omega)];have q:=Vr (step:=QmK n (l.map Q5)) evG (fun _=>.inr ()) (fun i _=>(i:Int)) l (fun _ _=>True)
   (fun i _ e c _=>by
    have hi:=(jGj c).1;have t:=fun(w:e.2.2.1.length<=6)=>Vr (step:=QmL n (l.map Q5) (i:Int)) shG (fun _=>.inr ()) (fun j _=>(j:Int)) e.2.2.1 (fun _ _=>True)
     (fun j _ s d _=>by
      have y:=(jGj d).1;unfold shG QmL;by_cases h:s.size>40
      ·rw[jTj h];simp only;rw[el_E c,jBj,jTj (ZF d),el_S d,jBj,jTj (by omega)]
      ·rw[jFj h];refine⟨?_,trivial⟩;rw[el_E c,jBj,jTj (ZF d),el_S d,jBj,jFj (by omega),jTj (by unfold Qg;omega)];rfl)
     (fun s _=>by unfold QmL;rw[el_E c,jBj,jFj (by simp)]) (s:=()) (k:=n) trivial (by omega)
    unfold evG;by_cases h:QnI e
    ·rw[jTj h];refine⟨?_,trivial⟩;obtain⟨m,g,o,p,u⟩:=h;have f:=t g;rw[QrB,jTj (List.all_eq_true.2 fun s a=>jDj (u s a))] at f;unfold QmK;rw[jTj (ZF c),el_E c,jBj];dsimp only;rw[jFj (by omega),jFj (by rw[jlj];omega),jFj (by rw[jlj];omega),jFj (by omega),show QU (QmL n (l.map Q5) (i:Int)) n 0=_ from f,jBj];dsimp only;rw[jTj (by unfold Qg;omega)];rfl
    ·rw[jFj h];unfold QmK;dsimp only;rw[jTj (ZF c),el_E c,jBj];dsimp only;by_cases m:e.2.1.size<=40
     ·rw[jFj (by omega)];by_cases g:e.2.2.1.length<=6
      ·rw[jFj (by rw[jlj];omega)];by_cases o:e.2.2.2.1.length<=8
       ·rw[jFj (by rw[jlj];omega)];by_cases p:e.2.2.2.2.size<=200
        ·have f:=t g;rw[QrB,jFj (fun v=>h ⟨m,g,o,p,fun s a=>of_decide_eq_true (List.all_eq_true.1 v s a)⟩)] at f;rw[jFj (by omega),show QU (QmL n (l.map Q5) (i:Int)) n 0=_ from f,jBj]
        ·rw[jTj (by omega)]
       ·rw[jTj (by rw[jlj];omega)]
      ·rw[jTj (by rw[jlj];omega)]
     ·rw[jTj (by omega)])
   (fun s _=>by unfold QmK;rw[jFj (by simp)]) (s:=()) (k:=n) trivial (by omega)
  rw[show QU (QmK n (l.map Q5)) n 0=_ from q,Qso,jBj];by_cases a:∀e,e∈l->QnI e
  ·rw[jTj a,jDj ⟨r,a⟩]
  ·rw[jFj a,jEj (fun h=>a h.2)]
 ·rw[jTj (by rw[jlj];omega),jEj (fun h=>r h.1)]
theorem Qpw {n:Nat}(l:List jSj)(c:l.length<=5000)(b:l.length<n):Qnq n (l.map Sd) (l.map Sd)=some true:=by
 unfold Qnq;rw[jTj rfl];have q:=Vr (step:=Qm3 n (l.map Sd) (l.map Sd)) (E:=Unit⊕Unit) (fun(_:Unit) (_:jSj)=>.inl ()) (fun _=>.inr ()) (fun i _=>(i:Int)) l (fun _ _=>True)
  (fun i _ s a _=>by have hi:=(jGj a).1;refine⟨?_,trivial⟩;unfold Qm3;rw[jTj (ZF a),el_S a,jBj,jBj,jFj (by rw[beqS];simp),jTj (by unfold Qg;omega)];rfl)
  (fun s _=>by unfold Qm3;rw[jFj (by simp)]) (s:=()) (k:=n) trivial b
 have e:∀(l:List jSj),Kw (E:=Unit⊕Unit) (fun(_:Unit) (_:jSj)=>.inl ()) (fun _=>.inr ()) l ()=.inr ():=by
  intro l;induction l with
  | nil=>rfl
  | cons x l ih=>exact ih
 rw[e] at q;rw[show QU (Qm3 n (l.map Sd) (l.map Sd)) n 0=_ from q];rfl
theorem Qre {n:Nat}(l:List Int)(c:l.length<=5000)(b:l.length<n):KP n (l.map I) (l.map I)=some true:=by
 unfold KP;rw[jTj rfl];have q:=Vr (step:=Uv n (l.map I) (l.map I)) (E:=Unit⊕Unit) (fun(_:Unit) (_:Int)=>.inl ()) (fun _=>.inr ()) (fun i _=>(i:Int)) l (fun _ _=>True)
  (fun i _ s a _=>by have hi:=(jGj a).1;refine⟨?_,trivial⟩;unfold Uv;rw[jTj (ZF a),Ei a,jBj,jBj,jTj rfl,jTj (by unfold Qg;omega)];rfl)
  (fun s _=>by unfold Uv;rw[jFj (by simp)]) (s:=()) (k:=n) trivial b
 have e:∀(l:List Int),Kw (E:=Unit⊕Unit) (fun(_:Unit) (_:Int)=>.inl ()) (fun _=>.inr ()) l ()=.inr ():=by
  intro l;induction l with
  | nil=>rfl
  | cons x l ih=>exact ih
 rw[e] at q;rw[show QU (Uv n (l.map I) (l.map I)) n 0=_ from q];rfl
theorem QqK {n:Nat}(l:List Ev)(d:∀e,e∈l->e.2.2.1.length<=60/\e.2.2.2.1.length<=60)(g:l.length<=5000)(b:l.length<n)(c:100<=n):Qm2 n (l.map Q5) (l.map Q5)=some true:=by
 unfold Qm2;rw[jTj rfl];have q:=Vr (step:=QmU n (l.map Q5) (l.map Q5)) (E:=Unit⊕Unit) (fun(_:Unit) (_:Ev)=>.inl ()) (fun _=>.inr ()) (fun i _=>(i:Int)) l (fun _ _=>True)
  (fun i _ e a _=>by have hi:=(jGj a).1;obtain⟨b1,f⟩:=d e (jgj a);refine⟨?_,trivial⟩;unfold QmU;rw[jTj (ZF a),el_E a,jBj,jBj];dsimp only;rw[jTj rfl,jFj (by rw[beqS];simp),Qpw _ (by omega) (by omega),jBj,jTj rfl,Qre _ (by omega) (by omega),jBj,jTj rfl,jFj (by rw[beqS];simp),jTj (by unfold Qg;omega)];rfl)
  (fun s _=>by unfold QmU;rw[jFj (by simp)]) (s:=()) (k:=n) trivial b
 have e:∀(l:List Ev),Kw (E:=Unit⊕Unit) (fun(_:Unit) (_:Ev)=>.inl ()) (fun _=>.inr ()) l ()=.inr ():=by
  intro l;induction l with
  | nil=>rfl
  | cons x l ih=>exact ih
 rw[e] at q;rw[show QU (QmU n (l.map Q5) (l.map Q5)) n 0=_ from q];rfl
theorem Qsi {n:Nat}(f:Int×Int×jVj×jVj×wq)(ms:List Mir)(d:f.2.2.2.2.2.2.2.2.2.2.2.2.1=ms.map Q1)(j:ms.length<=4000)(g:ms.length<n) :
  QU (Qm6 n f) n (.inl 0)=some (if ms.filter isA=[] then .inl () else .inr ((ms.filter isA).map Q1)):=by
 have q:=Vr (step:=Qm6 n f) (E:=Unit⊕jVj) (fun(s:List Mir) (m:Mir)=>.inl (if isA m=true then s++[m] else s)) (fun s=>if s=[] then .inl () else .inr (s.map Q1))
  (fun i s=>if s=[] then .inl (i:Int) else .inr ((i:Int),s.map Q1)) ms (fun i s=>s.length<=i)
  (fun i s m c o=>by
   have hi:=(jGj c).1;refine⟨?_,by
    show(if isA m=true then s++[m] else s).length<=i+1;split
    ·rw[jaj,List.length_singleton];omega
    ·omega⟩
   by_cases b:s=[]
   ·subst b;rw[jTj rfl];unfold Qm6;dsimp only;rw[d,jTj (ZF c),jTj ⟨Int.natCast_nonneg i,ZF c⟩,Zc unM c,jBj];unfold isA;by_cases a:m.2.2.2.2.2=true
    ·rw[jTj a,jTj a,jTj (by unfold Qg;omega),jFj (by simp)];rfl
    ·rw[jFj a,jFj a,jTj (by unfold Qg;omega),jTj rfl];rfl
   ·rw[jFj b];unfold Qm6;dsimp only;rw[d,jTj (ZF c),jTj ⟨Int.natCast_nonneg i,ZF c⟩,Zc unM c,jBj];unfold isA;by_cases a:m.2.2.2.2.2=true
    ·rw[jTj a,jTj a,jTj (UO (by decide) (by rw[jlj];omega)),jTj (by unfold Qg;omega),jFj (by simp),List.map_append];rfl
    ·rw[jFj a,jFj a,jTj (by unfold Qg;omega),jFj b];rfl)
  (fun s _=>by
   by_cases b:s=[]
   ·subst b;rw[jTj rfl,jTj rfl];unfold Qm6;dsimp only;rw[d,jFj (by simp)]
   ·rw[jFj b,jFj b];unfold Qm6;dsimp only;rw[d,jFj (by simp)]) (s:=[]) (k:=n) (jLj _) g
 have e:∀(l:List Mir) (s:List Mir),Kw (E:=Unit⊕jVj) (fun(s:List Mir) (m:Mir)=>.inl (if isA m=true then s++[m] else s)) (fun s=>if s=[] then .inl () else .inr (s.map Q1)) l s=(if s++l.filter isA=[] then .inl () else .inr ((s++l.filter isA).map Q1)):=by
  intro l;induction l with
  | nil=>intro s;simp[Kw]
  | cons x l ih =>
   intro s;show Kw (E:=Unit⊕jVj) (fun(s:List Mir) (m:Mir)=>.inl (if isA m=true then s++[m] else s)) (fun s=>if s=[] then .inl () else .inr (s.map Q1)) l (if isA x=true then s++[x] else s)=_;rw[ih];by_cases h:isA x=true
   ·rw[jTj h,List.filter_cons_of_pos h,List.append_assoc];rfl
   ·rw[jFj h,List.filter_cons_of_neg h]
 rw[e] at q;exact q
theorem QrY {n:Nat}(r:100<=n)(l:List Ev)(m:l.length<=30)(s:∀e,e∈l->QnI e):Qnv n (l.map Q5)=some (match rep 0 [] l with
  | .inr c=>((kD (QN c).mirrors).map Sd,0)
  | .inl p=>([],p.2)):=by
 have h:=EZ r l m s;unfold Qnv;cases hr:rep 0 [] l with
 | inl p =>
  obtain⟨i,err⟩:=p;rw[hr] at h;obtain⟨f,w,g⟩:=h;rw[g,jBj];dsimp only;rw[jFj f]
 | inr c =>
  rw[hr] at h;obtain⟨f,g,t⟩:=h;have a:=qR g (by omega);have o:=a.lenM;rw[f,jBj,jTj rfl,Qsi _ (QN c).mirrors rfl (by omega) (by omega),jBj];by_cases d:(QN c).mirrors.filter isA=[]
  ·rw[jTj d];show some (([]:jVj),(0:Int))=some ((kD (QN c).mirrors).map Sd,0);unfold kD;rw[d];rfl
  ·rw[jFj d];dsimp only;have j:((QN c).mirrors.filter isA).length<=(QN c).mirrors.length:=List.length_filter_le _ _;have q:=Y4 (step:=Qnx n (0,0,l.map Q5,c.map Q5,Wd (QN c)) (((QN c).mirrors.filter isA).map Q1)) (E:=jVj) (fun out=>out) ((QN c).mirrors.filter isA) (fun x=>[Sd x.1]) (fun _=>jLj _)
    (fun i out x b u=>by have hi:=(jGj b).1;unfold Qnx QZ;dsimp only;rw[jTj (ZF b),jTj ⟨Int.natCast_nonneg i,ZF b⟩,Zc unM b,jBj,jBj,jTj (UO (by decide) (by omega)),jTj (by unfold Qg;omega)];rfl)
    (fun out _=>by unfold Qnx;dsimp only;rw[jFj (by simp)]) (k:=n) (by omega)
   rw[q,jBj,wQ];unfold kD;rw[List.map_map];rfl
def cg (a:jSj)(s:Int×Int)(m:Mir):Int×Int:=if m.2.1=a then(s.1+1,if isA m=true then s.2+1 else s.2) else s
def ki (a:jSj)(ms:List Mir):Int×Int:=Kw (E:=Int×Int) (fun s m=>.inl (cg a s m)) (fun s=>s) ms (0,0)
theorem Qiu {a:jSj}{s:Int×Int}{m:Mir}{i:Nat}(h:(0<=s.1/\s.1<=(i:Int))/\0<=s.2/\s.2<=(i:Int)):(0<=(cg a s m).1/\(cg a s m).1<=((i+1:Nat):Int))/\0<=(cg a s m).2/\(cg a s m).2<=((i+1:Nat):Int):=by
 unfold cg;split
 ·split
  ·simp only[Int.natCast_add,Int.natCast_one];omega
  ·simp only[Int.natCast_add,Int.natCast_one];omega
 ·simp only[Int.natCast_add,Int.natCast_one];omega
theorem Qit {n:Nat}(a:jSj){g h:jVj}{j l:Int}{o p:Bool}{r t u:Int}{b c:jVj}(ms:List Mir)(F:ms.length<=4000)(y:ms.length<n):Vc n a g h j l o p r t u b (ms.map Q1) c=some (ki a ms):=by
 unfold Vc;have q:=Vr (step:=ZW n a g h j l o p r t u b (ms.map Q1) c) (E:=Int×Int) (fun(s:Int×Int) (m:Mir)=>.inl (cg a s m)) (fun s=>s) (fun i s=>(((i:Int),s.1,s.2):Int×Int×Int)) ms (fun i s=>(0<=s.1/\s.1<=(i:Int))/\0<=s.2/\s.2<=(i:Int))
  (fun i s m f v=>by
   have hi:=(jGj f).1;refine⟨?_,Qiu v⟩;obtain⟨⟨b1,z⟩,A,C⟩:=v;unfold ZW;dsimp only;rw[jTj (ZF f),jTj ⟨Int.natCast_nonneg i,ZF f⟩,Zc unM f,jBj];by_cases d:m.2.1=a
   ·rw[jFj (by rw[beqS,jDj d];decide),jTj (by unfold Qg;omega)];by_cases e:m.2.2.2.2.2=true
    ·rw[jTj e,jTj (by unfold Qg;omega),jTj (by unfold Qg;omega),show cg a s m=(s.1+1,s.2+1) from by unfold cg isA;rw[jTj d,jTj e]];rfl
    ·rw[jFj e,jTj (by unfold Qg;omega),show cg a s m=(s.1+1,s.2) from by unfold cg isA;rw[jTj d,jFj e]];rfl
   ·rw[jTj (by rw[beqS,jEj d];rfl),jTj (by unfold Qg;omega),show cg a s m=s from by unfold cg;rw[jFj d]];rfl)
  (fun s _=>by unfold ZW;dsimp only;rw[jFj (by simp)]) (s:=(0,0)) (by simp) (k:=n) y
 exact(congrArg (fun x:Option (Int×Int)=>x.bind fun w=>some (w.1,w.2)) q)
theorem QrH {n:Nat}(o:100<=n)(l:List Ev)(j:l.length<=30)(q:∀e,e∈l->QnI e)(a:jSj):QnU n (l.map Q5) a=some (match rep 0 [] l with
  | .inr c=>if QD (!ZG (QN c).sectors a) 10=0 then((ki a (QN c).mirrors).1,(ki a (QN c).mirrors).2,0) else(0,0,QD (!ZG (QN c).sectors a) 10)
  | .inl p=>(0,0,p.2)):=by
 have h:=EZ o l j q;unfold QnU;cases hr:rep 0 [] l with
 | inl p =>
  obtain⟨i,err⟩:=p;rw[hr] at h;obtain⟨f,w,g⟩:=h;rw[g,jBj];dsimp only;rw[jFj f]
 | inr c =>
  rw[hr] at h;obtain⟨f,g,r⟩:=h;have b:=qR g (by omega);have m:=b.secs;have k:=b.lenM;rw[f,jBj];dsimp only[Wd];rw[jTj rfl,Wp _ _ (by omega) (by omega),jBj,QR,jBj];by_cases d:QD (!ZG (QN c).sectors a) 10=0
  ·rw[jTj d,jTj d,Qit a _ (by omega) (by omega),jBj]
  ·rw[jFj d,jFj d]
theorem QrX {ms:List Mir}{a:jSj}(h:ZG (nmM ms) a=true):(mAt ms a).1=a:=by
 obtain⟨f,g,c⟩:=VM h;obtain⟨i,hi⟩:=Option.isSome_iff_exists.1 (show(pos (nmM ms) a).isSome=true from h);have e:iM ms a=i:=by unfold iM;rw[hi];rfl
 obtain⟨d,b⟩:=uq hi;rw[<-e] at b;unfold nmM at b;rw[List.getElem?_map,c] at b;exact Option.some.inj b
theorem QlW {n:Nat}(f:100<=n)(l:List Ev)(d:l.length<=30)(g:∀e,e∈l->QnI e):QkT n (l.map Q5)=some (repD (rep 0 [] l)):=by
 have h:=EZ f l d g;unfold QkT;cases hr:rep 0 [] l with
 | inl p =>
  obtain⟨i,err⟩:=p;rw[hr] at h;obtain⟨a,w,b⟩:=h;rw[b,jBj];dsimp only;rw[jFj a];rfl
 | inr c =>
  rw[hr] at h;obtain⟨a,b,j⟩:=h;rw[a,jBj,jTj rfl];rfl
inductive Bst where
 | stood
 | aims
 | aimed
 | lit
 | turns
 | turned
 | goes
 | gone
 deriving DecidableEq
def atB:Bst->Int
 | .lit=>0
 | .goes=>0
 | .gone=>0
 | _=>1
def wayB:Bst->List Int
 | .stood=>[]
 | .lit=>[]
 | .aims=>[0]
 | .aimed=>[0]
 | .turns=>[0,1]
 | .turned=>[0,1]
 | .goes=>[1]
 | .gone=>[1]
def QoR:Bst->Int
 | .stood=>0
 | .lit=>0
 | .aims=>2
 | .aimed=>1
 | .turns=>2
 | .turned=>1
 | .goes=>2
 | .gone=>1
def QtG:Bst->Bst
 | .stood=>.stood
 | .lit=>.lit
 | .aims=>.aimed
 | .aimed=>.lit
 | .turns=>.turned
 | .turned=>.goes
 | .goes=>.gone
 | .gone=>.stood
def toF:Bst->Bst
 | .stood=>.aims
 | .aims=>.aims
 | .turns=>.aims
 | s=>s
def toA:Bst->Bst
 | .aims=>.turns
 | s=>s
def dayB (s:Bst):Bool:=match s with
 | .stood=>true
 | .aims=>true
 | .turns=>true
 | _=>false
abbrev Bmr:=jSj×jSj×Bst
def encW (m:Bmr):D:=QmM (m.1,m.2.1,atB m.2.2,(wayB m.2.2).map I,QoR m.2.2,0)
theorem el_W {l:List Bmr}{i:Nat}{m:Bmr}(h:l[i]?=some m):el QmX (l.map encW) (i:Int)=some (m.1,m.2.1,atB m.2.2,(wayB m.2.2).map I,QoR m.2.2,0):=by unfold el;rw[jTj (Int.natCast_nonneg i),jtj,U4,List.getElem?_map,h];rfl
theorem QsJ (a:jSj):(a==a)=true:=by obtain⟨l⟩:=a;show(l==l)=true;simp
theorem Qn5 (n:Nat)(b:Bool)(e:Int):Qr n b e=some (QD b e):=by unfold Qr QD;cases b<;>rfl
theorem Qqa (n:Nat)(x lo hi:Int):Qnm n x lo hi=some (inR x lo hi):=by
 unfold Qnm inR;rw[Qn5,Qn5];by_cases h:x<lo
 ·simp[h,QD]
 ·by_cases a:x>hi
  ·simp[h,a,QD]
  ·simp[h,a,QD]
theorem Qqo (l:List Int)(h:∀x,x∈l->x=0)(n:l.length<=100):Qi 5000 (l.map I)=some 0:=by
 unfold Qi;have m:∀(a:List Int) (i k:Nat),l.drop i=a->i<=l.length->a.length<k->QU (Q6 5000 (l.map I)) k (i:Int)=some (.inr ()):=by
  intro a;induction a with
  | nil =>
   intro i k b hi e;obtain⟨k,rfl⟩:∃t,k=t+1:=⟨k - 1,by omega⟩
   have g:=List.drop_eq_nil_iff.1 b;refine ZP ?_;unfold Q6;rw[jFj (by rw[jlj];omega)]
  | cons x a ih =>
   intro i k b hi e;obtain⟨k,rfl⟩:∃t,k=t+1:=⟨k - 1,by omega⟩
   have c:l[i]?=some x:=by have:=congrArg List.head? b;rwa [List.head?_drop] at this
   have d : l.drop (i+1)=a:=by rw[<-List.drop_drop,b];rfl
   have j:=(jGj c).1;have f:=h x (jgj c);refine(W8 ?_).trans (ih (i+1) k d (by omega) (by simpa using e));unfold Q6;rw[jTj (ZF c),Ei c,jBj,jTj f,jTj (inI (by omega) (by omega))];rfl
 have:=m l 0 5000 rfl (Nat.zero_le _) (by omega);rw[show(0:Int)=((0:Nat):Int) from rfl,this];rfl
theorem Qqe (s:Bst)(a b:jSj):Qnf 5000 a b (atB s) ((wayB s).map I) (QoR s) 0=some (a,b,atB s,(wayB s).map I,QoR s,0):=by cases s<;>rfl
theorem Qtu (s:Bst)(a b:jSj):Qno 5000 a b (atB s) ((wayB s).map I) (QoR s) 0=some 0:=by cases s<;>kernel_rfl
theorem QsB (s:Bst)(a b:jSj):∃t,Qnc 5000 a b (atB s) ((wayB s).map I) (QoR s) 0=some t/\QoF 5000 t=some 1:=by
 cases s;case stood=>exact⟨1,rfl,rfl⟩
 case aims=>exact⟨0,rfl,rfl⟩
 case aimed=>exact⟨0,rfl,rfl⟩
 case lit=>exact⟨0,rfl,rfl⟩
 case turns=>exact⟨0,rfl,rfl⟩
 case turned=>exact⟨0,rfl,rfl⟩
 case goes=>exact⟨1,rfl,rfl⟩
 case gone=>exact⟨1,rfl,rfl⟩
theorem QtH {s:Bst}(h:dayB s=true)(a b:jSj):Qns 5000 a b (atB s) ((wayB s).map I) (QoR s) 0 0=some (a,b,atB (toF s),(wayB (toF s)).map I,QoR (toF s),0,true):=by
 cases s;case stood=>kernel_rfl
 case aims=>kernel_rfl
 case turns=>kernel_rfl
 all_goals cases h
theorem QtI {s:Bst}(h:dayB s=true)(a b:jSj):Qns 5000 a b (atB s) ((wayB s).map I) (QoR s) 0 1=some (a,b,atB (toA s),(wayB (toA s)).map I,QoR (toA s),0,true):=by
 cases s;case stood=>kernel_rfl
 case aims=>kernel_rfl
 case turns=>kernel_rfl
 all_goals cases h
theorem Qqt (s:Bst)(a b:jSj):Qnl 5000 a b (atB s) ((wayB s).map I) (QoR s) 0=some (decide (s=.stood)):=by cases s<;>kernel_rfl
theorem QoI {step:Int×jVj->Option (Int×jVj⊕jVj)}(ms:List Bmr)
  (b:∀(i:Nat) (out:jVj) (m:Bmr),ms[i]?=some m->out.length<=i->step ((i:Int),out)=some (.inl (((i+1:Nat):Int),out++[encW m])))
  (a:∀out,out.length<=ms.length->step ((ms.length:Int),out)=some (.inr out)) (c:ms.length<=16):QU step 5000 (0,[])=some (ms.map encW):=by
 have:=Y4 (step:=step) (E:=jVj) (fun out=>out) ms (fun m=>[encW m]) (fun _=>jLj _) b a (k:=5000) (by omega);rw[this,wQ]
theorem Qsr {ms:List Bmr}(b:ms.length<=16)(t q:Int):Qnz 5000 t q (ms.map encW)=some (t,q,ms.map encW):=by
 unfold Qnz;rw[QoI (step:=qs 5000 t q (ms.map encW)) ms (fun i out m a d=>by
  have c:=(jGj a).1;unfold qs;dsimp only;rw[jTj (ZF a),el_W a,jBj,Qqe,jBj,jTj (UO (by decide) (by omega)),jTj (inI (by omega) (by omega))];rfl)
  (fun out _=>by unfold qs;dsimp only;rw[jFj (by simp)]) b];rfl
def encT (s:jSj):D:=.tup [.v (.string s),B true]
theorem QsS (a b:jSj):Y1 (.string a) (.string b)=some (decide (a=b)):=by
 show some (a==b)=_;congr 1
 rw[Bool.eq_iff_iff,decide_eq_true_eq];exact⟨QkF,fun h=>by rw[h];exact QsJ b⟩
theorem entT (s:jSj):Go.SX.keyOf (encT s)=some (.string s,B true):=rfl
theorem Qts (a:jSj):∀l:List jSj,mok (.string a) (l.map encT)=true
 | []=>rfl
 | s::l=>by rw[jCj];unfold mok;rw[entT];dsimp only;rw[QsS,Qts a l];rfl
theorem Qsu (a:jSj):∀l:List jSj,a∉l->W5 (.string a) (l.map encT)=none
 | [],_=>rfl
 | s::l,h=>by rw[jCj];unfold W5;rw[entT];dsimp only;rw[QsS,jEj (fun e=>h (by rw[e];exact jMj))];exact Qsu a l fun b=>h (jmj _ b)
theorem QsX (a:jSj):∀l:List jSj,a∉l->E7 (.string a) (B true) (l.map encT)=(l++[a]).map encT
 | [],_=>rfl
 | s::l,h=>by rw[jCj];unfold E7;rw[entT];dsimp only;rw[QsS,jEj (fun e=>h (by rw[e];exact jMj))];show encT s::E7 (.string a) (B true) (l.map encT)=_;rw[QsX a l fun b=>h (jmj _ b)];rfl
def nmB (ms:List Bmr):List jSj:=ms.map fun x=>x.1
structure OkF (ms:List Bmr):Prop where
 len:ms.length<=16
 nm:∀m,m∈ms->Yw m.1=true/\Yw m.2.1=true
 nd:(nmB ms).Nodup
theorem Qr7 {s:jSj}(h:Yw s=true):V4 5000 s=some 0:=by
 have a:s.size<=24:=by unfold Yw at h;simp only[jAj,decide_eq_true_eq] at h;omega
 unfold V4;rw[QgI (n:=5000) (s:=s) (by omega),jBj,h,Qn5,jBj];rfl
theorem Qq2 {ms:List Bmr}(h:OkF ms){t:Int}(g:0<=t)(q:Int):∀(a pre:List Bmr) (k:Nat),ms=pre++a->a.length<k->QU (Qm5 5000 t q (ms.map encW)) k ((pre.length:Int),(nmB pre).map encT)=some (.inr ())
 | _,_,0,_,hk=>absurd hk (by omega)
 | [],pre,k+1,hd,_=>by rw[List.append_nil] at hd;refine ZP ?_;unfold Qm5;dsimp only;rw[jFj (by rw[jlj,hd];omega)]
 | m::a,pre,k+1,hd,hk=>by
  have d:ms[pre.length]?=some m:=by rw[hd,List.getElem?_append_right (jLj _),Nat.sub_self];rfl
  obtain⟨i,j⟩:=h.nm m (jgj d);have n:=(jGj d).1;have u:=h.len;have c:m.1∉nmB pre:=fun f=>by have b:=h.nd;rw[hd] at b;unfold nmB at b f;rw[List.map_append,List.nodup_append] at b;exact b.2.2 _ f _ (by rw[jCj];exact jMj) rfl
  obtain⟨v,r,s⟩:=QsB m.2.2 m.1 m.2.1;have p:=Qq2 h g q a (pre++[m]) k (by rw[hd,List.append_assoc];rfl) (by simpa using hk);refine(W8 ?_).trans p;unfold Qm5;dsimp only;rw[jTj (ZF d),el_W d,jBj,Qr7 i,jBj,jTj (Qts _ _),Qsu _ _ c,jFj (by decide),Qn5,jBj,Qr7 j,jBj,Qtu,jBj,Qqa,jBj];have l:=Qqo [0,QD false 9,0,0,inR 0 0 t] (fun x d=>by have o:inR 0 0 t=0:=WS.2 ⟨Int.le_refl _,g⟩;rw[o] at d;simp only[List.mem_cons,List.not_mem_nil,or_false] at d;obtain rfl|rfl|rfl|rfl|rfl:=d<;>rfl) (by simp)
  rw[show([I 0,I (QD false 9),I 0,I 0,I (inR 0 0 t)]:jVj)=[0,QD false 9,0,0,inR 0 0 t].map I from rfl,l,jBj,jTj rfl,r,jBj,s,jBj,jFj (by decide),jTj (inI (by omega) (by omega)),QsX _ _ c];have e:nmB (pre++[m])=nmB pre++[m.1]:=by unfold nmB;rw[List.map_append];rfl
  rw[e,jaj];rfl
theorem Qo0 {ms:List Bmr}(h:OkF ms){t:Int}(e:0<=t/\t<=1000):QmO 5000 t 100 (ms.map encW)=some 0:=by
 have f:=h.len;unfold QmO;rw[show Qow 5000=some 0 from rfl,jBj,Qqa,jBj,Qqa,jBj,Qn5,jBj];have d:=Qqo [0,inR t 0 10000000,inR 100 1 100,QD (decide (((ms.map encW).length:Int)>16)) 5] (fun x b=>by have c:inR t 0 10000000=0:=WS.2 (by omega);rw[c,jEj (by rw[jlj];omega)] at b;simp only[List.mem_cons,List.not_mem_nil,or_false] at b;obtain rfl|rfl|rfl|rfl:=b<;>rfl) (by simp)
 rw[show([I 0,I (inR t 0 10000000),I (inR 100 1 100),I (QD (decide (((ms.map encW).length:Int)>16)) 5)]:jVj)=[0,inR t 0 10000000,inR 100 1 100,QD (decide (((ms.map encW).length:Int)>16)) 5].map I from rfl,d,jBj,jTj rfl];have:=Qq2 h e.1 100 ms [] 5000 rfl (by omega);have a : QU (Qm5 5000 t 100 (ms.map encW)) 5000 (0,[])=some (.inr ()):=this;rw[a];rfl
theorem Qtj (ms:List Bmr):(nmB ms).length=ms.length:=by unfold nmB;simp
theorem QrU {ms:List Bmr}(h:OkF ms)(k:ms.length<16){a b:jSj}(d:Yw a=true)(f:Yw b=true)(g:a∉nmB ms):OkF (ms++[(a,b,Bst.stood)]):=by
 refine⟨by rw[jaj];simp;omega,fun m c=>?_,?_⟩
 ·obtain c|c:=List.mem_append.1 c
  ·exact h.nm m c
  ·rw[List.mem_singleton.1 c];exact⟨d,f⟩
 ·have e:nmB (ms++[(a,b,Bst.stood)])=nmB ms++[a]:=by unfold nmB;rw[List.map_append];rfl
  rw[e,List.nodup_append];exact⟨h.nd,by simp,fun x i y j=>by rw[List.mem_singleton.1 j];exact fun e=>g (e ▸ i)⟩
theorem QrI {ms:List Bmr}(h:OkF ms)(o:ms.length<16){a b:jSj}(k:Yw a=true)(l:Yw b=true)(q:a∉nmB ms) :
  QnR 5000 0 100 (ms.map encW) a b 1 [] 0 0=some (0,100,(ms++[(a,b,Bst.stood)]).map encW,0):=by
 have f:=QrU h o k l q;have e:ms.map encW++[(.agg [.v (.string a),.v (.string b),I 1,.lst false 1 [],I 0,I 0]:D)]=(ms++[(a,b,Bst.stood)]).map encW:=by rw[List.map_append];rfl
 have g:=QoI (step:=Qny 5000 0 100 (ms.map encW) a b 1 [] 0 0) ms (fun i out m c r=>by
  have p:=(jGj c).1;unfold Qny;dsimp only;rw[jTj (ZF c),el_W c,jBj,Qqe,jBj,jTj (UO (by decide) (by omega)),jTj (inI (by omega) (by omega))];rfl)
  (fun out _=>by unfold Qny;dsimp only;rw[jFj (by simp)]) (by omega)
 have j:=Qsr f.len 0 100;unfold QnR;rw[Qo0 h (by decide),jBj,Qn5,jBj,show Qn0 5000 1=some true from rfl,jBj,Qn5,jBj];have n:=Qqo [0,QD (((ms.map encW).length:Int)==16) 5,QD (!true) 10] (fun x d=>by rw[show(((ms.map encW).length:Int)==16)=false by rw[beq_eq_false_iff_ne,jlj];omega] at d;simp only[List.mem_cons,List.not_mem_nil,or_false] at d;obtain rfl|rfl|rfl:=d<;>rfl) (by simp)
 rw[show([I 0,I (QD (((ms.map encW).length:Int)==16) 5),I (QD (!true) 10)]:jVj)=[0,QD (((ms.map encW).length:Int)==16) 5,QD (!true) 10].map I from rfl,n,jBj,jTj rfl];rw[show Qnl 5000 a b 1 [] 0 0=some true from Qqt .stood a b,jBj,jTj rfl,g,jBj,jTj (UO (by decide) (by rw[jlj];omega)),e,Qo0 f (by decide),jBj,jTj rfl,j,jBj]
theorem Qru {ms:List Bmr}(o:ms.length<=16)(t q:Int)(a:jSj){i:Nat}{m:Bmr}(b:ms[i]?=some m)(g:m.1=a)(c:(nmB ms).Nodup):∀(d j k:Nat),j+d=i->d<k->QU (Qne 5000 t q (ms.map encW) a) k (j:Int)=some (Sum.inl (i:Int))
 | _,_,0,_,h=>absurd h (by omega)
 | 0,j,k+1,hj,_=>by
  have e:j=i:=by omega
  subst e;refine ZP ?_;unfold Qne;rw[jTj (ZF b),el_W b,jBj];dsimp only;rw[g,jTj (by simp)]
 | d+1,j,k+1,hj,hk=>by
  have p:=(jGj b).1;have f:ms[j]?=some (ms[j]'(by omega)):=jej (by omega);generalize ms[j]'(by omega)=y at f;have r:¬(y.1.toList==a.toList)=true:=by
   rw[beqS,decide_eq_true_eq];intro e;have l:(nmB ms)[j]?=some a:=by unfold nmB;rw[List.getElem?_map,f,<-e];rfl
   have n:(nmB ms)[i]?=some a:=by unfold nmB;rw[List.getElem?_map,b,<-g];rfl
   have:=(List.getElem?_inj (by rw[Qtj];omega) c).1 (l.trans n.symm);omega
  refine(W8 ?_).trans (Qru o t q a b g c d (j+1) k (by omega) (by omega));unfold Qne;rw[jTj (ZF f),el_W f,jBj];dsimp only;rw[jFj r,jTj (inI (by omega) (by omega))];rfl
theorem Qsf {ms:List Bmr}(c:ms.length<=16)(t q:Int)(a s:jSj)(x:jSj×jSj×Int×jVj×Int×Int×Bool):QU (Qm4 5000 t q (ms.map encW) a s false x) 5000 (0,[])=some (ms.map encW) :=
 QoI (step:=Qm4 5000 t q (ms.map encW) a s false x) ms (fun i out m b e=>by
  have d:=(jGj b).1;unfold Qm4;dsimp only;rw[jTj (ZF b),el_W b,jBj,Qqe,jBj,jTj (UO (by decide) (by omega)),jTj (inI (by omega) (by omega))];rfl)
  (fun out _=>by unfold Qm4;dsimp only;rw[jFj (by simp)]) c
theorem Qrt {ms:List Bmr}(h:OkF ms){i:Nat}{m:Bmr}(j:ms[i]?=some m){s:jSj}{to:Int}{c:Bst}(o:Qon 5000 s=some to)(e:to=0\/to=1)
  (d:Qns 5000 m.1 m.2.1 (atB m.2.2) ((wayB m.2.2).map I) (QoR m.2.2) 0 to=some (m.1,m.2.1,atB c,(wayB c).map I,QoR c,0,true)) :
  Qm7 5000 0 100 (ms.map encW) m.1 s false=some (0,100,(ms.set i (m.1,m.2.1,c)).map encW,0):=by
 have f:=h.len;have g:=(jGj j).1;have a:QnN 5000 0 100 (ms.map encW) m.1=some (i:Int):=by unfold QnN;rw[show(0:Int)=((0:Nat):Int) from rfl,Qru f _ 100 m.1 j rfl h.nd i 0 5000 (by omega) (by omega)];rfl
 have b:QoX 5000 to=some true:=by obtain rfl|rfl:=e<;>rfl
 have n:QnM 5000 0 100 (ms.map encW) m.1 s false=some (0,100,(ms.set i (m.1,m.2.1,c)).map encW,0):=by
  unfold QnM;rw[a,jBj,o,jBj,Qn5,jBj,Qn5,jBj];have l:=Qqo [QD (decide ((i:Int)<0)) 10,QD (decide (to<0)) 10] (fun x k=>by rw[jEj (by omega),jEj (by omega)] at k;simp only[List.mem_cons,List.not_mem_nil,or_false] at k;obtain rfl|rfl:=k<;>rfl) (by simp)
  rw[show([I (QD (decide ((i:Int)<0)) 10),I (QD (decide (to<0)) 10)]:jVj)=[QD (decide ((i:Int)<0)) 10,QD (decide (to<0)) 10].map I from rfl,l,jBj,jTj rfl,b,jBj,jTj rfl,el_W j,jBj];dsimp only;rw[d,jBj,jTj rfl,jFj (by simp),Qsf f,jBj,jTj (by rw[jlj];omega),jTj (by rw[jlj,jtj];exact g),jtj];show some (0,100,List.set (ms.map encW) i (encW (m.1,m.2.1,c)),0)=_;rw[List.map_set]
 unfold Qm7;rw[Qo0 h (by decide),jBj,jTj rfl,Qsr f,jBj];dsimp only;rw[n,jBj];dsimp only;rw[jTj rfl]
theorem Qtl {ms:List Bmr}(h:OkF ms){i:Nat}{m:Bmr}(b:ms[i]?=some m)(a:dayB m.2.2=true):Qm7 5000 0 100 (ms.map encW) m.1 ⟨#[102]⟩ false=some (0,100,(ms.set i (m.1,m.2.1,toF m.2.2)).map encW,0) :=
 Qrt h b (to:=0) rfl (.inl rfl) (QtH a _ _)
theorem Qsw {ms:List Bmr}(h:OkF ms){i:Nat}{m:Bmr}(b:ms[i]?=some m)(a:dayB m.2.2=true):Qm7 5000 0 100 (ms.map encW) m.1 ⟨#[97]⟩ false=some (0,100,(ms.set i (m.1,m.2.1,toA m.2.2)).map encW,0) :=
 Qrt h b (to:=1) rfl (.inr rfl) (QtI a _ _)
def QoY (m:Bmr):Bmr:=(m.1,m.2.1,QtG m.2.2)
theorem QrF {ms:List Bmr}(h:OkF ms)(f:Bmr->Bmr)(a:∀m,(f m).1=m.1/\(f m).2.1=m.2.1):OkF (ms.map f):=by
 refine⟨by rw[jlj];exact h.len,fun m b=>?_,?_⟩
 ·obtain⟨x,c,rfl⟩:=List.mem_map.1 b;rw[(a x).1,(a x).2];exact h.nm x c
 ·have e:nmB (ms.map f)=nmB ms:=by unfold nmB;rw[List.map_map];exact List.map_congr_left fun m _=>(a m).1
  rw[e];exact h.nd
theorem QsP {t:Int}(l:0<=t/\t<=20)(n:jVj){ms:List Bmr}(j:ms.length<=16){i:Nat}{m:Bmr}(e:ms[i]?=some m){out:jVj}(k:out.length<=i)(f:jVj) :
  QmQ 5000 t 100 f (ms.map encW) ((i:Int),out)=some (.inl (((i+1:Nat):Int),out++[encW (QoY m)])):=by
 have g:=(jGj e).1;have h:((nth (ms.map encW) (Int.toNat (i:Int))).bind QmX)=some (m.1,m.2.1,atB m.2.2,(wayB m.2.2).map I,QoR m.2.2,0):=by rw[jtj,U4,List.getElem?_map,e];rfl
 have c:Wi 80 (out.length+1):=UO (by decide) (by omega);have d:Qg ((i:Int)+1):=inI (by omega) (by omega);unfold QmQ;dsimp only;rw[jTj (ZF e),jTj ⟨Int.natCast_nonneg i,ZF e⟩,h,jBj];dsimp only;rw[jTj (inI (by omega) (by omega)),jFj (by omega)];obtain⟨a,b,s⟩:=m;dsimp only;cases s;case stood =>
  refine(jTj (show((0:Nat):Int)=0 from rfl)).trans ?_;rw[jTj c,jTj d];rfl
 case lit =>
  refine(jTj (show((0:Nat):Int)=0 from rfl)).trans ?_;rw[jTj c,jTj d];rfl
 case aims =>
  refine(jFj (show ¬((1:Nat):Int)=0 by decide)).trans ?_;refine(jTj (show Qg (2 - 1) by decide)).trans ?_;refine(jTj (show(2 - 1:Int)>0 by decide)).trans ?_;rw[jTj c,jTj d];rfl
 case turns =>
  refine(jFj (show ¬((2:Nat):Int)=0 by decide)).trans ?_;refine(jTj (show Qg (2 - 1) by decide)).trans ?_;refine(jTj (show(2 - 1:Int)>0 by decide)).trans ?_;rw[jTj c,jTj d];rfl
 case goes =>
  refine(jFj (show ¬((1:Nat):Int)=0 by decide)).trans ?_;refine(jTj (show Qg (2 - 1) by decide)).trans ?_;refine(jTj (show(2 - 1:Int)>0 by decide)).trans ?_;rw[jTj c,jTj d];rfl
 case aimed =>
  refine(jFj (show ¬((1:Nat):Int)=0 by decide)).trans ?_;refine(jTj (show Qg (1 - 1) by decide)).trans ?_;refine(jFj (show ¬(1 - 1:Int)>0 by decide)).trans ?_;rw[show el V5 ((wayB .aimed).map I) 0=some 0 from rfl,jBj,jTj (by decide),show QmR 5000 (((wayB .aimed).map I).drop (Int.toNat 1))=some [] from rfl,jBj,jFj (by decide),jTj c,jTj d];rfl
 case gone =>
  refine(jFj (show ¬((1:Nat):Int)=0 by decide)).trans ?_;refine(jTj (show Qg (1 - 1) by decide)).trans ?_;refine(jFj (show ¬(1 - 1:Int)>0 by decide)).trans ?_;rw[show el V5 ((wayB .gone).map I) 0=some 1 from rfl,jBj,jTj (by decide),show QmR 5000 (((wayB .gone).map I).drop (Int.toNat 1))=some [] from rfl,jBj,jFj (by decide),jTj c,jTj d];rfl
 case turned =>
  refine(jFj (show ¬((2:Nat):Int)=0 by decide)).trans ?_;refine(jTj (show Qg (1 - 1) by decide)).trans ?_;refine(jFj (show ¬(1 - 1:Int)>0 by decide)).trans ?_;rw[show el V5 ((wayB .turned).map I) 0=some 0 from rfl,jBj,jTj (by decide),show QmR 5000 (((wayB .turned).map I).drop (Int.toNat 1))=some [I 1] from rfl,jBj,jTj (by decide),show el V5 [I 1] 0=some 1 from rfl,jBj,show Qnn 5000 0 1=some 2 from rfl,jBj,jTj c,jTj d];rfl
theorem Qr8 {ms:List Bmr}(b:ms.length<=16){t:Int}(g:0<=t/\t<=20):QmE 5000 t 100 (ms.map encW)=some (t+1,100,(ms.map QoY).map encW):=by
 have d:=QoI (step:=qs 5000 t 100 (ms.map encW)) ms (fun i out m a c=>by
  have f:=(jGj a).1;unfold qs;dsimp only;rw[jTj (ZF a),el_W a,jBj,Qqe,jBj,jTj (UO (by decide) (by omega)),jTj (inI (by omega) (by omega))];rfl)
  (fun out _=>by unfold qs;dsimp only;rw[jFj (by simp)]) b
 have e:=Y4 (step:=QmQ 5000 t 100 (ms.map encW) (ms.map encW)) (E:=jVj) (fun out=>out) ms (fun m=>[encW (QoY m)]) (fun _=>jLj _)
  (fun i out m a c=>QsP g (ms.map encW) b a c (ms.map encW))
  (fun out _=>by unfold QmQ;dsimp only;rw[jFj (by simp)]) (k:=5000) (by omega)
 unfold QmE;rw[d,jBj,jTj (inI (by omega) (by omega)),e,jBj,wQ,List.map_map];rfl
def runM:Nat->List Bmr->List Bmr
 | 0,ms=>ms
 | k+1,ms=>runM k (ms.map QoY)
theorem Qtv {ms:List Bmr}(h:OkF ms):QoO 5000 0 100 (ms.map encW)=some (8,100,(runM 8 ms).map encW,0):=by
 have a:=h.len;have d:=QoI (step:=qs 5000 0 100 (ms.map encW)) ms (fun i out m c l=>by
  have k:=(jGj c).1;unfold qs;dsimp only;rw[jTj (ZF c),el_W c,jBj,Qqe,jBj,jTj (UO (by decide) (by omega)),jTj (inI (by omega) (by omega))];rfl)
  (fun out _=>by unfold qs;dsimp only;rw[jFj (by simp)]) a
 have b:∀(t:Int) (xs:List Bmr),0<=t->t<=20->xs.length<=16->QmE 5000 t 100 (xs.map encW)=some (t+1,100,(xs.map QoY).map encW):=fun t xs e f g=>Qr8 g ⟨e,f⟩;unfold QoO;rw[Qo0 h (by decide),jBj,Qn5,jBj,Qn5,jBj];have j:=Qqo [0,QD false 5,QD (decide ((0:Int)>9999992)) 3] (by decide) (by decide);rw[show([I 0,I (QD false 5),I (QD (decide ((0:Int)>9999992)) 3)]:jVj)=[0,QD false 5,QD (decide ((0:Int)>9999992)) 3].map I from rfl,j,jBj,jTj rfl,d,jBj];rw[b 0 ms (by decide) (by decide) a,jBj];dsimp only;rw[b (0+1) _ (by decide) (by decide) (by simp only[jlj];exact a),jBj];dsimp only;rw[b (0+1+1) _ (by decide) (by decide) (by simp only[jlj];exact a),jBj];dsimp only;rw[b (0+1+1+1) _ (by decide) (by decide) (by simp only[jlj];exact a),jBj];dsimp only;rw[b (0+1+1+1+1) _ (by decide) (by decide) (by simp only[jlj];exact a),jBj];dsimp only;rw[b (0+1+1+1+1+1) _ (by decide) (by decide) (by simp only[jlj];exact a),jBj];dsimp only;rw[b (0+1+1+1+1+1+1) _ (by decide) (by decide) (by simp only[jlj];exact a),jBj];dsimp only;rw[b (0+1+1+1+1+1+1+1) _ (by decide) (by decide) (by simp only[jlj];exact a),jBj];rfl
theorem Qtn:∀(ms:List Bmr),(∀m,m∈ms->dayB m.2.2=true)->runM 8 ms=ms.map fun m=>(m.1,m.2.1,if m.2.2=.aims then Bst.lit else Bst.stood):=by
 intro ms h;show(((((((ms.map QoY).map QoY).map QoY).map QoY).map QoY).map QoY).map QoY).map QoY=_;simp only[List.map_map];refine List.map_congr_left fun m c=>?_;obtain⟨a,b,s⟩:=m;have:=h _ c;cases s;case stood=>rfl
 case aims=>rfl
 case turns=>rfl
 all_goals cases this
theorem Qtz {ms:List Bmr}(h:OkF ms):QoP 5000 8 100 (ms.map encW)=some ((((ms.filter fun m=>decide (m.2.2=.lit)).map fun m=>m.1).map Sd),0):=by
 have j:=h.len;have q:=Y4 (step:=Qn2 5000 8 100 (ms.map encW)) (E:=jVj) (fun out=>out) ms (fun m=>if m.2.2=.lit then[Sd m.1] else[]) (fun m=>by split<;>simp)
  (fun i out m c l=>by
   have f:=(jGj c).1;have g:Wi 16 (out.length+1):=UO (by decide) (by omega);have d:Qg ((i:Int)+1):=inI (by omega) (by omega);unfold Qn2;dsimp only;rw[jTj (ZF c),el_W c,jBj];obtain⟨a,b,s⟩:=m;dsimp only;cases s;case lit =>
    refine(jTj (show((0:Nat):Int)=0 from rfl)).trans ?_;refine(congrArg (fun x:Option (jSj×jSj×Int×Int)=>x.bind _) (show el Qou _ (0:Int)=some (⟨#[102]⟩,⟨#[102,111,99,117,115]⟩,500,500) from rfl)).trans ?_;rw[jBj,jTj (by kernel_rfl),jTj g,jTj d];rfl
   case stood =>
    refine(jTj (show((0:Nat):Int)=0 from rfl)).trans ?_;refine(congrArg (fun x:Option (jSj×jSj×Int×Int)=>x.bind _) (show el Qou _ (1:Int)=some (⟨#[97]⟩,⟨#[115,116,97,110,100,98,121]⟩,400,500) from rfl)).trans ?_;rw[jBj,jFj (by rw[beqS,decide_eq_true_eq];decide),jTj d,jFj (by decide),List.append_nil];rfl
   case aims=>refine(jFj (show ¬((1:Nat):Int)=0 by decide)).trans ?_;rw[jTj d,jFj (by decide),List.append_nil];rfl
   case aimed=>refine(jFj (show ¬((1:Nat):Int)=0 by decide)).trans ?_;rw[jTj d,jFj (by decide),List.append_nil];rfl
   case turns=>refine(jFj (show ¬((2:Nat):Int)=0 by decide)).trans ?_;rw[jTj d,jFj (by decide),List.append_nil];rfl
   case turned=>refine(jFj (show ¬((2:Nat):Int)=0 by decide)).trans ?_;rw[jTj d,jFj (by decide),List.append_nil];rfl
   case goes=>refine(jFj (show ¬((1:Nat):Int)=0 by decide)).trans ?_;rw[jTj d,jFj (by decide),List.append_nil];rfl
   case gone=>refine(jFj (show ¬((1:Nat):Int)=0 by decide)).trans ?_;rw[jTj d,jFj (by decide),List.append_nil];rfl)
  (fun out _=>by unfold Qn2;dsimp only;rw[jFj (by simp)]) (k:=5000) (by omega)
 have e:∀xs:List Bmr,(xs.flatMap fun m=>if m.2.2=.lit then[Sd m.1] else[])=(((xs.filter fun m=>decide (m.2.2=.lit)).map fun m=>m.1).map Sd):=by
  intro xs;induction xs with
  | nil=>rfl
  | cons m xs ih =>
   rw[List.flatMap_cons,ih];by_cases c:m.2.2=.lit
   ·rw[jTj c,List.filter_cons_of_pos (p:=fun m:Bmr=>decide (m.2.2=.lit)) (jDj c)];rfl
   ·rw[jFj c,List.filter_cons_of_neg (p:=fun m:Bmr=>decide (m.2.2=.lit)) (by simpa using c)];rfl
 unfold QoP;rw[Qo0 h (by decide),jBj,jTj rfl,q,jBj,e]
theorem Qs6 {ms:List Bmr}(h:OkF ms):QoG 5000 8 100 (ms.map encW)=some (ms.all (fun m=>decide (m.2.2=.stood)),0):=by
 have x:=h.len;have q:∀(a pre:List Bmr) (k:Nat),ms=pre++a->a.length<k->(∀m,m∈pre->m.2.2=.stood)->∃e,QU (QmN 5000 8 100 (ms.map encW)) k (pre.length:Int)=some e/\(∀v,e=.inl v->0<=v/\ms.all (fun m=>decide (m.2.2=.stood))=false)/\(e=.inr ()->ms.all (fun m=>decide (m.2.2=.stood))=true):=by
  intro a;induction a with
  | nil =>
   intro pre k c n hp;obtain⟨k,rfl⟩:∃t,k=t+1:=⟨k - 1,by omega⟩
   rw[List.append_nil] at c;refine⟨.inr (),ZP ?_,fun v l=>(by cases l),fun _=>?_⟩
   ·unfold QmN;rw[jFj (by rw[jlj,c];omega)]
   ·rw[List.all_eq_true];intro m b;rw[c] at b;exact jDj (hp m b)
  | cons m a ih =>
   intro pre k c n hp;obtain⟨k,rfl⟩:∃t,k=t+1:=⟨k - 1,by omega⟩
   have d:ms[pre.length]?=some m:=by rw[c,List.getElem?_append_right (jLj _),Nat.sub_self];rfl
   have r:=(jGj d).1;by_cases b:m.2.2=.stood
   ·obtain⟨e,g,j⟩:=ih (pre++[m]) k (by rw[c,List.append_assoc];rfl) (by simpa using n) (fun y f=>by
     obtain f|f:=List.mem_append.1 f
     ·exact hp y f
     ·rw[List.mem_singleton.1 f];exact b)
    rw[jaj,List.length_singleton] at g;refine⟨e,(W8 ?_).trans g,j⟩;unfold QmN;rw[jTj (ZF d),el_W d,jBj];dsimp only;rw[Qqt,jBj,jTj (jDj b),jTj (inI (by omega) (by omega))];rfl
   ·refine⟨.inl (pre.length:Int),ZP ?_,fun v l=>?_,fun p=>(by cases p)⟩
    ·unfold QmN;rw[jTj (ZF d),el_W d,jBj];dsimp only;rw[Qqt,jBj,jFj (by simpa using b)]
    ·cases l;refine⟨Int.natCast_nonneg _,?_⟩;rw[List.all_eq_false];exact⟨m,jgj d,by simpa using b⟩
 obtain⟨e,g,j,o⟩:=q ms [] 5000 rfl (by omega) fun m b=>by cases b
 have i : QU (QmN 5000 8 100 (ms.map encW)) 5000 0=some e:=g;unfold QoG;rw[Qo0 h (by decide),jBj,jTj rfl];unfold QnY;rw[i,jBj];cases e with
 | inl v =>
  obtain⟨s,w⟩:=j v rfl;dsimp only;rw[jBj,w,jDj s];rfl
 | inr u =>
  dsimp only;rw[jBj,o rfl]
def fM (ms:List Mir)(a:jSj):Option Mir:=ms.find? fun m=>decide (m.1=a)
structure Sim (a s:jSj) (R Q:Reg):Prop where
 level:Q.level=R.level
 filled:Q.filled=R.filled
 tripped:Q.tripped=R.tripped
 tick:Q.tick<=R.tick
 secs:Q.sectors=if ZG R.sectors s=true then[s] else[]
 mirs:Q.mirrors=(fM R.mirrors a).toList
 sec:∀m,fM R.mirrors a=some m->m.2.1=s
 offs:Q.offers=[]
 heat:Q.heat=Q.light
theorem QtO (x:jSj)(m:Mir):(kf x m).1=m.1/\(kf x m).2.1=m.2.1:=by unfold kf Xi;split<;>exact⟨rfl,rfl⟩
structure Uni (R:Reg):Prop where
 nm:(nmM R.mirrors).Nodup
 sc:R.sectors.Nodup
 ms:∀m,m∈R.mirrors->m.2.1∈R.sectors
theorem QsM:Uni Reg.zero:=⟨List.nodup_nil,List.nodup_nil,fun _ a=>(List.not_mem_nil a).elim⟩
theorem Qq0 {l:List jSj}{x:jSj}(h:l.Nodup)(f:¬x∈l):(l++[x]).Nodup:=by rw[List.nodup_append];exact⟨h,by simp,fun a c b d e=>by rw[List.mem_singleton.1 d] at e;exact f (e ▸ c)⟩
theorem QpR {R:Reg}(h:Uni R){a:jSj}{f:Mir->Mir}(c:∀m,(f m).1=m.1/\(f m).2.1=m.2.1)(j:ZG (nmM R.mirrors) a=true):Uni (chgM R a (f (mAt R.mirrors a))):=by
 have d:=(VM j).2.2;refine⟨?_,h.sc,fun m k=>?_⟩
 ·show(nmM (R.mirrors.set (iM R.mirrors a) (f (mAt R.mirrors a)))).Nodup;have e:nmM (R.mirrors.set (iM R.mirrors a) (f (mAt R.mirrors a)))=nmM R.mirrors:=by
   unfold nmM;rw[List.map_set,(c _).1];have i:(R.mirrors.map fun x=>x.1)[iM R.mirrors a]?=some (mAt R.mirrors a).1:=by rw[List.getElem?_map,d];rfl
   obtain⟨b,g⟩:=jGj i;rw[<-g,List.set_getElem_self]
  rw[e];exact h.nm
 ·obtain b|b:=List.mem_or_eq_of_mem_set k
  ·exact h.ms m b
  ·rw[b,(c _).2];exact h.ms _ (jgj d)
theorem Qsk {R:Reg}(h:Uni R){f:Mir->Mir}(a:∀m,(f m).1=m.1/\(f m).2.1=m.2.1):Uni { R with mirrors:=R.mirrors.map f }:=by
 refine⟨?_,h.sc,fun m b=>?_⟩
 ·show(nmM (R.mirrors.map f)).Nodup;have e:nmM (R.mirrors.map f)=nmM R.mirrors:=by unfold nmM;rw[List.map_map];exact List.map_congr_left fun m _=>(a m).1
  rw[e];exact h.nm
 ·obtain⟨y,c,rfl⟩:=List.mem_map.1 b;rw[(a y).2];exact h.ms y c
theorem Qpa {l:List jSj}{x:jSj}:ZG l x=true↔x∈l:=pos_mem
theorem Qtc {R:Reg}(h:Uni R){num:Int}{kind l:jSj}{names:List jSj}{vals:List Int} :
  ∀{k:Ki},Good (num,kind,names,vals,l) k->acc k R names vals=0->Uni (app k R names vals)
 | .sector,hg,ha=>by
  obtain⟨x,t,rfl,rfl,b⟩:=hg.d11 rfl rfl;have g:ZG R.sectors x=false:=Ub (e:=9) (by decide) (QS ha).2.2.1;exact⟨h.nm,Qq0 h.sc (fun d=>by have j:ZG R.sectors x=true:=Qpa.2 d;rw[g] at j;cases j),fun m d=>List.mem_append_left _ (h.ms m d)⟩
 | .mirror,hg,ha=>by
  obtain⟨x,y,t,v,rfl,rfl,b⟩:=hg.d22 rfl rfl;have n:(if ZG R.sectors y=true then QD (ZG (nmM R.mirrors) x) 9 else 10)=0:=(QS ha).2.2.1;by_cases i:ZG R.sectors y=true
  ·rw[jTj i] at n;have g:=Ub (e:=9) (by decide) n;refine⟨?_,h.sc,fun m d=>?_⟩
   ·show(nmM (R.mirrors++[((x,y,v,0,false,false):Mir)])).Nodup;unfold nmM;rw[List.map_append];exact Qq0 h.nm (fun d=>by have j:ZG (nmM R.mirrors) x=true:=Qpa.2 d;rw[g] at j;cases j)
   ·obtain o|o:=List.mem_append.1 d
    ·exact h.ms m o
    ·rw[List.mem_singleton.1 o];exact Qpa.1 i
  ·rw[jFj i] at n;cases n
 | .soil,hg,ha=>by obtain⟨c,t,v,rfl,rfl,b⟩:=hg.d12 rfl rfl;exact QpR (R:=bkd R t) ⟨h.nm,h.sc,h.ms⟩ (a:=c) (f:=fun m=>kO m v) (fun _=>⟨rfl,rfl⟩) (WN (QS ha).2.2.1)
 | .clean,hg,ha=>by obtain⟨c,t,rfl,rfl,b⟩:=hg.d11 rfl rfl;exact QpR (R:=bkd R t) ⟨h.nm,h.sc,h.ms⟩ (a:=c) (f:=fun m=>kO m 0) (fun _=>⟨rfl,rfl⟩) (WN (QS ha).2.2.1)
 | .defect,hg,ha=>by obtain⟨c,t,rfl,rfl,b⟩:=hg.d11 rfl rfl;exact QpR (R:=bkd R t) ⟨h.nm,h.sc,h.ms⟩ (a:=c) (f:=fun m=>defM m true) (fun _=>⟨rfl,rfl⟩) (WN (QS ha).2.2.1)
 | .repair,hg,ha=>by obtain⟨c,t,rfl,rfl,b⟩:=hg.d11 rfl rfl;exact QpR (R:=bkd R t) ⟨h.nm,h.sc,h.ms⟩ (a:=c) (f:=fun m=>defM m false) (fun _=>⟨rfl,rfl⟩) (WN (QS ha).2.2.1)
 | .aim,hg,ha=>by obtain⟨c,t,rfl,rfl,b⟩:=hg.d11 rfl rfl;exact QpR (R:=bkd R t) ⟨h.nm,h.sc,h.ms⟩ (a:=c) (f:=aimM) (fun _=>⟨rfl,rfl⟩) (WN (QS ha).2.2.1)
 | .park,hg,ha=>by obtain⟨c,t,rfl,rfl,b⟩:=hg.d11 rfl rfl;exact QpR (R:=bkd R t) ⟨h.nm,h.sc,h.ms⟩ (a:=c) (f:=Xi) (fun _=>⟨rfl,rfl⟩) (WN (QS ha).2.2.1)
 | .dim,hg,ha=>by obtain⟨x,t,rfl,rfl,b⟩:=hg.d11 rfl rfl;exact Qsk (R:=bkd R t) ⟨h.nm,h.sc,h.ms⟩ (QtO x)
 | .sun,hg,ha=>⟨h.nm,h.sc,h.ms⟩
 | .fill,hg,ha=>⟨h.nm,h.sc,h.ms⟩
 | .drain,hg,ha=>⟨h.nm,h.sc,h.ms⟩
 | .trip,hg,ha=>by have q:=Qsk (R:=bkd R (vals.getD 0 0)) ⟨h.nm,h.sc,h.ms⟩ (f:=Xi) (fun _=>⟨rfl,rfl⟩);exact⟨q.nm,q.sc,q.ms⟩
 | .reset,hg,ha=>⟨h.nm,h.sc,h.ms⟩
 | .offer,hg,ha=>⟨h.nm,h.sc,h.ms⟩
 | .deliver,hg,ha=>⟨h.nm,h.sc,h.ms⟩
 | .bill,hg,ha=>⟨h.nm,h.sc,h.ms⟩
 | .undo,hg,ha=>⟨h.nm,h.sc,h.ms⟩
theorem Qss {l:List Ev}(h:OkL l):∀j,j<=l.length->Uni (QN (l.take j))
 | 0,_=>by rw[List.take_zero];exact QsM
 | j+1,hj=>by have d:=Qss h j (by omega);have c:=jej (l:=l) (i:=j) (by omega);obtain⟨k,e,a,b⟩:=h j _ c;rw[List.take_succ_eq_append_getElem (by omega),Kx,JX a];exact Qtc d a b
def sumA (f:jSj->Int):List jSj->Int
 | []=>0
 | a::l=>f a+sumA f l
theorem QqV {f g:jSj->Int}:∀{l:List jSj},(∀a,a∈l->f a=g a)->sumA f l=sumA g l
 | [],_=>rfl
 | a::l,h=>by show f a+sumA f l=g a+sumA g l;rw[h a jMj,QqV fun x b=>h x (jmj _ b)]
theorem Qqs:∀l:List jSj,sumA (fun _=>0) l=0
 | []=>rfl
 | a::l=>by show 0+sumA (fun _=>0) l=0;rw[Qqs l];rfl
theorem QqU {f g:jSj->Int}{x:jSj}{v:Int}(c:f x=v+g x)(b:∀a,a≠x->f a=g a):∀{l:List jSj},l.Nodup->x∈l->sumA f l=v+sumA g l
 | [],_,h=>by cases h
 | a::l,hn,h=>by
  rw[List.nodup_cons] at hn;show f a+sumA f l=v+(g a+sumA g l)
  by_cases e:a=x
  ·subst e;rw[c,QqV (f:=f) (g:=g) fun y d=>b y fun e=>hn.1 (e ▸ d)];omega
  ·rw[b a e,QqU c b hn.2 ((List.mem_cons.1 h).resolve_left fun h=>e h.symm)];omega
abbrev Kyt:=jSj×jSj×Bool
def kyB (b:Bmr):Kyt:=(b.1,b.2.1,decide (b.2.2=.aims))
def kyM (m:Mir):Kyt:=(m.1,m.2.1,isA m)
structure Tied (ms:List Mir) (bs:List Bmr):Prop where
 eq:bs.map kyB=ms.map kyM
 day:∀b,b∈bs->dayB b.2.2=true
 ok:OkF bs
theorem QsO:Tied [] []:=⟨rfl,fun _ h=>(by cases h),⟨Nat.zero_le _,fun _ h=>(by cases h),List.nodup_nil⟩⟩
theorem QrP {ms:List Mir}{bs:List Bmr}(h:Tied ms bs):bs.length=ms.length:=by have:=congrArg List.length h.eq;simpa using this
theorem Qte {ms:List Mir}{bs:List Bmr}(h:Tied ms bs):nmB bs=nmM ms:=by have:=congrArg (List.map fun k:Kyt=>k.1) h.eq;rw[List.map_map,List.map_map] at this;exact this
theorem Qry {ms:List Mir}{bs:List Bmr}(h:Tied ms bs){i:Nat}{m:Mir}(d:ms[i]?=some m):∃b,bs[i]?=some b/\kyB b=kyM m/\dayB b.2.2=true:=by have:=congrArg (fun l:List Kyt=>l[i]?) h.eq;simp only[List.getElem?_map,d,Option.map_some] at this;obtain⟨b,a,c⟩:=Option.map_eq_some_iff.1 this;exact⟨b,a,c,h.day b (jgj a)⟩
theorem Qqc {a e:Type}{f:a->e}{l:List a}{i:Nat}{x y:a}(d:l[i]?=some x)(h:f y=f x):(l.set i y).map f=l.map f:=by
 have c:(l.map f)[i]?=some (f x):=by rw[List.getElem?_map,d];rfl
 obtain⟨g,b⟩:=jGj c;rw[List.map_set,h,<-b,List.set_getElem_self]
theorem Qti {bs:List Bmr}(h:OkF bs){i:Nat}{b b' : Bmr}(d:bs[i]?=some b)(a:b'.1=b.1/\b'.2.1=b.2.1):OkF (bs.set i b'):=by
 refine⟨by rw[List.length_set];exact h.len,fun x g=>?_,?_⟩
 ·obtain c|c:=List.mem_or_eq_of_mem_set g
  ·exact h.nm x c
  ·rw[c,a.1,a.2];exact h.nm b (jgj d)
 ·have e:nmB (bs.set i b')=nmB bs:=by unfold nmB;exact Qqc (f:=fun x:Bmr=>x.1) d a.1
  rw[e];exact h.nd
theorem QrN {ms:List Mir}{bs:List Bmr}(h:Tied ms bs){i:Nat}{c : Mir}{b b' : Bmr}(e:bs[i]?=some b)(d:b'.1=b.1/\b'.2.1=b.2.1)(f:dayB b'.2.2=true)(g:kyB b'=kyM c):Tied (ms.set i c) (bs.set i b'):=by
 refine⟨by rw[List.map_set,List.map_set,h.eq,g],fun x j=>?_,Qti h.ok e d⟩;obtain a|a:=List.mem_or_eq_of_mem_set j
 ·exact h.day x a
 ·rw[a];exact f
theorem QpS {ms:List Mir}{bs:List Bmr}(h:Tied ms bs){i:Nat}{m a : Mir}(c:ms[i]?=some m)(b:kyM a=kyM m):Tied (ms.set i a) bs :=
 ⟨h.eq.trans (Qqc c b).symm,h.day,h.ok⟩
theorem QsC {ms:List Mir}{bs:List Bmr}(h:Tied ms bs)(e:bs.length<16){a s:jSj}(v:Int)(d:Yw a=true)(g:Yw s=true)(f:a∉nmB bs):Tied (ms++[(a,s,v,0,false,false)]) (bs++[(a,s,Bst.stood)]):=by
 refine⟨by rw[List.map_append,List.map_append,h.eq];rfl,fun b c=>?_,QrU h.ok e d g f⟩;obtain c|c:=List.mem_append.1 c
 ·exact h.day b c
 ·rw[List.mem_singleton.1 c];rfl
theorem Qsv {f:Mir->Mir}{g:Bmr->Bmr}:∀(bs:List Bmr) (ms:List Mir),bs.map kyB=ms.map kyM->(∀b m,b∈bs->kyB b=kyM m->kyB (g b)=kyM (f m))->(bs.map g).map kyB=(ms.map f).map kyM
 | [],[],_,_=>rfl
 | [],m::ms,h,_=>by simp at h
 | b::bs,[],h,_=>by simp at h
 | b::bs,m::ms,h,hk=>by rw[jCj,jCj,List.cons.injEq] at h;rw[jCj,jCj,jCj,jCj,hk b m jMj h.1,Qsv bs ms h.2 fun x y a=>hk x y (jmj _ a)]
theorem QrO {ms:List Mir}{bs:List Bmr}(h:Tied ms bs){f:Mir->Mir}{g:Bmr->Bmr}(d:∀b m,b∈bs->kyB b=kyM m->kyB (g b)=kyM (f m))(c:∀b,(g b).1=b.1/\(g b).2.1=b.2.1)(a:∀b,b∈bs->dayB (g b).2.2=true):Tied (ms.map f) (bs.map g):=by refine⟨Qsv bs ms h.eq d,fun x e=>?_,QrF h.ok g c⟩;obtain⟨y,i,rfl⟩:=List.mem_map.1 e;exact a y i
def Qqp (b:Bmr):Bmr:=(b.1,b.2.1,toA b.2.2)
def Qoe (ns:List jSj)(b:Bmr):Bmr:=if ZG ns b.1=true then Qqp b else b
theorem Qo9 {ns:List jSj}{b:Bmr}(h:b.1∈ns):Qoe ns b=Qqp b:=jTj (Qpa.2 h)
theorem Qoz {ns:List jSj}{b:Bmr}(h:¬b.1∈ns):Qoe ns b=b:=jFj fun e=>h (Qpa.1 e)
theorem QoQ {s:Bst}(h:dayB s=true):dayB (toA s)=true/\toA s≠.aims/\toA (toA s)=toA s:=by
 cases s;case stood=>exact⟨rfl,by decide,rfl⟩
 case aims=>exact⟨rfl,by decide,rfl⟩
 case turns=>exact⟨rfl,by decide,rfl⟩
 all_goals cases h
theorem Qsm {s:Bst}(h:dayB s=true):toF s=.aims:=by
 cases s;case stood=>rfl
 case aims=>rfl
 case turns=>rfl
 all_goals cases h
theorem QrR:∀(bs:List Bmr) (i:Nat) (b:Bmr),(nmB bs).Nodup->bs[i]?=some b->bs.set i (Qqp b)=bs.map (Qoe [b.1])
 | [],i,b,_,h=>by cases h
 | x::bs,0,b,hn,h=>by
  obtain rfl:x=b:=Option.some.inj h;have a:x.1∉nmB bs:=(List.nodup_cons.1 hn).1;have e:bs.map (Qoe [x.1])=bs:=by
   conv=>rhs;rw[<-List.map_id bs]
   refine List.map_congr_left fun y g=>?_;exact Qoz fun c=>a (by rw[<-List.mem_singleton.1 c];exact List.mem_map.2 ⟨y,g,rfl⟩)
  rw[jCj,e,Qo9 (List.mem_singleton.2 rfl)];rfl
 | x::bs,i+1,b,hn,h=>by
  have d:bs[i]?=some b:=by simpa using h
  have a:x.1∉nmB bs/\(nmB bs).Nodup:=List.nodup_cons.1 hn;have f:x.1≠b.1:=fun e=>a.1 (by rw[e];exact List.mem_map.2 ⟨b,jgj d,rfl⟩);rw[jCj,<-QrR bs i b a.2 d,Qoz fun c=>f (List.mem_singleton.1 c)];rfl
theorem QsG {ns:List jSj}{a:jSj}{b:Bmr}(h:dayB b.2.2=true):Qoe ns (Qoe [a] b)=Qoe (a::ns) b:=by
 have f:=(QoQ h).2.2;by_cases d:b.1=a
 ·rw[Qo9 (show b.1∈[a] from List.mem_singleton.2 d),Qo9 (show b.1∈a::ns from List.mem_cons.2 (.inl d))];by_cases c:b.1∈ns
  ·rw[Qo9 (show(Qqp b).1∈ns from c)];show(b.1,b.2.1,toA (toA b.2.2))=_;rw[f];rfl
  ·rw[Qoz (show ¬(Qqp b).1∈ns from c)]
 ·rw[Qoz (show ¬b.1∈[a] from fun e=>d (List.mem_singleton.1 e))];by_cases c:b.1∈ns
  ·rw[Qo9 c,Qo9 (show b.1∈a::ns from List.mem_cons.2 (.inr c))]
  ·rw[Qoz c,Qoz (show ¬b.1∈a::ns from fun e=>(List.mem_cons.1 e).elim d c)]
theorem Qsx (ns:List jSj)(b:Bmr):(Qoe ns b).1=b.1/\(Qoe ns b).2.1=b.2.1:=by
 unfold Qoe;split
 ·exact⟨rfl,rfl⟩
 ·exact⟨rfl,rfl⟩
theorem QsZ {ns:List jSj}{b:Bmr}(h:dayB b.2.2=true):dayB (Qoe ns b).2.2=true:=by
 unfold Qoe;split
 ·exact(QoQ h).1
 ·exact h
abbrev HSt:=Int×Int×Int×jVj
theorem Qqw {step:HSt->Option (HSt⊕Int×Int×jVj)}{ns:List jSj}
  (l:∀(i:Nat) (a:jSj) (xs ys:jVj),ns[i]?=some a->Qm7 5000 0 100 xs a ⟨#[97]⟩ false=some (0,100,ys,0)->step ((i:Int),0,100,xs)=some (.inl (((i+1:Nat):Int),0,100,ys)))
  (k:∀xs:jVj,step ((ns.length:Int),0,100,xs)=some (.inr (0,100,xs))):∀(c pre:List jSj) (bs:List Bmr) (K:Nat),ns=pre++c->(∀a,a∈c->a∈nmB bs)->OkF bs->(∀b,b∈bs->dayB b.2.2=true)->c.length<K ->
  QU step K ((pre.length:Int),0,100,bs.map encW)=some (0,100,(bs.map (Qoe c)).map encW)
 | _,_,_,0,_,_,_,_,hk=>absurd hk (by omega)
 | [],pre,bs,K+1,hd,_,_,_,_=>by
  have e:bs.map (Qoe [])=bs:=by
   conv=>rhs;rw[<-List.map_id bs]
   exact List.map_congr_left fun y _=>Qoz (by simp)
  rw[List.append_nil] at hd;rw[e,<-hd];exact ZP (k _)
 | a::c,pre,bs,K+1,hd,ha,hok,hday,hk=>by
  have d:ns[pre.length]?=some a:=by rw[hd,List.getElem?_append_right (jLj _),Nat.sub_self];rfl
  obtain⟨b,j,f⟩:=List.mem_map.1 (ha a jMj);obtain⟨i,hi⟩:=List.mem_iff_getElem?.1 j;have h:=Qsw hok hi (hday b j);rw[show bs.set i (b.1,b.2.1,toA b.2.2)=bs.map (Qoe [b.1]) from QrR bs i b hok.nd hi,f] at h;have n:=Qqw l k c (pre++[a]) (bs.map (Qoe [a])) K (by rw[hd,List.append_assoc];rfl) (fun x d=>by
   have:=ha x (jmj _ d);have e:nmB (bs.map (Qoe [a]))=nmB bs:=by unfold nmB;rw[List.map_map];exact List.map_congr_left fun y _=>(Qsx _ y).1
   rw[e];exact this) (QrF hok _ fun m=>Qsx _ m) (fun x d=>by
   obtain⟨y,g,rfl⟩:=List.mem_map.1 d;exact QsZ (hday y g)) (by simpa using hk)
  rw[jaj,List.length_singleton] at n;refine(W8 (l _ _ _ _ d h)).trans (n.trans ?_);rw[show(bs.map (Qoe [a])).map (Qoe c)=bs.map (Qoe (a::c)) from by rw[List.map_map];exact List.map_congr_left fun y g=>QsG (hday y g)]
theorem Qq1 {step:Int×jVj->Option (Int×jVj⊕jVj)}{bs:List Bmr}(p:Bmr->Bool)(e:bs.length<=16)
  (d:∀(i:Nat) (out:jVj) (m:Bmr),bs[i]?=some m->out.length<=i->step ((i:Int),out)=some (.inl (((i+1:Nat):Int),out++(if p m=true then[Sd m.1] else[]))))
  (c:∀out:jVj,step ((bs.length:Int),out)=some (.inr out)):QU step 5000 (0,[])=some (((bs.filter p).map fun m=>m.1).map Sd):=by
 have q:=Y4 (step:=step) (E:=jVj) (fun out=>out) bs (fun m=>if p m=true then[Sd m.1] else[]) (fun m=>by split<;>simp) d (fun out _=>c out) (k:=5000) (by omega);have b:∀xs:List Bmr,(xs.flatMap fun m=>if p m=true then[Sd m.1] else[])=(((xs.filter p).map fun m=>m.1).map Sd):=by
  intro xs;induction xs with
  | nil=>rfl
  | cons m xs ih =>
   rw[List.flatMap_cons,ih];by_cases a:p m=true
   ·rw[jTj a,List.filter_cons_of_pos a];rfl
   ·rw[jFj a,List.filter_cons_of_neg a];rfl
 rw[q,b]
theorem Qrr:∀{bs:List Bmr},(nmB bs).Nodup->∀{x y:Bmr},x∈bs->y∈bs->x.1=y.1->x=y
 | [],_,x,y,hx,_,_=>by cases hx
 | z::bs,h,x,y,hx,hy,e=>by
  have c:z.1∉nmB bs/\(nmB bs).Nodup:=List.nodup_cons.1 h;obtain b|b:=List.mem_cons.1 hx
  ·obtain a|a:=List.mem_cons.1 hy
   ·rw[b,a]
   ·exact absurd (by rw[<-b,e];exact List.mem_map.2 ⟨y,a,rfl⟩) c.1
  ·obtain a|a:=List.mem_cons.1 hy
   ·exact absurd (by rw[<-a,<-e];exact List.mem_map.2 ⟨x,b,rfl⟩) c.1
   ·exact Qrr c.2 b a e
theorem QrZ {bs:List Bmr}(h:(nmB bs).Nodup)(p:Bmr->Bool){b:Bmr}(c:b∈bs):Qoe ((bs.filter p).map fun m=>m.1) b=if p b=true then Qqp b else b:=by
 by_cases hp:p b=true
 ·rw[jTj hp,Qo9 (List.mem_map.2 ⟨b,List.mem_filter.2 ⟨c,hp⟩,rfl⟩)]
 ·rw[jFj hp,Qoz fun f=>by obtain⟨x,g,e⟩:=List.mem_map.1 f;obtain⟨d,a⟩:=List.mem_filter.1 g;rw[Qrr h d c e] at a;exact hp a]
theorem kwn {k j:Ki}(h:k≠j):kw k≠kw j:=fun e=>h (by have:=congrArg zl e;rw[qZ,qZ] at this;exact Option.some.inj this)
abbrev WSt:=(Int)⊕(Int×Int×Int×jVj)
def stW:List Bmr->Int->WSt
 | [],j=>.inl j
 | b::bs,j=>.inr (j,0,100,(b::bs).map encW)
def exW:List Bmr->(Unit)⊕(Int×Int×jVj)
 | []=>.inl ()
 | b::bs=>.inr (0,100,(b::bs).map encW)
theorem Qpv {bs:List Bmr}(h:bs≠[])(j:Int):stW bs j=.inr (j,0,100,bs.map encW):=by
 cases bs with
 | nil=>exact absurd rfl h
 | cons b bs=>rfl
theorem Qtr {bs:List Bmr}{i:Nat}{b:Bmr}(h:bs[i]?=some b):bs≠[]:=fun e=>by rw[e] at h;cases h
theorem QsV {bs:List Bmr}(h:bs≠[])(i:Nat)(b:Bmr):bs.set i b≠[]:=fun e=>h (by have:=congrArg List.length e;rw[List.length_set] at this;exact List.length_eq_zero_iff.1 this)
theorem QsW {bs:List Bmr}(h:bs≠[])(f:Bmr->Bmr):bs.map f≠[]:=fun e=>h (List.map_eq_nil_iff.1 e)
section
variable {t9:jVj×Int×Int}{t10:Int×jVj×jVj×jRj}{t17:jVj×Int}{t18:Int×Int×Bool×Bool×Int×Int×Int×jVj×jVj×jVj×Int×Int}
theorem s0 {a:jSj}{l:List jSj}:el Vg ((a::l).map Sd) 0=some a:=rfl
theorem s1 {a b:jSj}{l:List jSj}:el Vg ((a::b::l).map Sd) 1=some b:=rfl
theorem Qnr {c:List Ev}{i:Nat}{e:Ev}{k:Ki}(d:c[i]?=some e)(hc:c.length<=16)(a:Good e k)(o:k≠.mirror)(p:k≠.aim)(q:k≠.park)(r:k≠.dim)(s:k≠.trip)(bs:List Bmr) :
  JD 5000 t9 t10 t17 t18 (c.map Q5) (stW bs (i:Int))=some (.inl (stW bs ((i+1:Nat):Int))):=by
 have t:=(jGj d).1;have n:Qg ((i:Int)+1):=inI (by omega) (by omega);have f:=kne (l:=#[109,105,114,114,111,114]) a.kind (kwn o);have g:=kne (l:=#[97,105,109]) a.kind (kwn p);have h:=kne (l:=#[112,97,114,107]) a.kind (kwn q);have j:=kne (l:=#[100,105,109]) a.kind (kwn r);have m:=kne (l:=#[116,114,105,112]) a.kind (kwn s);cases bs with
 | nil =>
  unfold JD stW;dsimp only;rw[jTj (ZF d),el_E d,jBj];dsimp only;rw[jFj f,jFj g,jFj h,jFj j,jFj m,jTj n];rfl
 | cons b bs =>
  unfold JD stW;dsimp only;rw[jTj (ZF d),el_E d,jBj];dsimp only;rw[jFj f,jFj g,jFj h,jFj j,jFj m,jTj n];rfl
theorem QrQ {c:List Ev}{i:Nat}{num:Int}{kind d a s:jSj}{vals:List Int}(e:c[i]?=some (num,kind,[a,s],vals,d))(hc:c.length<=16)(m:Good (num,kind,[a,s],vals,d) .mirror){bs:List Bmr}(f:OkF bs)(n:bs.length<16)(k:Yw a=true)(q:Yw s=true)(p:a∉nmB bs) :
  JD 5000 t9 t10 t17 t18 (c.map Q5) (stW bs (i:Int))=some (.inl (stW (bs++[(a,s,Bst.stood)]) ((i+1:Nat):Int))):=by
 have o:=(jGj e).1;have j:Qg ((i:Int)+1):=inI (by omega) (by omega);have h:=keq (l:=#[109,105,114,114,111,114]) m.kind rfl;have g:=QrI f n k q p;cases bs with
 | nil =>
  unfold JD stW;dsimp only;rw[jTj (ZF e),el_E e,jBj];dsimp only;rw[jTj h,s0,jBj,s1,jBj,show QnR 5000 0 100 [] a s 1 [] 0 0=_ from g,jBj];dsimp only;rw[jTj rfl,jTj j];rfl
 | cons b bs =>
  unfold JD stW;dsimp only;rw[jTj (ZF e),el_E e,jBj];dsimp only;rw[jTj h,s0,jBj,s1,jBj,g,jBj];dsimp only;rw[jTj rfl,jTj j];rfl
theorem QsR {c:List Ev}{i:Nat}{num:Int}{kind d a:jSj}{vals:List Int}(h:c[i]?=some (num,kind,[a],vals,d))(hc:c.length<=16)(n:Good (num,kind,[a],vals,d) .aim){bs:List Bmr}(g:OkF bs){j:Nat}{b:Bmr}(m:bs[j]?=some b)(o:dayB b.2.2=true)(f:b.1=a) :
  JD 5000 t9 t10 t17 t18 (c.map Q5) (stW bs (i:Int))=some (.inl (stW (bs.set j (b.1,b.2.1,toF b.2.2)) ((i+1:Nat):Int))):=by
 have q:=(jGj h).1;have t:Qg ((i:Int)+1):=inI (by omega) (by omega);have r:=kne (l:=#[109,105,114,114,111,114]) n.kind (kwn (k:=.aim) (j:=.mirror) (by decide));have s:=keq (l:=#[97,105,109]) n.kind rfl;have p:=Qtl g m o;have e:=Qtr m;rw[Qpv e,Qpv (QsV e _ _)];unfold JD;dsimp only;rw[jTj (ZF h),el_E h,jBj];dsimp only;rw[jFj r,jTj s,s0,jBj,<-f,p,jBj];dsimp only;rw[jTj rfl,jTj t];rfl
theorem QsE {c:List Ev}{i:Nat}{num:Int}{kind d a:jSj}{vals:List Int}(m:c[i]?=some (num,kind,[a],vals,d))(hc:c.length<=16)(g:Good (num,kind,[a],vals,d) .park){bs:List Bmr}(h:OkF bs){j:Nat}{b:Bmr}(n:bs[j]?=some b)(o:dayB b.2.2=true)(f:b.1=a) :
  JD 5000 t9 t10 t17 t18 (c.map Q5) (stW bs (i:Int))=some (.inl (stW (bs.set j (b.1,b.2.1,toA b.2.2)) ((i+1:Nat):Int))):=by
 have q:=(jGj m).1;have u:Qg ((i:Int)+1):=inI (by omega) (by omega);have r:=kne (l:=#[109,105,114,114,111,114]) g.kind (kwn (k:=.park) (j:=.mirror) (by decide));have s:=kne (l:=#[97,105,109]) g.kind (kwn (k:=.park) (j:=.aim) (by decide));have t:=keq (l:=#[112,97,114,107]) g.kind rfl;have p:=Qsw h n o;have e:=Qtr n;rw[Qpv e,Qpv (QsV e _ _)];unfold JD;dsimp only;rw[jTj (ZF m),el_E m,jBj];dsimp only;rw[jFj r,jFj s,jTj t,s0,jBj,<-f,p,jBj];dsimp only;rw[jTj rfl,jTj u];rfl
theorem Qsy {bs:List Bmr}(p:Bmr->Bool):∀a,a∈(bs.filter p).map (fun m:Bmr=>m.1)->a∈nmB bs:=fun a b=>by obtain⟨x,c,rfl⟩:=List.mem_map.1 b;exact List.mem_map.2 ⟨x,(List.mem_filter.1 c).1,rfl⟩
theorem QqQ {bs:List Bmr}(p:Bmr->Bool):((bs.filter p).map (fun m:Bmr=>m.1)).length<=bs.length:=by rw[jlj];exact List.length_filter_le p bs
theorem QsQ {c:List Ev}{i:Nat}{num:Int}{kind d s:jSj}{vals:List Int}(h:c[i]?=some (num,kind,[s],vals,d))(hc:c.length<=16)(g:Good (num,kind,[s],vals,d) .dim){bs:List Bmr}(e:OkF bs)(t:∀b,b∈bs->dayB b.2.2=true) :
  JD 5000 t9 t10 t17 t18 (c.map Q5) (stW bs (i:Int))=some (.inl (stW (bs.map fun b=>if decide (b.2.1=s)=true then Qqp b else b) ((i+1:Nat):Int))):=by
 have G:=(jGj h).1;have y:Qg ((i:Int)+1):=inI (by omega) (by omega);have u:=kne (l:=#[109,105,114,114,111,114]) g.kind (kwn (k:=.dim) (j:=.mirror) (by decide));have v:=kne (l:=#[97,105,109]) g.kind (kwn (k:=.dim) (j:=.aim) (by decide));have w:=kne (l:=#[112,97,114,107]) g.kind (kwn (k:=.dim) (j:=.park) (by decide));have H:=kne (l:=#[116,114,105,112]) g.kind (kwn (k:=.dim) (j:=.trip) (by decide));have x:=keq (l:=#[100,105,109]) g.kind rfl;cases bs with
 | nil =>
  unfold JD stW;dsimp only;rw[jTj (ZF h),el_E h,jBj];dsimp only;rw[jFj u,jFj v,jFj w,jTj x,jTj y];rfl
 | cons b0 bs0 =>
  have f:b0::bs0≠[]:=by simp
  generalize b0::bs0=bs at e t f ⊢;have F:=e.len;rw[Qpv f,Qpv (QsW f _)];have J:=Qq1 (step:=QmF 5000 t9 t10 t17 t18 (c.map Q5) ((i:Int),0,100,bs.map encW) (num,kind,[s].map Sd,vals.map I,d)) (bs:=bs) (fun b=>decide (b.2.1=s)) F (fun j out m q L=>by
   have C:=(jGj q).1;have K:Wi 16 (out.length+1):=UO (by decide) (by omega);have p:Qg ((j:Int)+1):=inI (by omega) (by omega);unfold QmF;dsimp only;rw[jTj (ZF q),el_W q,jBj];dsimp only;rw[jFj H,s0,jBj,beqS];by_cases o:decide (m.2.1=s)=true
   ·rw[jTj o,jTj o,jTj K,jTj p];rfl
   ·rw[jFj o,jFj o,jTj p,List.append_nil];rfl)
   (fun out=>by unfold QmF;dsimp only;rw[jFj (by simp)])
  have r:=Qqw (step:=Qm1 5000 t9 t10 t17 t18 (c.map Q5) ((i:Int),0,100,bs.map encW) (((bs.filter fun b=>decide (b.2.1=s)).map fun m=>m.1).map Sd)) (ns:=(bs.filter fun b=>decide (b.2.1=s)).map fun m=>m.1) (fun j a xs ys n A=>by
   have C:=(jGj n).1;have E:=QqQ (bs:=bs) fun b=>decide (b.2.1=s);have p:Qg ((j:Int)+1):=inI (by omega) (by omega);unfold Qm1;dsimp only;rw[jTj (ZF n),jTj ⟨Int.natCast_nonneg j,ZF n⟩,jtj,U4,List.getElem?_map,n];show(some a).bind _=_;rw[jBj,A,jBj];dsimp only;rw[jTj rfl,jTj p];rfl)
   (fun xs=>by unfold Qm1;dsimp only;rw[jFj (by simp)]) ((bs.filter fun b=>decide (b.2.1=s)).map fun m=>m.1) [] bs 5000 rfl (Qsy _) e t (by have:=QqQ (bs:=bs) fun b=>decide (b.2.1=s);omega)
  have r:QU (Qm1 5000 t9 t10 t17 t18 (c.map Q5) ((i:Int),0,100,bs.map encW) (((bs.filter fun b=>decide (b.2.1=s)).map fun m=>m.1).map Sd)) 5000 (0,0,100,bs.map encW)=_:=r;unfold JD;dsimp only;rw[jTj (ZF h),el_E h,jBj];dsimp only;rw[jFj u,jFj v,jFj w,jTj x,J,jBj,r,jBj];dsimp only;rw[jTj y,List.map_congr_left fun b z=>QrZ e.nd (fun b:Bmr=>decide (b.2.1=s)) z];rfl
theorem QsD {c:List Ev}{i:Nat}{num:Int}{kind d:jSj}{vals:List Int}(h:c[i]?=some (num,kind,[],vals,d))(hc:c.length<=16)(g:Good (num,kind,[],vals,d) .trip){bs:List Bmr}(e:OkF bs)(s:∀b,b∈bs->dayB b.2.2=true) :
  JD 5000 t9 t10 t17 t18 (c.map Q5) (stW bs (i:Int))=some (.inl (stW (bs.map Qqp) ((i+1:Nat):Int))):=by
 have F:=(jGj h).1;have x:Qg ((i:Int)+1):=inI (by omega) (by omega);have t:=kne (l:=#[109,105,114,114,111,114]) g.kind (kwn (k:=.trip) (j:=.mirror) (by decide));have u:=kne (l:=#[97,105,109]) g.kind (kwn (k:=.trip) (j:=.aim) (by decide));have v:=kne (l:=#[112,97,114,107]) g.kind (kwn (k:=.trip) (j:=.park) (by decide));have w:=kne (l:=#[100,105,109]) g.kind (kwn (k:=.trip) (j:=.dim) (by decide));have p:=keq (l:=#[116,114,105,112]) g.kind rfl;cases bs with
 | nil =>
  unfold JD stW;dsimp only;rw[jTj (ZF h),el_E h,jBj];dsimp only;rw[jFj t,jFj u,jFj v,jFj w,jTj p,jTj x];rfl
 | cons b0 bs0 =>
  have f:b0::bs0≠[]:=by simp
  generalize b0::bs0=bs at e s f ⊢;have E:=e.len;rw[Qpv f,Qpv (QsW f _)];have G:=Qq1 (step:=QmF 5000 t9 t10 t17 t18 (c.map Q5) ((i:Int),0,100,bs.map encW) (num,kind,([]:List jSj).map Sd,vals.map I,d)) (bs:=bs) (fun b=>true) E (fun j out m o J=>by
   have A:=(jGj o).1;have H:Wi 16 (out.length+1):=UO (by decide) (by omega);have r:Qg ((j:Int)+1):=inI (by omega) (by omega);unfold QmF;dsimp only;rw[jTj (ZF o),el_W o,jBj];dsimp only;rw[jTj p,jTj rfl,jTj H,jTj r];rfl)
   (fun out=>by unfold QmF;dsimp only;rw[jFj (by simp)])
  have q:=Qqw (step:=Qm0 5000 t9 t10 t17 t18 (c.map Q5) ((i:Int),0,100,bs.map encW) (((bs.filter fun b=>true).map fun m=>m.1).map Sd)) (ns:=(bs.filter fun b=>true).map fun m=>m.1) (fun j a xs ys n z=>by
   have A:=(jGj n).1;have C:=QqQ (bs:=bs) fun b=>true;have r:Qg ((j:Int)+1):=inI (by omega) (by omega);unfold Qm0;dsimp only;rw[jTj (ZF n),jTj ⟨Int.natCast_nonneg j,ZF n⟩,jtj,U4,List.getElem?_map,n];show(some a).bind _=_;rw[jBj,z,jBj];dsimp only;rw[jTj rfl,jTj r];rfl)
   (fun xs=>by unfold Qm0;dsimp only;rw[jFj (by simp)]) ((bs.filter fun b=>true).map fun m=>m.1) [] bs 5000 rfl (Qsy _) e s (by have:=QqQ (bs:=bs) fun b=>true;omega)
  have q:QU (Qm0 5000 t9 t10 t17 t18 (c.map Q5) ((i:Int),0,100,bs.map encW) (((bs.filter fun b=>true).map fun m=>m.1).map Sd)) 5000 (0,0,100,bs.map encW)=_:=q;unfold JD;dsimp only;rw[jTj (ZF h),el_E h,jBj];dsimp only;rw[jFj t,jFj u,jFj v,jFj w,jTj p,G,jBj,q,jBj];dsimp only;rw[jTj x,List.map_congr_left fun b y=>(QrZ e.nd (fun b:Bmr=>true) y).trans (jTj rfl)];rfl
theorem Qs5 {c:List Ev}{i:Nat}{num:Int}{kind q:jSj}{names:List jSj}{vals:List Int}(hc:c.length<=16){R:Reg}{bs:List Bmr}(d:Tied R.mirrors bs)(E:bs.length<16)(l:c[i]?=some (num,kind,names,vals,q)) :
  ∀{k:Ki},k≠.undo->Good (num,kind,names,vals,q) k->acc k R names vals=0->∃y,Tied (app k R names vals).mirrors y/\JD 5000 t9 t10 t17 t18 (c.map Q5) (stW bs (i:Int))=some (.inl (stW y ((i+1:Nat):Int)))
 | .mirror,_,hg,ha=>by
  obtain⟨a,s,t,v,rfl,rfl,j⟩:=hg.d22 rfl rfl;have A:(if ZG R.sectors s=true then QD (ZG (nmM R.mirrors) a) 9 else 10)=0:=(QS ha).2.2.1;have G:a∉nmB bs:=fun F=>by
   split at A
   ·have C:=Ub (e:=9) (by decide) A;rw[Qte d] at F;rw[Qpa.2 F] at C;cases C
   ·cases A
  have H:=hg.name a (by simp);have J:=hg.name s (by simp);exact⟨_,QsC d E v H J G,QrQ l hc hg d.ok E H J G⟩
 | .aim,_,hg,ha=>by
  obtain⟨a,t,rfl,rfl,j⟩:=hg.d11 rfl rfl;have z:ZG (nmM R.mirrors) a=true:=WN (QS ha).2.2.1;obtain⟨b,n,o,w⟩:=Qry d (VM z).2.2;have u:b.1=a:=(congrArg (fun x:Kyt=>x.1) o).trans (QrX z);refine⟨_,QrN d (b':=(b.1,b.2.1,toF b.2.2)) n ⟨rfl,rfl⟩ (by show dayB (toF b.2.2)=true;rw[Qsm w];rfl) ?_,QsR l hc hg d.ok n w u⟩;show(b.1,b.2.1,decide (toF b.2.2=.aims))=((mAt R.mirrors a).1,(mAt R.mirrors a).2.1,true)
  rw[Qsm w];have r:b.1=(mAt R.mirrors a).1:=congrArg (fun x:Kyt=>x.1) o;have p:b.2.1=(mAt R.mirrors a).2.1:=congrArg (fun x:Kyt=>x.2.1) o;rw[r,p];rfl
 | .park,_,hg,ha=>by
  obtain⟨a,t,rfl,rfl,j⟩:=hg.d11 rfl rfl;have z:ZG (nmM R.mirrors) a=true:=WN (QS ha).2.2.1;obtain⟨b,n,o,w⟩:=Qry d (VM z).2.2;have u:b.1=a:=(congrArg (fun x:Kyt=>x.1) o).trans (QrX z);refine⟨_,QrN d (b':=(b.1,b.2.1,toA b.2.2)) n ⟨rfl,rfl⟩ (QoQ w).1 ?_,QsE l hc hg d.ok n w u⟩;show(b.1,b.2.1,decide (toA b.2.2=.aims))=((mAt R.mirrors a).1,(mAt R.mirrors a).2.1,false)
  have r:b.1=(mAt R.mirrors a).1:=congrArg (fun x:Kyt=>x.1) o;have p:b.2.1=(mAt R.mirrors a).2.1:=congrArg (fun x:Kyt=>x.2.1) o;rw[r,p,jEj (QoQ w).2.1]
 | .dim,_,hg,ha=>by
  obtain⟨s,t,rfl,rfl,j⟩:=hg.d11 rfl rfl;refine⟨_,QrO d (f:=kf s) (fun b m n o=>?_) (fun b=>?_) (fun b n=>?_),QsQ l hc hg d.ok d.day⟩
  ·have r:b.1=m.1:=congrArg (fun x:Kyt=>x.1) o;have p:b.2.1=m.2.1:=congrArg (fun x:Kyt=>x.2.1) o;unfold kf;by_cases h:b.2.1=s
   ·rw[jTj (jDj h),jTj (p ▸ h)];show(b.1,b.2.1,decide (toA b.2.2=.aims))=(m.1,m.2.1,false)
    rw[r,p,jEj (QoQ (d.day b n)).2.1]
   ·rw[jFj (by simpa using h),jFj (p ▸ h)];exact o
  ·split
   ·exact⟨rfl,rfl⟩
   ·exact⟨rfl,rfl⟩
  ·split
   ·exact(QoQ (d.day b n)).1
   ·exact d.day b n
 | .trip,_,hg,ha=>by
  obtain⟨t,rfl,rfl,j⟩:=hg.d01 rfl rfl;refine⟨_,QrO d (f:=Xi) (g:=Qqp) (fun b m n o=>?_) (fun b=>⟨rfl,rfl⟩) (fun b n=>(QoQ (d.day b n)).1),QsD l hc hg d.ok d.day⟩;have r:b.1=m.1:=congrArg (fun x:Kyt=>x.1) o;have p:b.2.1=m.2.1:=congrArg (fun x:Kyt=>x.2.1) o;show(b.1,b.2.1,decide (toA b.2.2=.aims))=(m.1,m.2.1,false)
  rw[r,p,jEj (QoQ (d.day b n)).2.1]
 | .soil,_,hg,ha=>by obtain⟨a,t,v,rfl,rfl,j⟩:=hg.d12 rfl rfl;exact⟨bs,QpS d (VM (WN (QS ha).2.2.1)).2.2 rfl,Qnr l hc hg (by decide) (by decide) (by decide) (by decide) (by decide) bs⟩
 | .clean,_,hg,ha=>by obtain⟨a,t,rfl,rfl,j⟩:=hg.d11 rfl rfl;exact⟨bs,QpS d (VM (WN (QS ha).2.2.1)).2.2 rfl,Qnr l hc hg (by decide) (by decide) (by decide) (by decide) (by decide) bs⟩
 | .defect,_,hg,ha=>by obtain⟨a,t,rfl,rfl,j⟩:=hg.d11 rfl rfl;exact⟨bs,QpS d (VM (WN (QS ha).2.2.1)).2.2 rfl,Qnr l hc hg (by decide) (by decide) (by decide) (by decide) (by decide) bs⟩
 | .repair,_,hg,ha=>by obtain⟨a,t,rfl,rfl,j⟩:=hg.d11 rfl rfl;exact⟨bs,QpS d (VM (WN (QS ha).2.2.1)).2.2 rfl,Qnr l hc hg (by decide) (by decide) (by decide) (by decide) (by decide) bs⟩
 | .sector,_,hg,ha=>⟨bs,d,Qnr l hc hg (by decide) (by decide) (by decide) (by decide) (by decide) bs⟩
 | .sun,_,hg,ha=>⟨bs,d,Qnr l hc hg (by decide) (by decide) (by decide) (by decide) (by decide) bs⟩
 | .fill,_,hg,ha=>⟨bs,d,Qnr l hc hg (by decide) (by decide) (by decide) (by decide) (by decide) bs⟩
 | .drain,_,hg,ha=>⟨bs,d,Qnr l hc hg (by decide) (by decide) (by decide) (by decide) (by decide) bs⟩
 | .reset,_,hg,ha=>⟨bs,d,Qnr l hc hg (by decide) (by decide) (by decide) (by decide) (by decide) bs⟩
 | .offer,_,hg,ha=>⟨bs,d,Qnr l hc hg (by decide) (by decide) (by decide) (by decide) (by decide) bs⟩
 | .deliver,_,hg,ha=>⟨bs,d,Qnr l hc hg (by decide) (by decide) (by decide) (by decide) (by decide) bs⟩
 | .bill,_,hg,ha=>⟨bs,d,Qnr l hc hg (by decide) (by decide) (by decide) (by decide) (by decide) bs⟩
 | .undo,hu,_,_=>absurd rfl hu
theorem Qr3 {c:List Ev}(a:OkL c)(hc:c.length<=16):∀(m j K:Nat) (bs:List Bmr),j+m=c.length->m<K->Tied (QN (c.take j)).mirrors bs->∃d,Tied (QN c).mirrors d/\QU (JD 5000 t9 t10 t17 t18 (c.map Q5)) K (stW bs (j:Int))=some (exW d)
 | _,_,0,_,_,hk,_=>absurd hk (by omega)
 | 0,j,K+1,bs,hj,_,ht=>by
  rw[List.take_of_length_le (by omega)] at ht;refine⟨bs,ht,ZP ?_⟩;have n:j=c.length:=by omega
  subst n;cases bs with
  | nil=>unfold JD stW;dsimp only;rw[jFj (by simp)];rfl
  | cons b bs=>unfold JD stW;dsimp only;rw[jFj (by simp)];rfl
 | m+1,j,K+1,bs,hj,hk,ht=>by
  have q:=jej (l:=c) (i:=j) (by omega);obtain⟨k,r,o,s⟩:=a j _ q;have f:=Qb9 a (by omega) j (by omega);have p:=QrP ht;have t:=f.lenM;obtain⟨g,u,v⟩:=Qs5 (t9:=t9) (t10:=t10) (t17:=t17) (t18:=t18) hc ht (by omega) q r o s;have e:QN (c.take (j+1))=app k (QN (c.take j)) (c[j]'(by omega)).2.2.1 (c[j]'(by omega)).2.2.2.1:=by rw[List.take_succ_eq_append_getElem (by omega),Kx,JX o]
  obtain⟨h,w,x⟩:=Qr3 a hc m (j+1) K g (by omega) (by omega) (by rw[e];exact u);exact⟨h,w,(W8 v).trans x⟩
end
theorem Qp (l:List UInt8):(mkS l).size=l.length:=by simp[mkS,ByteArray.size]
theorem Qfb (a b:List UInt8):((mkS a).toList==(mkS b).toList)=decide (a=b):=by rw[Bool.eq_iff_iff,beq_iff_eq,decide_eq_true_eq,qL,qL,VN,VN]
theorem Qat (a b:List UInt8):mkS a++mkS b=mkS (a++b):=by
 have:(mkS a++mkS b).data.toList=a++b:=by rw[ByteArray.data_append];simp[mkS]
 rw[<-UA (mkS a++mkS b),this]
theorem Qhq (l:List UInt8)(i:Nat):UY (mkS l) (i:Int)=l[i]?.map fun b=>(b.toNat:Int):=by
 unfold UY;rw[jTj (Int.natCast_nonneg i),jtj];have:(mkS l)[i]?=l[i]?:=by
  by_cases h:i<l.length
  ·have a : i<(mkS l).size:=by rw[Qp];exact h
   rw[getElem?_pos (mkS l) i a,jej h];congr 1
  ·have a : ¬i<(mkS l).size:=by rw[Qp];exact h
   rw[getElem?_neg (mkS l) i a,List.getElem?_eq_none (by omega)]
 rw[this];cases l[i]?<;>rfl
theorem uY (l:List UInt8)(a b:Nat):(mkS l).extract a b=mkS ((l.take b).drop a):=by
 rw[<-UA ((mkS l).extract a b)];congr 1
 rw[ByteArray.data_extract];simp[mkS];rw[List.take_drop];by_cases h:a<=b
 ·rw[show a+(b - a)=b by omega]
 ·rw[show a+(b - a)=a by omega,List.drop_eq_nil_of_le (by simp;omega),List.drop_eq_nil_of_le (by simp;omega)]
theorem QjT (l:List UInt8){b:Nat}(a:b<=l.length):XY (mkS l) none (some (b:Int))=some (mkS (l.take b)):=by unfold XY;simp only[Option.getD_some,Option.getD_none,Qp];rw[jTj (by omega),jtj,Int.toNat_zero,uY,List.drop_zero]
theorem Qhp (l:List UInt8){a:Nat}(b:a<=l.length):XY (mkS l) (some (a:Int)) none=some (mkS (l.drop a)):=by unfold XY;simp only[Option.getD_some,Option.getD_none,Qp];rw[jTj (by omega),jtj,jtj,uY,List.take_length]
def spl (c:UInt8):List UInt8->List (List UInt8)
 | []=>[[]]
 | x::l=>if x=c then[]::spl c l else match spl c l with
  | []=>[[x]]
  | h::t=>(x::h)::t
def pre (p:List UInt8):List (List UInt8)->List (List UInt8)
 | []=>[p]
 | h::t=>(p++h)::t
theorem zK (c:UInt8)(l:List UInt8):spl c l≠[]:=by
 cases l with
 | nil=>simp[spl]
 | cons x l =>
  unfold spl;split
  ·simp
  ·split<;>simp
theorem ug (c x:UInt8)(l:List UInt8)(h:x≠c):spl c (x::l)=pre [x] (spl c l):=by
 conv=>lhs;unfold spl
 rw[jFj h];cases spl c l<;>rfl
theorem QbX (c:UInt8)(l:List UInt8):spl c (c::l)=[]::spl c l:=by
 conv=>lhs;unfold spl
 rw[jTj rfl]
theorem QiX {L:List (List UInt8)}(h:L≠[]):pre [] L=L:=by
 cases L with
 | nil=>exact absurd rfl h
 | cons a L=>rfl
theorem QiW (p q:List UInt8){L:List (List UInt8)}(h:L≠[]):pre p (pre q L)=pre (p++q) L:=by
 cases L with
 | nil=>exact absurd rfl h
 | cons a L=>simp[pre]
theorem QbY (c:UInt8):∀(a b:List UInt8),c∉a->spl c (a++b)=pre a (spl c b)
 | [],b,_=>by rw[List.nil_append,QiX (zK c b)]
 | x::a,b,h=>by rw[List.cons_append,ug c x _ (fun e=>h (by rw[e];exact jMj)),QbY c a b (fun d=>h (jmj _ d)),QiW _ _ (zK c b)];rfl
theorem Qfr (c:UInt8)(a b:List UInt8)(h:c∉a):spl c (a++c::b)=a::spl c b:=by rw[QbY c a _ h,QbX];simp[pre]
theorem Qc5 (c:UInt8)(a:List UInt8)(h:c∉a):spl c a=[a]:=by have:=QbY c a [] h;simpa[spl,pre] using this
def glue (c:UInt8):List (List UInt8)->List UInt8
 | []=>[]
 | [p]=>p
 | p::q::L=>p++c::glue c (q::L)
theorem Qif (c:UInt8)(p:List UInt8){L:List (List UInt8)}(h:L≠[]):glue c (pre p L)=p++glue c L:=by
 cases L with
 | nil=>exact absurd rfl h
 | cons a L =>
  cases L with
  | nil=>rfl
  | cons b L=>simp[pre,glue]
theorem uL (c:UInt8):∀l:List UInt8,glue c (spl c l)=l
 | []=>rfl
 | x::l=>by
  by_cases h:x=c
  ·subst h;rw[QbX];have:=zK x l;have b:=uL x l;cases hs:spl x l with
   | nil=>exact absurd hs this
   | cons a L=>rw[hs] at b;simp[glue,b]
  ·rw[ug c x l h,Qif c [x] (zK c l),uL c l];rfl
theorem Qlh (c:UInt8):∀(l:List UInt8) (p:List UInt8),p∈spl c l->c∉p
 | [],p,h=>by
  have:p=[]:=by simpa[spl] using h
  rw[this];simp
 | x::l,p,h=>by
  by_cases d:x=c
  ·subst d;rw[QbX] at h;obtain h|h:=List.mem_cons.1 h
   ·rw[h];simp
   ·exact Qlh x l p h
  ·rw[ug c x l d] at h;have e:=Qlh c l;cases hs:spl c l with
   | nil=>exact absurd hs (zK c l)
   | cons a L =>
    rw[hs] at h e;simp only[pre,List.singleton_append] at h;obtain h|h:=List.mem_cons.1 h
    ·rw[h];intro b;obtain b|b:=List.mem_cons.1 b
     ·exact d b.symm
     ·exact e a jMj b
    ·exact e p (jmj _ h)
theorem Qc6 (c:UInt8):∀(L:List (List UInt8)),L≠[]->(∀p,p∈L->c∉p)->spl c (glue c L)=L
 | [],h,_=>absurd rfl h
 | [p],_,h=>Qc5 c p (h p jMj)
 | p::q::L,_,h=>by show spl c (p++c::glue c (q::L))=_;rw[Qfr c p _ (h p jMj),Qc6 c (q::L) (by simp) (fun r a=>h r (jmj _ a))]
theorem qO (c:UInt8):∀l:List UInt8,(spl c l).length=l.count c+1
 | []=>rfl
 | x::l=>by
  by_cases h:x=c
  ·subst h;rw[QbX,List.length_cons,qO x l,List.count_cons_self]
  ·rw[ug c x l h,List.count_cons_of_ne h];have:=qO c l;cases hs:spl c l with
   | nil=>exact absurd hs (zK c l)
   | cons a L=>rw[hs] at this;simpa[pre] using this
theorem Qib {c:UInt8}:∀{l:List UInt8},c∈l->∃a b,l=a++c::b/\c∉a
 | x::l,h=>by
  by_cases e:x=c
  ·subst e;exact⟨[],l,rfl,by simp⟩
  ·obtain h|h:=List.mem_cons.1 h
   ·exact absurd h.symm e
   ·obtain⟨a,b,f,g⟩:=Qib h;refine⟨x::a,b,by rw[f];rfl,fun d=>?_⟩;obtain d|d:=List.mem_cons.1 d
    ·exact e d.symm
    ·exact g d
theorem Qbn {c:UInt8}:∀{a:List UInt8} (b:List UInt8),c∉a->Lib.indexByte (a++c::b) c=(a.length:Int)
 | [],b,_=>by simp[Lib.indexByte]
 | x::a,b,h=>by
  have f:¬(x=c):=fun e=>h (by rw[e];exact jMj);have g:=Qbn b (fun d=>h (jmj _ d));rw[List.cons_append,Lib.indexByte,jFj (by simpa using f),g];have:¬(((a.length:Int))==-1)=true:=by simp
  rw[jFj this];simp
theorem Qlp {c:UInt8}:∀{a:List UInt8},c∉a->Lib.indexByte a c=-1
 | [],_=>rfl
 | x::a,h=>by have d:¬(x=c):=fun e=>h (by rw[e];exact jMj);have f:=Qlp (fun b=>h (jmj _ b));rw[Lib.indexByte,jFj (by simpa using d),f];rfl
def eS (p:List UInt8):D:=.v (.string (mkS p))
theorem Qki:(.v (.string ⟨#[]⟩):D)=eS []:=rfl
theorem i64 {m:Int}(a : -1000000000000<=m)(b:m<=1000000000000):Qg m:=by unfold Qg;omega
theorem QiN (n:Nat)(l:List UInt8):YO n (mkS l)=some (Lib.indexByte l 32):=by
 unfold YO V2;have e:(⟨#[32]⟩:jSj)=mkS [32]:=rfl;rw[e,Qfb];by_cases h:[32]=l
 ·rw[jTj (jDj h),<-h];rfl
 ·rw[jFj (by simpa using h)];unfold Un;rw[VN];rfl
theorem zB (n:Nat)(l:List UInt8)(x:l.length<=2000):∀(m:Nat) (done:List (List UInt8)) (s:List UInt8) (k:Nat),s.count 32=m->done.length+m=l.count 32->spl 32 l=done++spl 32 s->s.length<=2000->m<k ->
  ∃(done' : List (List UInt8)) (s' : List UInt8),QU (Wb n (mkS l) ((l.count 32:Nat):Int)) k (mkS s,(done.length:Int),done.map eS++List.replicate (m+1) (eS []))=some (mkS s',((l.count 32:Nat):Int),done'.map eS++[eS []])/\done'.length=l.count 32/\spl 32 l=done'++[s']
 | _,_,_,0,_,_,_,_,hk=>absurd hk (by omega)
 | 0,done,s,k+1,hm,hd,hs,_,_=>by
  have g:(32:UInt8)∉s:=List.count_eq_zero.1 hm;have i:l.count 32<=l.length:=List.count_le_length;refine⟨done,s,?_,by omega,by rw[hs,Qc5 32 s g]⟩;have c:Zv (((l.count 32:Nat):Int)+1) (((mkS l).size:Int)+1)=((l.count 32:Nat):Int)+1:=by rw[Qp];unfold Zv;split<;>omega
  rw[ZP (e:=(mkS s,(done.length:Int),done.map eS++List.replicate 1 (eS [])))]
  ·rw[show done.length=l.count 32 by omega];rfl
  ·unfold Wb;dsimp only;rw[c,jFj (by omega)]
 | m+1,done,s,k+1,hm,hd,hs,hsl,hk=>by
  have i:l.count 32<=l.length:=List.count_le_length;have c:Zv (((l.count 32:Nat):Int)+1) (((mkS l).size:Int)+1)=((l.count 32:Nat):Int)+1:=by rw[Qp];unfold Zv;split<;>omega
  obtain⟨a,b,rfl,f⟩:=Qib (List.count_pos_iff.1 (show 0<s.count 32 by omega));have h:b.count 32=m:=by rw[List.count_append,List.count_cons_self,List.count_eq_zero.2 f] at hm;omega
  have j:a.length+b.length+1<=2000:=by simp at hsl;omega
  obtain⟨done',s',r,t,u⟩:=zB n l x m (done++[a]) b k h (by simp;omega) (by rw[hs,Qfr 32 a b f];simp) (by omega) (by omega);refine⟨done',s',?_,t,u⟩;rw[W8 (s':=(mkS b,((done++[a]).length:Int),(done++[a]).map eS++List.replicate (m+1) (eS [])))]
  ·exact r
  ·unfold Wb;dsimp only;have w:(a++32::b).length=a.length+b.length+1:=by simp;omega
   have d:(done.map eS++List.replicate (m+1+1) (eS [])).length=done.length+m+2:=by simp;omega
   rw[c,jTj (by omega),QiN,jBj,Qbn b f,jFj (by omega),jTj (i64 (by omega) (by omega)),Int.add_zero,QjT _ (by omega),jBj,
    jTj (by rw[d];omega),jTj (by rw[d,jtj];omega),jTj (i64 (by omega) (by omega))]
   rw[show(a.length:Int)+1=((a.length+1:Nat):Int) by simp,Qhp _ (by omega),jBj,jTj (i64 (by omega) (by omega))];have o:(a++32::b).drop (a.length+1)=b:=by simp
   have p:(a++32::b).take a.length=a:=by simp
   have q:(done.map eS++List.replicate (m+1+1) (eS [])).set (Int.toNat (done.length:Int)) (.v (.string (mkS a)))=(done++[a]).map eS++List.replicate (m+1) (eS []):=by rw[jtj,List.set_append_right _ _ (by simp)];simp[List.replicate_succ,eS]
   rw[o,p,q];simp
theorem ue {n:Nat}(m:3000<=n){l:List UInt8}(g:l.length<=2000):YN n (mkS l)=some ((spl 32 l).map eS):=by
 have k:l.count 32<=l.length:=List.count_le_length;obtain⟨done,s,i,f,j⟩:=zB n l g (l.count 32) [] l n rfl (by simp) (by simp) g (by omega);have d:Zv (((l.count 32:Nat):Int)+1) (((mkS l).size:Int)+1)=((l.count 32+1:Nat):Int):=by rw[Qp];unfold Zv;split<;>omega
 unfold YN YI;have a:UC n (mkS l) ⟨#[32]⟩=some ((l.count 32:Nat):Int):=by show some ((Lib.countByte (mkS l).data.toList 32:Nat):Int)=_;rw[VN];rfl
 rw[a,jBj,jTj (i64 (by omega) (by omega)),jTj (by rw[Qp];exact i64 (by omega) (by omega)),d,jTj (by omega),jTj (i64 (by omega) (by omega))];rw[jtj,Qki];have e : QU (Wb n (mkS l) ((l.count 32:Nat):Int)) n (mkS l,0,List.replicate (l.count 32+1) (eS []))=some (mkS s,((l.count 32:Nat):Int),done.map eS++[eS []]):=i;rw[e,jBj];dsimp only;have c:(done.map eS++[eS []]).length=l.count 32+1:=by simp[f]
 have h:(done.map eS++[eS []]).set (Int.toNat ((l.count 32:Nat):Int)) (.v (.string (mkS s)))=(spl 32 l).map eS:=by rw[jtj,List.set_append_right _ _ (by simp[f]),j];simp[f,eS]
 have b:((spl 32 l).map eS).length=l.count 32+1:=by rw[jlj,qO]
 rw[jTj (by rw[c];omega),jTj (by rw[c,jtj];omega),jTj (i64 (by omega) (by omega)),h,jTj (by rw[b];exact⟨by decide,by omega,by omega,.inr rfl⟩)];rw[show Int.toNat (((l.count 32:Nat):Int)+1)=l.count 32+1 by omega,<-b,List.take_length];rfl
def US (l:List UInt8):Prop:=∀c,c∈l->48<=c.toNat/\c.toNat<=57
instance (l:List UInt8):Decidable (US l):=by unfold US;infer_instance
def yX:Nat->List UInt8->Nat
 | n,[]=>n
 | n,c::l=>yX (10*n+(c.toNat - 48)) l
def yk (d:List UInt8):Prop:=d≠[]/\d.length<=9/\US d/\(d.head?≠some 48\/d.length=1)
instance (l:List UInt8):Decidable (yk l):=by unfold yk;infer_instance
theorem uJ {c:UInt8}{l:List UInt8}:US (c::l)↔(48<=c.toNat/\c.toNat<=57)/\US l:=by simp[US]
theorem QgJ {a b:List UInt8}:US (a++b)↔US a/\US b:=by simp only[US,List.mem_append];exact⟨fun h=>⟨fun c hc=>h c (.inl hc),fun c hc=>h c (.inr hc)⟩,fun h c hc=>hc.elim (h.1 c) (h.2 c)⟩
theorem QcT:∀(a b:List UInt8) (n:Nat),yX n (a++b)=yX (yX n a) b
 | [],_,_=>rfl
 | c::a,b,n=>QcT a b _
theorem Qgh (a:List UInt8)(c:UInt8)(n:Nat):yX n (a++[c])=10*yX n a+(c.toNat - 48):=by rw[QcT];rfl
theorem EU {k:Nat}(h:k<10):(UInt8.ofNat (48+k)).toNat=48+k:=by simp only[UInt8.toNat_ofNat'];omega
theorem Qbl {k:Nat}(h:k<10):US [UInt8.ofNat (48+k)]:=by intro c hc;rw[List.mem_singleton] at hc;rw[hc,EU h];omega
theorem qi (u:Nat):US (Lib.decDigits u)/\Lib.decDigits u≠[]/\yX 0 (Lib.decDigits u)=u/\((Lib.decDigits u).head?≠some 48\/(Lib.decDigits u).length=1)/\∀k,1<=k->u<10 ^ k->(Lib.decDigits u).length<=k:=by
 induction u using Nat.strongRecOn with
 | _ u s =>
  by_cases h:u<10
  ·rw[Lib.decDigits,dif_pos h];refine⟨Qbl h,by simp,?_,.inr rfl,fun k f _=>by simpa using f⟩;show 10*0+((UInt8.ofNat (48+u)).toNat - 48)=u;rw[EU h];omega
  ·rw[Lib.decDigits,dif_neg h];obtain⟨j,m,e,n,o⟩:=s (u / 10) (by omega);have g:u % 10<10:=Nat.mod_lt _ (by decide);refine⟨QgJ.2 ⟨j,Qbl g⟩,by simp,?_,.inl ?_,fun k f i=>?_⟩
   ·rw[Qgh,e,EU g];omega
   ·have b:(Lib.decDigits (u / 10)).head?≠some 48:=by
     intro d;have q:=n.resolve_left (fun hc=>hc d);have r:yX 0 (Lib.decDigits (u / 10))=0:=by
      match hd:Lib.decDigits (u / 10),q with
      | [c],_ =>
       rw[hd] at d;simp only[List.head?_cons,jIj] at d;rw[d];rfl
     rw[e] at r;omega
    cases hd:Lib.decDigits (u / 10) with
    | nil=>exact absurd hd m
    | cons a l=>rw[hd] at b;simpa using b
   ·cases k with
    | zero=>omega
    | succ k =>
     have p:k≠0:=by rintro rfl;simp at i;omega
     have:=o k (by omega) (by rw[Nat.pow_succ] at i;omega);rw[jaj];simpa using this
theorem Qis {u:Nat}(h:u<1000000000):yk (Lib.decDigits u):=by obtain⟨a,b,e,c,d⟩:=qi u;exact⟨b,d 9 (by decide) (by simpa using h),a,c⟩
def num (w:List UInt8):Option Int:=if yk w then some (yX 0 w:Int) else none
theorem Ed {n:Int}(h:0<=n):Lib.itoa n=Lib.decDigits n.toNat:=by unfold Lib.itoa;rw[jFj (by omega)]
theorem uv {n:Int}(a:0<=n)(c:n<1000000000):num (Lib.itoa n)=some n:=by have b:=qi n.toNat;unfold num;rw[Ed a,jTj (Qis (by omega)),b.2.2.1];congr 1;omega
theorem QdM {n:Int}(h:0<=n):US (Lib.itoa n):=by rw[Ed h];exact(qi _).1
theorem qa {n:Int}(a:0<=n)(b:n<1000000000):(Lib.itoa n).length<=9:=by rw[Ed a];exact(Qis (u:=n.toNat) (by omega)).2.1
abbrev Wrd:=List UInt8
theorem Qem {m:Int}(h:Qg m):IntKind.wrap .i64 m=m:=by unfold Qg at h;rw[IntKind.wrap_i64];omega
theorem kx {l:Wrd}{i:Nat}{x:UInt8}(h:l[i]?=some x):Kf (mkS l) i=x.toNat:=by obtain⟨hi,a⟩:=jGj h;show(l.toArray[i]!).toNat=x.toNat;rw[getElem!_pos l.toArray i (by simpa using hi)];simp[a]
theorem QjN {m:Int}(a:0<=m)(b:m<=9):IntKind.wrap .i32 m=m:=by
 have:m=0\/m=1\/m=2\/m=3\/m=4\/m=5\/m=6\/m=7\/m=8\/m=9:=by omega
 obtain h|h|h|h|h|h|h|h|h|h:=this<;>subst h<;>decide
theorem QkB {i v:Nat}(hi:i<=9)(h:v<10 ^ i):v<1000000000:=by have:10 ^ i<=10 ^ 9:=Nat.pow_le_pow_right (by decide) hi;omega
theorem Qjo {d a:Wrd}{i:Nat}{x:UInt8}(c:d.drop i=x::a):i<d.length/\d[i]?=some x/\d.drop (i+1)=a:=by
 have b:i<d.length:=by
  obtain h|h:=Nat.lt_or_ge i d.length
  ·exact h
  ·rw[List.drop_eq_nil_of_le h] at c;cases c
 have:=List.drop_eq_getElem_cons b;rw[c] at this;refine⟨b,?_,(List.cons.inj this).2.symm⟩;rw[jej b];exact congrArg some (List.cons.inj this).1.symm
theorem Qh9 (n:Nat){d:Wrd}{i v:Nat}{x:UInt8}(b:i<d.length)(a:Utf8.decode (mkS d) i=(x.toNat,1))(g:48<=x.toNat/\x.toNat<=57)(h:d.length<=9)(q:v<1000000000) :
  ZC n (mkS d) ((v:Int),i)=some (.inl (((10*v+(x.toNat - 48):Nat):Int),i+1)):=by
 have c:i<(mkS d).size:=by rw[Qp];exact b
 have e:IntKind.wrap .i32 ((x.toNat:Int) - 48)=(x.toNat:Int) - 48:=QjN (by omega) (by omega);have f:IntKind.wrap .i64 ((x.toNat:Int) - 48)=(x.toNat:Int) - 48:=Qem (i64 (by omega) (by omega));have j:¬((x.toNat:Int)<48):=by omega
 have k:¬((x.toNat:Int)>57):=by omega
 have l:¬(((mkS d).size:Int)>9):=by rw[Qp];omega
 have m:Qg (10*(v:Int)):=i64 (by omega) (by omega);have o:Qg (10*(v:Int)+((x.toNat:Int) - 48)):=i64 (by omega) (by omega);have p:(10*(v:Int)+((x.toNat:Int) - 48))=((10*v+(x.toNat - 48):Nat):Int):=by omega
 unfold ZC;simp only[a,c,if_true,jFj j,jFj k,jFj l,jTj m,e,f,jTj o];rw[p]
theorem QdQ (n:Nat)(d:Wrd):∀(a:Wrd) (i v k:Nat),d.drop i=a->i<=d.length->v<10 ^ i->a.length<k ->
  QU (ZC n (mkS d)) k ((v:Int),i)=some (if US a/\(d.length<=9\/a=[]) then .inr (yX v a:Int) else .inl ())
 | _,_,_,0,_,_,_,hk=>absurd hk (by omega)
 | [],i,v,k+1,hd,hi,_,_=>by
  have u:i=d.length:=by have:=List.drop_eq_nil_iff.1 hd;omega
  rw[ZP (e:=.inr (v:Int)),jTj (show US []/\(d.length<=9\/([]:Wrd)=[]) from⟨fun c hc=>(by cases hc),.inr rfl⟩)]
  ·rfl
  unfold ZC;dsimp only;rw[jFj (by rw[Qp];omega)]
 | x::a,i,v,k+1,hd,hi,hv,hk=>by
  obtain⟨l,w,o⟩:=Qjo hd;have j:=kx w;by_cases g:48<=x.toNat/\x.toNat<=57
  ·have b:Utf8.decode (mkS d) i=(x.toNat,1):=by have:=Ek (s:=mkS d) (p:=i) (by rw[j];omega);rw[j] at this;exact this
   by_cases f:d.length<=9
   ·have q:v<1000000000:=QkB (by omega) hv;have y:=QdQ n d a (i+1) (10*v+(x.toNat - 48)) k o l (by rw[Nat.pow_succ];omega) (by simp at hk;omega);rw[W8 (s':=(((10*v+(x.toNat - 48):Nat):Int),i+1)),y]
    ·have e:(US (x::a)/\(d.length<=9\/x::a=[]))↔(US a/\(d.length<=9\/a=[])):=by rw[uJ];exact⟨fun h=>⟨h.1.2,.inl f⟩,fun h=>⟨⟨g,h.1⟩,.inl f⟩⟩
     by_cases m:US a/\(d.length<=9\/a=[])
     ·rw[jTj m,jTj (e.2 m)];rfl
     ·rw[jFj m,jFj (fun h=>m (e.1 h))]
    ·exact Qh9 n l b g f q
   ·rw[ZP (e:=.inl ()),jFj (fun h=>h.2.elim (fun h=>f h) (fun h=>by cases h))];unfold ZC;dsimp only;rw[jTj (by rw[Qp];omega),b];dsimp only;rw[jFj (by omega),jFj (by omega),jTj (by rw[Qp];omega)]
  ·rw[ZP (e:=.inl ()),jFj (fun h=>g (uJ.1 h.1).1)];unfold ZC;dsimp only;rw[jTj (by rw[Qp];omega)];by_cases r:x.toNat<128
   ·have b:Utf8.decode (mkS d) i=(x.toNat,1):=by have:=Ek (s:=mkS d) (p:=i) (by rw[j];exact r);rw[j] at this;exact this
    rw[b];dsimp only;by_cases t:x.toNat<48
    ·rw[jTj (by omega)]
    ·rw[jFj (by omega),jTj (by omega)]
   ·have:=yl (s:=mkS d) (p:=i) (by rw[j];exact r);rw[jFj (by omega),jTj (by omega)]
def intV (w:Wrd):Int:=if US w/\(w.length<=9\/w=[]) then(yX 0 w:Int) else 0
theorem Qia {w:Wrd}{v:Int}(h:num w=some v):intV w=v:=by
 unfold num at h;split at h;case isFalse=>cases h
 rename_i a;unfold intV;rw[jTj ⟨a.2.2.1,.inl a.2.1⟩];exact Option.some.inj h
theorem QeQ {n:Nat}(k:3000<=n){w:Wrd}(l:w.length<=2000):YP n (mkS w)=some (intV w,(num w).isSome):=by
 unfold YP;have d:QU (ZC n (mkS w)) n (0,0)=_:=QdQ n w w 0 0 n rfl (Nat.zero_le _) (by decide) (by omega);rw[d];unfold intV num;have j:(⟨#[]⟩:jSj)=mkS []:=rfl;by_cases hc:US w/\(w.length<=9\/w=[])
 ·rw[jTj hc,jTj hc,jBj];dsimp only;rw[j,Qfb];cases w with
  | nil =>
   have a:¬yk []:=fun h=>h.1 rfl;rw[jFj (by decide),jFj a];rfl
  | cons x r =>
   have c:(x::r).length<=9:=hc.2.resolve_right (by simp);have i:UY (mkS (x::r)) 0=some (x.toNat:Int):=Qhq (x::r) 0;rw[jTj (by simp),i];by_cases g:(x::r).length=1
   ·rw[jTj (by rw[Qp,g];rfl),jTj ⟨by simp,c,hc.1,.inr g⟩];rfl
   ·rw[jFj (by rw[Qp];omega),jBj];by_cases b:x=48
    ·have a:¬yk (x::r):=fun h=>by
      obtain h|h:=h.2.2.2
      ·rw[b] at h;exact h rfl
      ·exact g h
     rw[jFj a,b];rfl
    ·have f : ¬((x.toNat:Int)=48):=fun e=>b (UInt8.toNat_inj.1 (by show x.toNat=48;omega));rw[jTj ⟨by simp,c,hc.1,.inl (by simpa using b)⟩];simp[f]
 ·have a:¬yk w:=fun h=>hc ⟨h.2.2.1,.inl h.2.1⟩;rw[jFj hc,jFj hc,jBj,jFj a];rfl
end Go.Proofs.YtmhkcfjajpjigaaGreatDoor
