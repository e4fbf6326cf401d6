/- Own texts. -/
import GoSem.Conv.FloatToFloat
import GoSem.Conv.FloatToInt
import GoSem.Op.FloatArith
import Derived.Test.YtcfmoailaddifaaGreatDoorSxTwentyFive
import Derived.Test.YtcfmoailaddifaaGreatDoorShelf2
set_option linter.unusedVariables false
set_option linter.unusedSimpArgs false
set_option linter.unnecessarySimpa false
namespace Go.Flo
open Ieee
def V (s:Bool) (m:Nat) (i:Int):Int:=signed s m (i+2000).toNat
def vn (m:Nat) (i:Int):Nat:=m * 2 ^ (i+2000).toNat
theorem V_eq (s:Bool) (m:Nat) (i:Int):V s m i=if s then -(vn m i:Int) else (vn m i:Int):=by
 unfold V signed vn
 rw [Nat.shiftLeft_eq]
theorem XU {m:Nat} {i j:Int} (h : -2000≤j) (hij:j≤i):vn m i=m * 2 ^ (i - j).toNat * 2 ^ (j+2000).toNat:=by
 unfold vn
 rw [show (i+2000).toNat=(i - j).toNat+(j+2000).toNat by omega,Nat.pow_add,Nat.mul_assoc]
theorem zH (s:Bool) (m k c:Nat):signed s m (k+c)=signed s m k * ((2 ^ c:Nat):Int):=by
 unfold signed
 rw [Nat.shiftLeft_eq,Nat.shiftLeft_eq,Nat.pow_add,← Nat.mul_assoc]
 cases s
 ·simp
 ·simp [Int.neg_mul]
theorem yC {a b c:Int} (h:0 < c):compare (a * c) (b * c)=compare a b:=by
 rcases Int.lt_trichotomy a b with h1 | h1 | h1
 ·have h2:=Int.mul_lt_mul_of_pos_right h1 h
  rw [Int.compare_eq_lt.2 h1,Int.compare_eq_lt.2 h2]
 ·subst h1;rw [Int.compare_eq_eq.2 rfl,Int.compare_eq_eq.2 rfl]
 ·have h2:=Int.mul_lt_mul_of_pos_right h1 h
  rw [Int.compare_eq_gt.2 h1,Int.compare_eq_gt.2 h2]
theorem order_val {s t:Bool} {m n:Nat} {i j:Int} (hi : -2000≤i) (hj : -2000≤j):(Datum.number s m i).order (Datum.number t n j)=some (compare (V s m i) (V t n j)):=by
 show some (compare (signed s m (i - min i j).toNat) (signed t n (j - min i j).toNat))=_
 have e1:(i+2000).toNat=(i - min i j).toNat+(min i j+2000).toNat:=by omega
 have e2:(j+2000).toNat=(j - min i j).toNat+(min i j+2000).toNat:=by omega
 unfold V
 rw [e1,e2,zH,zH,yC]
 have:=Nat.two_pow_pos (min i j+2000).toNat
 omega
theorem yz (w:Toward) (s:Bool) (n:Nat):w.cut s n 0=n:=by
 unfold Toward.cut
 have h:1 <<< min 0 (n.log2+2)=1:=by rw [Nat.zero_min];rfl
 simp only [h,Nat.div_one,Nat.mod_one]
 cases w <;> simp
theorem Qcb (s:Bool) {n d:Nat} (hd:d≤n.log2+2) (h:2 ^ d ∣ n) (w:Toward):w.cut s n d=n / 2 ^ d:=by
 unfold Toward.cut
 have hg:1 <<< min d (n.log2+2)=2 ^ d:=by rw [Nat.min_eq_left hd,Nat.one_shiftLeft]
 have h0:n % 2 ^ d=0:=Nat.mod_eq_zero_of_dvd h
 have hp:=Nat.two_pow_pos d
 simp only [hg,h0]
 cases w <;> simp
structure Fmt (f:Format) (lp:Int) (fb E:Nat):Prop where
 fbE:f.fractionBits=fb
 lpE:f.leastPlace=lp
 lo : -1500≤lp
 h0:lp≤0
 inf:f.infRung≤f.signWeight
 big:∀ d k:Nat,d≤((E:Int) - lp).toNat→k < 2 ^ (fb+1)→d * 2 ^ fb+k < f.infRung
theorem f32:Fmt single (-149) 23 16 where
 fbE:=rfl
 lpE:=by decide
 lo:=by decide
 h0:=by decide
 inf:=by decide
 big d k hd hk:=by
  have:single.infRung=255 * 2 ^ 23:=by decide
  rw [this]
  omega
theorem f64 {E:Nat} (hE:E≤200):Fmt double (-1074) 52 E where
 fbE:=rfl
 lpE:=by decide
 lo:=by decide
 h0:=by decide
 inf:=by decide
 big d k hd hk:=by
  have:double.infRung=2047 * 2 ^ 52:=by decide
  rw [this]
  omega
theorem jd {f:Format} {lp:Int} {fb E:Nat} (h:Fmt f lp fb E) (s:Bool) {d k:Nat} (hd:d≤((E:Int) - lp).toNat) (hk:k < 2 ^ (fb+1)) (hn:d=0 ∨ 2 ^ fb≤k) :
  f.read (f.word s (min (d * f.binade+k) f.infRung))=.number s k (lp+d):=by
 have hb:f.binade=2 ^ fb:=by unfold Format.binade;rw [h.fbE]
 have hlt:=h.big d k hd hk
 have hinf:=h.inf
 rw [hb,Nat.min_eq_left (by omega)]
 obtain ⟨r,hr⟩:∃ r,r=d * 2 ^ fb+k:=⟨_,rfl⟩
 rw [← hr] at hlt ⊢
 have hw:f.word s r / f.signWeight % 2=(if s then 1 else 0)∧f.word s r % f.signWeight=r:=by
  unfold Format.word
  cases s
  ·simp only [Bool.false_eq_true,if_false]
   rw [Nat.div_eq_of_lt (show r < f.signWeight by omega),Nat.mod_eq_of_lt (show r < f.signWeight by omega)]
   exact ⟨rfl,rfl⟩
  ·simp only [if_true]
   have hp:0 < f.signWeight:=by omega
   rw [Nat.add_div_left _ hp,Nat.div_eq_of_lt (show r < f.signWeight by omega),Nat.add_mod_left,Nat.mod_eq_of_lt (show r < f.signWeight by omega)]
   exact ⟨rfl,rfl⟩
 unfold Format.read
 rw [hw.1,hw.2,hb,h.lpE]
 have hs:((if s=true then 1 else 0) == 1)=s:=by cases s <;> rfl
 simp only [hs]
 have hp:=Nat.two_pow_pos fb
 have hpow:2 ^ (fb+1)=2 * 2 ^ fb:=by rw [Nat.pow_succ];omega
 by_cases hk2:k < 2 ^ fb
 ·have hd0:d=0:=by omega
  subst hd0
  have:r=k:=by omega
  subst this
  rw [if_pos hk2];simp
 ·have e:r=(d+1) * 2 ^ fb+(k - 2 ^ fb):=by rw [Nat.add_mul];omega
  have hq:k - 2 ^ fb < 2 ^ fb:=by omega
  have h1:r / 2 ^ fb=d+1:=by
   rw [e,Nat.add_comm,Nat.add_mul_div_right _ _ hp,Nat.div_eq_of_lt hq];omega
  have h2:r % 2 ^ fb=k - 2 ^ fb:=by
   rw [e,Nat.add_comm,Nat.add_mul_mod_self_right,Nat.mod_eq_of_lt hq]
  have hge:¬ r < 2 ^ fb:=by rw [e,Nat.add_mul];omega
  rw [if_neg hge,if_pos hlt,h1,h2]
  congr 1
  omega
theorem Ks {f:Format} {lp:Int} {fb E:Nat} (h:Fmt f lp fb E) (s:Bool) {m q:Nat} {i p:Int} (hq:q < 2 ^ (fb+1)) (hp:lp≤p) (hi : -1900≤i) (hv:vn m i=vn q p) (hb:vn m i < 2 ^ (2000+E)) :
  ∃ n j,f.read (f.write (.number s m i))=.number s n j∧lp≤j∧n < 2 ^ (fb+1)∧vn n j=vn m i:=by
 have hlo:=h.lo
 show ∃ n j,f.read (f.nearest s m i)=_∧_
 unfold Format.nearest
 by_cases hm:m=0
 ·subst hm
  rw [if_pos rfl]
  have:=jd h s (d:=0) (k:=0) (by omega) (Nat.two_pow_pos _) (.inl rfl)
  have e:min (0 * f.binade+0) f.infRung=0:=by simp
  rw [e] at this
  exact ⟨0,_,this,by omega,Nat.two_pow_pos _,by unfold vn;simp⟩
 rw [if_neg hm]
 -- m=q 2^k,or m is small
 have hq0:q≠0:=by
  intro e
  subst e
  unfold vn at hv
  have:=Nat.two_pow_pos (i+2000).toNat
  rw [Nat.zero_mul] at hv
  rcases Nat.mul_eq_zero.1 hv with h1 | h1
  ·exact hm h1
  ·omega
 have hk:∃ r k:Nat,m=r * 2 ^ k∧r < 2 ^ (fb+1)∧r≠0∧lp≤k+i:=by
  rcases Int.le_total i p with hip | hip
  ·refine ⟨q,(p - i).toNat,?_,hq,hq0,by omega⟩
   rw [XU (by omega) hip] at hv
   unfold vn at hv
   exact Nat.eq_of_mul_eq_mul_right (Nat.two_pow_pos _) hv
  ·refine ⟨m,0,by simp,?_,hm,by omega⟩
   rw [XU (m:=m) (j:=p) (by omega) hip] at hv
   unfold vn at hv
   have:=Nat.eq_of_mul_eq_mul_right (Nat.two_pow_pos _) hv
   have h1:=Nat.two_pow_pos (i - p).toNat
   have h2:m * 1≤m * 2 ^ (i - p).toNat:=Nat.mul_le_mul_left _ h1
   omega
 obtain ⟨r,k,rfl,hr,hr0,hki⟩:=hk
 have hl:(r * 2 ^ k).log2=r.log2+k:=by
  have h1:=Nat.log2_self_le hr0
  have h2:=Nat.lt_log2_self (n:=r)
  refine (Nat.log2_eq_iff hm).2 ⟨?_,?_⟩
  ·rw [Nat.pow_add];exact Nat.mul_le_mul_right _ h1
  ·rw [show r.log2+k+1=(r.log2+1)+k by omega,Nat.pow_add];exact Nat.mul_lt_mul_of_pos_right h2 (Nat.two_pow_pos _)
 have hrl:r.log2≤fb:=by
  have:=(Nat.log2_lt hr0).2 hr
  omega
 have hbnd:i+(r * 2 ^ k).log2 < E:=by
  have h1:=Nat.log2_self_le hm
  have h3:2 ^ ((r * 2 ^ k).log2+(i+2000).toNat)≤vn (r * 2 ^ k) i:=by
   unfold vn
   rw [Nat.pow_add];exact Nat.mul_le_mul_right _ h1
  have h4:=Nat.lt_of_le_of_lt h3 hb
  have:=(Nat.pow_lt_pow_iff_right (by omega:1 < 2)).1 h4
  omega
 rw [h.fbE,h.lpE,hl]
 rw [hl] at hbnd
 obtain ⟨L,hL⟩:∃ L:Int,L=max (i+((r.log2+k:Nat):Int) - (fb:Int)) lp:=⟨_,rfl⟩
 simp only [← hL]
 have hkept:∃ K:Nat,Toward.even.cut s ((r * 2 ^ k) <<< (i - L).toNat) (L - i).toNat=K∧vn K L=vn (r * 2 ^ k) i∧K≠0∧i+((r.log2+k:Nat):Int)=L+(K.log2:Int):=by
  rcases Int.le_total L i with hLi | hLi
  ·refine ⟨(r * 2 ^ k) <<< (i - L).toNat,?_,?_,?_,?_⟩
   ·rw [show (L - i).toNat=0 by omega,yz]
   ·rw [XU (i:=i) (j:=L) (by omega) hLi,Nat.shiftLeft_eq];rfl
   ·rw [Nat.shiftLeft_eq]
    have:=Nat.two_pow_pos (i - L).toNat
    intro e
    rcases Nat.mul_eq_zero.1 e with h1 | h1
    ·exact hm h1
    ·omega
   ·rw [Nat.shiftLeft_eq,Nat.mul_assoc,← Nat.pow_add]
    have:(r * 2 ^ (k+(i - L).toNat)).log2=r.log2+(k+(i - L).toNat):=by
     have h1:=Nat.log2_self_le hr0
     have h2:=Nat.lt_log2_self (n:=r)
     have h0:r * 2 ^ (k+(i - L).toNat)≠0:=by
      have:=Nat.two_pow_pos (k+(i - L).toNat)
      intro e
      rcases Nat.mul_eq_zero.1 e with h1 | h1
      ·exact hr0 h1
      ·omega
     refine (Nat.log2_eq_iff h0).2 ⟨?_,?_⟩
     ·rw [Nat.pow_add];exact Nat.mul_le_mul_right _ h1
     ·rw [show r.log2+(k+(i - L).toNat)+1=(r.log2+1)+(k+(i - L).toNat) by omega,Nat.pow_add 2 (r.log2+1)];exact Nat.mul_lt_mul_of_pos_right h2 (Nat.two_pow_pos _)
    rw [this];omega
  ·-- dropped digits are noughts
   have hdk:(L - i).toNat≤k:=by omega
   have hdv:r * 2 ^ k=r * 2 ^ (k - (L - i).toNat) * 2 ^ (L - i).toNat:=by
    rw [Nat.mul_assoc,← Nat.pow_add];congr 2;omega
   refine ⟨r * 2 ^ (k - (L - i).toNat),?_,?_,?_,?_⟩
   ·rw [show (i - L).toNat=0 by omega,Nat.shiftLeft_zero,Qcb s (by rw [hl];omega) ⟨r * 2 ^ (k - (L - i).toNat),by rw [hdv];rw [Nat.mul_comm]⟩,hdv,Nat.mul_div_cancel _ (Nat.two_pow_pos _)]
   ·rw [XU (i:=L) (j:=i) (by omega) hLi,← hdv];rfl
   ·have:=Nat.two_pow_pos (k - (L - i).toNat)
    intro e
    rcases Nat.mul_eq_zero.1 e with h1 | h1
    ·exact hr0 h1
    ·omega
   ·have:(r * 2 ^ (k - (L - i).toNat)).log2=r.log2+(k - (L - i).toNat):=by
     have h1:=Nat.log2_self_le hr0
     have h2:=Nat.lt_log2_self (n:=r)
     have h0:r * 2 ^ (k - (L - i).toNat)≠0:=by
      have:=Nat.two_pow_pos (k - (L - i).toNat)
      intro e
      rcases Nat.mul_eq_zero.1 e with h1 | h1
      ·exact hr0 h1
      ·omega
     refine (Nat.log2_eq_iff h0).2 ⟨?_,?_⟩
     ·rw [Nat.pow_add];exact Nat.mul_le_mul_right _ h1
     ·rw [show r.log2+(k - (L - i).toNat)+1=(r.log2+1)+(k - (L - i).toNat) by omega,Nat.pow_add 2 (r.log2+1)];exact Nat.mul_lt_mul_of_pos_right h2 (Nat.two_pow_pos _)
    rw [this];omega
 obtain ⟨K,hK,hv2,hK0,hlog⟩:=hkept
 rw [hK]
 have hKl:K < 2 ^ (fb+1):=(Nat.log2_lt hK0).1 (by omega)
 have hrw:=jd h s (d:=(L - lp).toNat) (k:=K) (by omega) hKl (by
  by_cases hLl:L=lp
  ·left;omega
  ·right
   exact Nat.le_trans (Nat.pow_le_pow_right (by omega) (by omega:fb≤K.log2)) (Nat.log2_self_le hK0))
 refine ⟨K,L,?_,by omega,hKl,hv2⟩
 rw [hrw]
 congr 1
 omega
open Go.SX
theorem read_num {b:Nat} {s:Bool} {m:Nat} {e:Int} (h:single.read b=.number s m e):m < 2 ^ 24∧-149≤e∧e≤104:=by
 unfold Format.read at h
 have e1:single.signWeight=2 ^ 31:=by decide
 have e2:single.binade=2 ^ 23:=by decide
 have e3:single.infRung=255 * 2 ^ 23:=by decide
 have e4:single.leastPlace=-149:=by decide
 simp only [e1,e2,e3,e4] at h
 obtain ⟨r,hr⟩:∃ r,r=b % 2 ^ 31:=⟨_,rfl⟩
 rw [← hr] at h
 split at h
 ·cases h;omega
 ·split at h
  ·cases h;omega
  ·split at h <;> cases h
theorem Qaa {s:Bool} {m n:Nat} {i j:Int}:compare (V s m i) (V s n j)=.eq↔vn m i=vn n j:=by
 rw [Int.compare_eq_eq,V_eq,V_eq]
 cases s
 ·simp only [Bool.false_eq_true,if_false];omega
 ·simp only [if_true];omega
theorem Qct {m:Nat} {e:Int} (he : -149≤e):vn (8388608 * m) (-19+e)=16 * vn m e∧vn m (e+4)=16 * vn m e:=by
 unfold vn
 obtain ⟨A,hA⟩:∃ A:Nat,A=(e+1981).toNat:=⟨_,rfl⟩
 rw [show (-19+e+2000).toNat=A by omega,show (e+2000).toNat=A+19 by omega,show (e+4+2000).toNat=A+23 by omega,Nat.pow_add,Nat.pow_add]
 generalize 2 ^ A=X
 have h1:(2:Nat) ^ 19=524288:=by decide
 have h2:(2:Nat) ^ 23=8388608:=by decide
 rw [h1,h2]
 constructor
 ·rw [Nat.mul_assoc 8388608,← Nat.mul_assoc m X];omega
 ·rw [← Nat.mul_assoc m X,← Nat.mul_assoc m X];omega
theorem mul16 {b:Nat} {s:Bool} {m:Nat} {e:Int} (h:single.read b=.number s m e) (hb:vn m e≤2 ^ 2010) :
  ∃ y n p,fop .mul .f32 1098907648 b=some y∧single.read y=.number s n p∧-149≤p∧n < 2 ^ 24∧vn n p=16 * vn m e:=by
 obtain ⟨h1,h2,h3⟩:=read_num h
 obtain ⟨v1,v2⟩:=Qct (m:=m) h2
 obtain ⟨n,p,r1,r2,r3,r4⟩:=Ks f32 s (m:=8388608 * m) (i:=-19+e) (q:=m) (p:=e+4) h1 (by omega) (by omega) (by rw [v1,v2]) (by rw [v1];omega)
 refine ⟨single.write (.number s (8388608 * m) (-19+e)),n,p,?_,r1,r2,r3,by rw [r4,v1]⟩
 show single.mul 1098907648 b=_
 unfold Format.mul
 rw [show single.read 1098907648=.number false 8388608 (-19) by decide,h]
 show some (single.write (.number (false ^^ s) (8388608 * m) (-19+e)))=_
 rw [Bool.false_xor]
theorem Qca (n d:Nat):n / (1 <<< min d (n.log2+2))=n / 2 ^ d∧n % (1 <<< min d (n.log2+2))=n % 2 ^ d:=by
 rw [Nat.one_shiftLeft]
 rcases Nat.le_total d (n.log2+2) with h | h
 ·rw [Nat.min_eq_left h];exact ⟨rfl,rfl⟩
 ·rw [Nat.min_eq_right h]
  have h1:=Nat.lt_log2_self (n:=n)
  have h2:2 ^ (n.log2+1)≤2 ^ (n.log2+2):=Nat.pow_le_pow_right (by omega) (by omega)
  have h3:2 ^ (n.log2+2)≤2 ^ d:=Nat.pow_le_pow_right (by omega) h
  rw [Nat.div_eq_of_lt (by omega),Nat.div_eq_of_lt (by omega),Nat.mod_eq_of_lt (by omega),Nat.mod_eq_of_lt (by omega)]
  exact ⟨rfl,rfl⟩
theorem QcB {w:Toward} (hw:w=.down ∨ w=.zero) (s:Bool) (n d:Nat):∃ r,w.cut s n d=n / 2 ^ d+r∧r≤1∧(n % 2 ^ d=0→r=0):=by
 obtain ⟨g1,g2⟩:=Qca n d
 unfold Toward.cut
 simp only [g1,g2]
 rcases hw with rfl | rfl
 ·refine ⟨_,rfl,Bool.toNat_le _,fun h=>?_⟩
  rw [h];simp
 ·exact ⟨0,rfl,by omega,fun _=>rfl⟩
theorem jx {w:Toward} (hw:w=.down ∨ w=.zero) (s:Bool) (n:Nat) (p:Int) (hp : -1900≤p) :
  (vn (w.cut s (n <<< p.toNat) (-p).toNat) 0=vn n p↔2 ^ 2000 ∣ vn n p)∧w.cut s (n <<< p.toNat) (-p).toNat * 2 ^ 2000≤vn n p+2 ^ 2000:=by
 have e0:((0:Int)+2000).toNat=2000:=rfl
 by_cases h:0≤p
 ·rw [show (-p).toNat=0 by omega,yz,Nat.shiftLeft_eq]
  unfold vn
  rw [e0,show (p+2000).toNat=p.toNat+2000 by omega,Nat.pow_add,← Nat.mul_assoc]
  exact ⟨⟨fun _=>Nat.dvd_mul_left _ _,fun _=>rfl⟩,by omega⟩
 ·obtain ⟨d,hd⟩:∃ d:Nat,d=(-p).toNat:=⟨_,rfl⟩
  obtain ⟨k,hk⟩:∃ k:Nat,k=(p+2000).toNat:=⟨_,rfl⟩
  rw [← hd,show p.toNat=0 by omega,Nat.shiftLeft_zero]
  unfold vn
  rw [e0,← hk,show (2:Nat) ^ 2000=2 ^ d * 2 ^ k by rw [← Nat.pow_add];congr 1;omega]
  obtain ⟨r,h1,h2,h3⟩:=QcB hw s n d
  rw [h1]
  have hX:=Nat.two_pow_pos k
  have hY:=Nat.two_pow_pos d
  generalize 2 ^ k=X at *
  generalize 2 ^ d=Y at *
  have hdiv:=Nat.div_add_mod n Y
  have hlt:=Nat.mod_lt n hY
  refine ⟨⟨fun e=>?_,fun e=>?_⟩,?_⟩
  ·rw [← Nat.mul_assoc] at e
   have:=Nat.eq_of_mul_eq_mul_right hX e
   rw [← this]
   exact Nat.mul_dvd_mul_right (Nat.dvd_mul_left _ _) X
  ·have h4:Y ∣ n:=Nat.dvd_of_mul_dvd_mul_right hX e
   have h5:=Nat.mod_eq_zero_of_dvd h4
   rw [h3 h5,Nat.add_zero,← Nat.mul_assoc,Nat.div_mul_cancel h4]
  ·rw [← Nat.mul_assoc,← Nat.add_mul]
   refine Nat.mul_le_mul_right X ?_
   rw [Nat.add_mul]
   have h6:r * Y≤1 * Y:=Nat.mul_le_mul_right _ h2
   have h7:n / Y * Y≤n:=Nat.div_mul_le_self n Y
   omega
def Xf (x:Nat):Option Nat:=match FloatKind.f64.decode x with
 | .nan _ _=>none
 | d=>some (FloatKind.f64.encode (d.integral .down))
theorem f2f_num {j k:FloatKind} (hjk:j≠k) {lp:Int} {fb E:Nat} (hf:Fmt k.format lp fb E) {b:Nat} {s:Bool} {m q:Nat} {i p:Int} (h:j.decode b=.number s m i) (hq:q < 2 ^ (fb+1)) (hp:lp≤p) (hi : -1900≤i) (hv:vn m i=vn q p) (hb:vn m i < 2 ^ (2000+E)) :
  ∃ r n x,f2f j b k=some r∧k.decode r=.number s n x∧lp≤x∧n < 2 ^ (fb+1)∧vn n x=vn m i:=by
 obtain ⟨n,x,r1,r2,r3,r4⟩:=Ks hf s hq hp hi hv hb
 refine ⟨k.encode (.number s m i),n,x,?_,r1,r2,r3,r4⟩
 unfold f2f
 rw [if_neg hjk,h]
 show (if (k.decode (k.encode (.number s m i))).isInfinity=true then none else some (k.encode (.number s m i)))=_
 have e:k.decode (k.encode (.number s m i))=.number s n x:=r1
 rw [e];rfl
theorem prog_eq {y:Nat} {s:Bool} {n:Nat} {p:Int} (hy:single.read y=.number s n p) (hn:n < 2 ^ 24) (hp : -149≤p) (hb:vn n p≤2 ^ 2014) :
  ∃ r t z,f2f .f32 y .f64=some r∧Xf r=some t∧f2f .f64 t .f32=some z∧(single.order z y != some .eq)=!(decide (2 ^ 2000 ∣ vn n p)):=by
 obtain ⟨r,n2,p2,a1,a2,a3,a4,a5⟩:=f2f_num (j:=.f32) (k:=.f64) (by decide) (f64 (E:=16) (by decide)) (b:=y) hy (q:=n) (p:=p) (by omega) (by omega) (by omega) rfl (by omega)
 obtain ⟨c1,c2⟩:=jx (w:=.down) (.inl rfl) s n2 p2 (by omega)
 obtain ⟨F,hF⟩:∃ F,F=Toward.down.cut s (n2 <<< p2.toNat) (-p2).toNat:=⟨_,rfl⟩
 rw [← hF] at c1 c2
 rw [a5] at c1 c2
 have hvF:vn F 0=F * 2 ^ 2000:=by
  unfold vn
  rw [show ((0:Int)+2000).toNat=2000 from rfl]
 have hF16:F < 2 ^ 16:=by
  have:F * 2 ^ 2000 < 2 ^ 16 * 2 ^ 2000:=by omega
  generalize 2 ^ 2000=X at this
  exact Nat.lt_of_mul_lt_mul_right this
 obtain ⟨F2,q2,b1,b2,b3,b4⟩:=Ks (f64 (E:=16) (by decide)) s (m:=F) (i:=0) (q:=F) (p:=0) (by omega) (by omega) (by omega) rfl (by rw [hvF];omega)
 obtain ⟨z,F3,q3,d1,d2,d3,d4,d5⟩:=f2f_num (j:=.f64) (k:=.f32) (by decide) f32 (b:=double.write (.number s F 0)) b1 (q:=F) (p:=0) (by omega) (by omega) (by omega) (by rw [b4]) (by rw [b4,hvF];omega)
 refine ⟨r,double.write (.number s F 0),z,a1,?_,d1,?_⟩
 ·unfold Xf
  rw [a2,hF];rfl
 ·unfold Format.order
  rw [show single.read z=.number s F3 q3 from d2,hy,order_val (by omega) (by omega)]
  by_cases hw:2 ^ 2000 ∣ vn n p
  ·rw [Qaa.2 (by rw [d5,b4];exact c1.2 hw),decide_eq_true hw];rfl
  ·rw [decide_eq_false hw]
   have:compare (V s F3 q3) (V s n p)≠.eq:=fun e=>hw (c1.1 (by rw [← Qaa.1 e,d5,b4]))
   simpa using this
theorem ref_eq {y:Nat} {s:Bool} {n:Nat} {p:Int} (hy:single.read y=.number s n p) (hp : -149≤p) (hb:vn n p≤2 ^ 2014) :
  ∃ z,f2i .f32 y .i64=some z∧(single.order (FloatKind.nearest .f32 z) y != some .eq)=!(decide (2 ^ 2000 ∣ vn n p)):=by
 obtain ⟨c1,c2⟩:=jx (w:=.zero) (.inr rfl) s n p (by omega)
 obtain ⟨Z,hZ⟩:∃ Z,Z=Toward.zero.cut s (n <<< p.toNat) (-p).toNat:=⟨_,rfl⟩
 rw [← hZ] at c1 c2
 have hvZ:vn Z 0=Z * 2 ^ 2000:=by
  unfold vn
  rw [show ((0:Int)+2000).toNat=2000 from rfl]
 have hZ16:Z < 2 ^ 16:=by
  have:Z * 2 ^ 2000 < 2 ^ 16 * 2 ^ 2000:=by omega
  generalize 2 ^ 2000=X at this
  exact Nat.lt_of_mul_lt_mul_right this
 obtain ⟨z,hz⟩:∃ z:Int,z=if s then -(Z:Int) else (Z:Int):=⟨_,rfl⟩
 have hzn:z.natAbs=Z:=by rw [hz];cases s <;> simp
 have hto:(FloatKind.f32.decode y).toInt .zero=some z:=by
  show ((single.read y).toInt .zero)=_
  rw [hy]
  unfold Datum.toInt Datum.integral
  simp only [← hZ]
  unfold signed
  rw [Nat.shiftLeft_zero,hz]
 obtain ⟨Z3,q3,d1,d2,d3,d4⟩:=Ks f32 (decide (z < 0)) (m:=Z) (i:=0) (q:=Z) (p:=0) (by omega) (by omega) (by omega) rfl (by rw [hvZ];omega)
 refine ⟨z,?_,?_⟩
 ·unfold f2i
  rw [hto]
  show (if IntKind.i64.min≤z∧z≤IntKind.i64.max then some z else none)=_
  have e1:IntKind.i64.min=-9223372036854775808:=by decide
  have e2:IntKind.i64.max=9223372036854775807:=by decide
  rw [e1,e2,if_pos (by omega)]
 ·have hn:single.read (FloatKind.nearest .f32 z)=.number (decide (z < 0)) Z3 q3:=by
   unfold FloatKind.nearest
   rw [hzn];exact d1
  unfold Format.order
  rw [hn,hy,order_val (by omega) (by omega)]
  have hV:V (decide (z < 0)) Z3 q3=V s Z 0:=by
   rw [V_eq,V_eq,d4,hvZ]
   by_cases h0:Z=0
   ·subst h0;generalize 2 ^ 2000=X;simp
   ·have:decide (z < 0)=s:=by
     rw [hz]
     cases s
     ·simp
     ·simp;omega
    rw [this]
  rw [hV]
  by_cases hw:2 ^ 2000 ∣ vn n p
  ·rw [Qaa.2 (c1.2 hw),decide_eq_true hw];rfl
  ·rw [decide_eq_false hw]
   have:compare (V s Z 0) (V s n p)≠.eq:=fun e=>hw (c1.1 (Qaa.1 e))
   simpa using this
end Go.Flo
set_option maxRecDepth 10000
namespace Go.Proofs.YtcfmoailaddifaaGreatDoor.P
open Go.SX
def F_math_IsNaN (n:Nat) (a0:Nat):Option (Bool) :=
 some ((FloatKind.format .f64).order a0 a0 != some .eq)
theorem EC {n:Nat} {a0:Nat} {r:Bool} (h:F_math_IsNaN n a0=some r):Computes cx 78 [.v (.float .f64 a0)] (B r):=by
 unfold F_math_IsNaN at h
 replace h:=Option.some.inj h
 subst h
 exact run (n:=100) (f:=78) (args:=[.v (.float .f64 a0)]) (orc:=[]) (r:=B ((FloatKind.format .f64).order a0 a0 != some .eq)) (ob:=[]) (by kernel_rfl) trivial
def F_math_IsInf (n:Nat) (a0:Nat) (a1:Int):Option (Bool) :=
 if a1=0 then
  (K6 n a0).bind fun t2 =>
  some ((FloatKind.format .f64).order t2 9218868437227405311 == some .gt)
 else
 if a1 < 0 then
  some ((FloatKind.format .f64).order (Op.negFloat .f64 a0) 9218868437227405311 == some .gt)
 else
 some ((FloatKind.format .f64).order a0 9218868437227405311 == some .gt)
theorem kr {n:Nat} {a0:Nat} {a1:Int} {r:Bool} (h:F_math_IsInf n a0 a1=some r):Computes cx 79 [.v (.float .f64 a0),I a1] (B r):=by
 unfold F_math_IsInf at h
 by_cases h1:a1=0
 ·replace h:=Ql h h1
  obtain ⟨t2,h2,h⟩:=Qg h
  replace h:=Option.some.inj h
  subst h
  exact run (n:=100) (f:=79) (args:=[.v (.float .f64 a0),I a1]) (orc:=[.br true,.ret (.v (.float .f64 t2))]) (r:=B ((FloatKind.format .f64).order t2 9218868437227405311 == some .gt)) (ob:=[Computes cx 96 [.v (.float .f64 a0)] (.v (.float .f64 t2)),(a1 == 0)=true]) (by kernel_rfl) ⟨(ux h2),(eqt h1),trivial⟩
 ·replace h:=Qm h h1
  by_cases h2:a1 < 0
  ·replace h:=Ql h h2
   replace h:=Option.some.inj h
   subst h
   exact run (n:=100) (f:=79) (args:=[.v (.float .f64 a0),I a1]) (orc:=[.br false,.br true]) (r:=B ((FloatKind.format .f64).order (Op.negFloat .f64 a0) 9218868437227405311 == some .gt)) (ob:=[(decide (a1 < 0))=true,(a1 == 0)=false]) (by kernel_rfl) ⟨(decide_eq_true h2),(eqf h1),trivial⟩
  ·replace h:=Qm h h2
   replace h:=Option.some.inj h
   subst h
   exact run (n:=100) (f:=79) (args:=[.v (.float .f64 a0),I a1]) (orc:=[.br false,.br false]) (r:=B ((FloatKind.format .f64).order a0 9218868437227405311 == some .gt)) (ob:=[(decide (a1 < 0))=false,(a1 == 0)=false]) (by kernel_rfl) ⟨(decide_eq_false h2),(eqf h1),trivial⟩
def F_light_infinite_2 (n:Nat) (a0:Nat):Option (Bool) :=
 if (f2f .f32 a0 .f64).isSome=true then
 (F_math_IsNaN n ((f2f .f32 a0 .f64).getD 0)).bind fun t2 =>
 if t2=true then
  some true
 else
 (F_math_IsInf n ((f2f .f32 a0 .f64).getD 0) 0).bind fun t4 =>
 some t4
 else none
theorem c_light_infinite_2 {n:Nat} {a0:Nat} {r:Bool} (h:F_light_infinite_2 n a0=some r):Computes cx 58 [.v (.float .f32 a0)] (B r):=by
 unfold F_light_infinite_2 at h
 obtain ⟨h1,h⟩:=Qi h
 obtain ⟨t2,h2,h⟩:=Qg h
 by_cases h3:t2=true
 ·replace h:=Ql h h3
  replace h:=Option.some.inj h
  subst h
  exact run (n:=100) (f:=58) (args:=[.v (.float .f32 a0)]) (orc:=[.ret (B t2),.br true]) (r:=B true) (ob:=[t2=true,Computes cx 78 [.v (.float .f64 ((f2f .f32 a0 .f64).getD 0))] (B t2),(f2f .f32 a0 .f64).isSome=true]) (by kernel_rfl) ⟨h3,(EC h2),h1,trivial⟩
 ·replace h:=Qm h h3
  obtain ⟨t4,h4,h⟩:=Qg h
  replace h:=Option.some.inj h
  subst h
  exact run (n:=100) (f:=58) (args:=[.v (.float .f32 a0)]) (orc:=[.ret (B t2),.br false,.ret (B t4)]) (r:=B t4) (ob:=[Computes cx 79 [.v (.float .f64 ((f2f .f32 a0 .f64).getD 0)),I 0] (B t4),(f2f .f32 a0 .f64).isSome=true,t2=false,Computes cx 78 [.v (.float .f64 ((f2f .f32 a0 .f64).getD 0))] (B t2),(f2f .f32 a0 .f64).isSome=true]) (by kernel_rfl) ⟨(kr h4),h1,(QI h3),(EC h2),h1,trivial⟩
def F_light_when (n:Nat) (a0:Bool) (a1:Int):Option (Int) :=
 if a0=true then
  some a1
 else
 some 0
theorem c_light_when {n:Nat} {a0:Bool} {a1:Int} {r:Int} (h:F_light_when n a0 a1=some r):Computes cx 57 [B a0,I a1] (I r):=by
 unfold F_light_when at h
 by_cases h1:a0=true
 ·replace h:=Ql h h1
  replace h:=Option.some.inj h
  subst h
  exact run (n:=100) (f:=57) (args:=[B a0,I a1]) (orc:=[.br true]) (r:=I a1) (ob:=[a0=true]) (by kernel_rfl) ⟨h1,trivial⟩
 ·replace h:=Qm h h1
  replace h:=Option.some.inj h
  subst h
  exact run (n:=100) (f:=57) (args:=[B a0,I a1]) (orc:=[.br false]) (r:=I 0) (ob:=[a0=false]) (by kernel_rfl) ⟨(QI h1),trivial⟩
def VJ (n:Nat)  : Option (Int) :=
 some 3
theorem JV {n:Nat}  {r:Int} (h:VJ n =some r):Computes cx 57 [B true,I 3] (I r):=by
 unfold VJ at h
 replace h:=Option.some.inj h
 subst h
 exact run (n:=100) (f:=57) (args:=[B true,I 3]) (orc:=[.no]) (r:=I 3) (ob:=[]) (by kernel_rfl) trivial
def F_light_onGrid_2 (n:Nat) (a0 a1:Nat):Option (Int) :=
 if ((FloatKind.format .f32).order a0 (Op.negFloat .f32 a1) == some .lt)=true then
  (VJ n).bind fun t2 =>
  some t2
 else
 if ((FloatKind.format .f32).order a0 a1 == some .gt)=true then
  (VJ n).bind fun t3 =>
  some t3
 else
 if (fop .mul .f32 1098907648 a0).isSome=true then
 if (f2f .f32 ((fop .mul .f32 1098907648 a0).getD 0) .f64).isSome=true then
 (K5 n ((f2f .f32 ((fop .mul .f32 1098907648 a0).getD 0) .f64).getD 0)).bind fun t5 =>
 if (f2f .f64 t5 .f32).isSome=true then
 (F_light_when n ((FloatKind.format .f32).order ((f2f .f64 t5 .f32).getD 0) ((fop .mul .f32 1098907648 a0).getD 0) != some .eq) 3).bind fun t7 =>
 some t7
 else none
 else none
 else none
theorem c_light_onGrid_2 {n:Nat} {a0 a1:Nat} {r:Int} (h:F_light_onGrid_2 n a0 a1=some r):Computes cx 59 [.v (.float .f32 a0),.v (.float .f32 a1)] (I r):=by
 unfold F_light_onGrid_2 at h
 by_cases h1:((FloatKind.format .f32).order a0 (Op.negFloat .f32 a1) == some .lt)=true
 ·replace h:=Ql h h1
  obtain ⟨t2,h2,h⟩:=Qg h
  replace h:=Option.some.inj h
  subst h
  exact run (n:=100) (f:=59) (args:=[.v (.float .f32 a0),.v (.float .f32 a1)]) (orc:=[.br true,.no,.ret (I t2)]) (r:=I t2) (ob:=[Computes cx 57 [B true,I 3] (I t2),((FloatKind.format .f32).order a0 (Op.negFloat .f32 a1) == some .lt)=true]) (by kernel_rfl) ⟨(JV h2),h1,trivial⟩
 ·replace h:=Qm h h1
  by_cases h2:((FloatKind.format .f32).order a0 a1 == some .gt)=true
  ·replace h:=Ql h h2
   obtain ⟨t3,h3,h⟩:=Qg h
   replace h:=Option.some.inj h
   subst h
   exact run (n:=100) (f:=59) (args:=[.v (.float .f32 a0),.v (.float .f32 a1)]) (orc:=[.br false,.br true,.ret (I t3)]) (r:=I t3) (ob:=[Computes cx 57 [B true,I 3] (I t3),((FloatKind.format .f32).order a0 a1 == some .gt)=true,((FloatKind.format .f32).order a0 (Op.negFloat .f32 a1) == some .lt)=false]) (by kernel_rfl) ⟨(JV h3),h2,(QI h1),trivial⟩
  ·replace h:=Qm h h2
   obtain ⟨h3,h⟩:=Qi h
   obtain ⟨h4,h⟩:=Qi h
   obtain ⟨t5,h5,h⟩:=Qg h
   obtain ⟨h6,h⟩:=Qi h
   obtain ⟨t7,h7,h⟩:=Qg h
   replace h:=Option.some.inj h
   subst h
   exact run (n:=100) (f:=59) (args:=[.v (.float .f32 a0),.v (.float .f32 a1)]) (orc:=[.br false,.br false,.ret (.v (.float .f64 t5)),.ret (I t7)]) (r:=I t7) (ob:=[Computes cx 57 [B ((FloatKind.format .f32).order ((f2f .f64 t5 .f32).getD 0) ((fop .mul .f32 1098907648 a0).getD 0) != some .eq),I 3] (I t7),(fop .mul .f32 1098907648 a0).isSome=true,(f2f .f64 t5 .f32).isSome=true,Computes cx 80 [.v (.float .f64 ((f2f .f32 ((fop .mul .f32 1098907648 a0).getD 0) .f64).getD 0))] (.v (.float .f64 t5)),(f2f .f32 ((fop .mul .f32 1098907648 a0).getD 0) .f64).isSome=true,(fop .mul .f32 1098907648 a0).isSome=true,((FloatKind.format .f32).order a0 a1 == some .gt)=false,((FloatKind.format .f32).order a0 (Op.negFloat .f32 a1) == some .lt)=false]) (by kernel_rfl) ⟨(c_light_when h7),h3,h6,(ku h5),h4,h3,(QI h2),(QI h1),trivial⟩
end Go.Proofs.YtcfmoailaddifaaGreatDoor.P
namespace Go.Proofs.YtcfmoailaddifaaGreatDoor
open Go.RowKit Go Go.SX Go.Shelf Ieee
theorem Qaz:Computes cx 78 [.nan .f64] (B true):=run (n:=100) (f:=78) (args:=[.nan .f64]) (orc:=[]) (r:=B true) (ob:=[]) (by kernel_rfl) trivial
theorem Qbl {x:Nat} {s:Bool} {t:Nat} (h:double.read x=.nan s t):0 < t∧t < 4503599627370496:=by
 unfold Format.read at h
 have e1:double.signWeight=9223372036854775808:=by decide
 have e2:double.binade=4503599627370496:=by decide
 have e3:double.infRung=9218868437227405312:=by decide
 simp only [e1,e2,e3] at h
 split at h
 ·cases h
 ·split at h
  ·cases h
  ·split at h
   ·cases h
   ·cases h;omega
theorem Qbk {s:Bool} {t:Nat} (h0:0 < t) (ht:t < 4503599627370496):(double.read (double.write (.nan s t))).isNaN=true:=by
 show (double.read (double.word s (double.infRung+t % double.binade))).isNaN=true
 have e1:double.signWeight=9223372036854775808:=by decide
 have e2:double.binade=4503599627370496:=by decide
 have e3:double.infRung=9218868437227405312:=by decide
 rw [e2,e3,Nat.mod_eq_of_lt ht]
 unfold Format.word Format.read
 simp only [e1,e2,e3]
 have hr:(if s=true then 9223372036854775808+(9218868437227405312+t) else 9218868437227405312+t) % 9223372036854775808=9218868437227405312+t:=by
  cases s <;> simp only [Bool.false_eq_true,if_false,if_true] <;> omega
 rw [hr,if_neg (by omega),if_neg (by omega),if_neg (by omega)]
 rfl
theorem Qa8 {t:Nat} (h0:0 < t) (ht:t < 4503599627370496):0 < double.quiet t∧double.quiet t < 4503599627370496:=by
 unfold Format.quiet
 have e:double.fractionBits - 1=51:=by decide
 rw [e]
 refine ⟨Nat.lt_of_lt_of_le h0 Nat.left_le_or,?_⟩
 exact Nat.or_lt_two_pow (n:=52) ht (by decide)
theorem QbP (x:Nat) (h:(FloatKind.f64.decode x).isNaN=true) (w:World):∃ y w',(callFunc 97 #[.float .f64 x]).run Tryz.prog w=.ok (.value (.float .f64 y)) w'∧(FloatKind.f64.decode y).isNaN=true∧(w'=w ∨ w'=w.drew):=by
 have hn:Extern.findNext Tryz.f97=none:=by kernel_rfl
 have he:Extern.find Tryz.f97=some (Extern.MathFloor.toIntegral "math.archFloor" .down):=by kernel_rfl
 have h4:Tryz.f97.body.isNone=true:=by kernel_rfl
 have h5:(Tryz.f97.name == "runtime.NumGoroutine")=false:=by kernel_rfl
 rw [run_callFunc_extern Tryz.func97 h5 h4 hn he]
 have e1:Extern.MathFloor.toIntegral "math.archFloor" .down #[.float .f64 x]=(match FloatKind.f64.decode x with
  | .nan s t =>
   if FloatKind.f64.format.quiet t=t then pure (.float .f64 x) else do
   let kept ← choose (.extern "math.Floor,Ceil,Trunc,RoundToEven.signallingNaN kept" 2)
   pure (.float .f64 (if kept == 1 then x else FloatKind.f64.encode (.nan s (FloatKind.f64.format.quiet t))))
  | d=>pure (.float .f64 (FloatKind.f64.encode (d.integral .down)))):=rfl
 rw [e1]
 obtain ⟨d,hd⟩:∃ d,d=FloatKind.f64.decode x:=⟨_,rfl⟩
 rw [← hd] at h ⊢
 cases d with
 | infinity s=>cases h
 | number s m e=>cases h
 | nan s t =>
  obtain ⟨t0,t1⟩:=Qbl hd.symm
  obtain ⟨q0,q1⟩:=Qa8 t0 t1
  by_cases hq:FloatKind.f64.format.quiet t=t
  ·refine ⟨x,w,?_,by rw [← hd];rfl,.inl rfl⟩
   simp only [if_pos hq,Sem.run_pure,Result.andThen_ok]
  ·have hf:(Question.extern "math.Floor,Ceil,Trunc,RoundToEven.signallingNaN kept" 2).forced=false:=rfl
   refine ⟨if ((Question.extern "math.Floor,Ceil,Trunc,RoundToEven.signallingNaN kept" 2).cut (w.tape w.drawn (Question.extern "math.Floor,Ceil,Trunc,RoundToEven.signallingNaN kept" 2)) == 1)=true then x else FloatKind.f64.encode (.nan s (FloatKind.f64.format.quiet t)),w.drew,?_,?_,.inr rfl⟩
   ·simp only [if_neg hq,Sem.run_bind,run_choose_drew,hf,Bool.false_eq_true,if_false,Sem.run_pure,Result.andThen_ok]
   ·split
    ·rw [← hd];rfl
    ·exact Qbk q0 q1
set_option maxHeartbeats 400000 in
theorem QaE (x : Nat) (h : (FloatKind.f64.decode x).isNaN = true) (w : World) :
  Calls Tryz.prog 80 #[.float .f64 x] w fun e w' => ∃ y, e = .returned (.float .f64 y) ∧ (FloatKind.f64.decode y).isNaN = true ∧ (w' = w ∨ w' = w.drew) := by
 go_enter Tryz.func80, Tryz.ntmps80
 go_wp2
 obtain ⟨y, w1, h1, h2, h3⟩ := QbP x h w
 rw [h1, Oper.upon_value]
 go_wp2
 go_ret
 exact ⟨y, rfl, h2, h3⟩
theorem yG:Computes cx 80 [.nan .f64] (.nan .f64):=by
 intro w F vs hF hG hl hd
 match vs,hl with
 | [a],_ =>
  have ha:=hd 0 _ _ rfl rfl
  cases ha with
  | nan _ b hb =>
   refine (QaE b hb w).mono ?_
   rintro e w' ⟨y,he,hy,hw⟩
   refine ⟨_,he,.nan _ y hy,?_⟩
   rcases hw with rfl | rfl
   ·exact Ext.refl _ _
   ·exact Ext.drew _ _
def Gs (b:Nat):Bool:=match FloatKind.f32.decode b with
 | .number _ _ _=>true
 | _=>false
def V0 (n:Nat) (a0:Nat):Option Bool:=some (!Gs a0)
def Zf (n:Nat) (a0 a1:Nat):Option Int :=
 if (FloatKind.f32.decode a0).isNaN=true then some 3 else P.F_light_onGrid_2 n a0 a1
theorem ji {k:FloatKind} {a:Nat} (h:(k.decode a).isNaN=true) (b:Nat):(FloatKind.format k).order a b=none:=by
 unfold Format.order
 change (k.format.read a).isNaN=true at h
 generalize k.format.read a=q at *
 cases q <;> first | rfl | cases h
theorem Qb5 {k:FloatKind} {b:Nat} (h:(k.decode b).isNaN=true) (a:Nat):fop .mul k a b=none:=by
 show k.format.mul a b=none
 unfold Format.mul
 change (k.format.read b).isNaN=true at h
 generalize k.format.read b=q at *
 generalize k.format.read a=p at *
 cases q with
 | nan s t=>cases p <;> rfl
 | infinity _=>cases h
 | number _ _ _=>cases h
theorem wm {n:Nat} {a0 a1:Nat} {r:Int} (h:Zf n a0 a1=some r):Computes cx 59 [.v (.float .f32 a0),.v (.float .f32 a1)] (I r):=by
 unfold Zf at h
 by_cases hn:(FloatKind.f32.decode a0).isNaN=true
 ·rw [if_pos hn] at h
  cases h
  have e1:=ji hn (Op.negFloat .f32 a1)
  have e2:=ji hn a1
  have hm:=Qb5 hn 1098907648
  exact run (n:=100) (f:=59) (args:=[.v (.float .f32 a0),.v (.float .f32 a1)]) (orc:=[.br false,.br false,.ix (-13),.ret (.nan .f64),.ix (-13),.ret (I 3)]) (r:=I 3) (ob:=[Computes cx 57 [B true,I 3] (I 3),fop .mul .f32 1098907648 a0=none,Computes cx 80 [.nan .f64] (.nan .f64),fop .mul .f32 1098907648 a0=none,((FloatKind.format .f32).order a0 a1 == some .gt)=false,((FloatKind.format .f32).order a0 (Op.negFloat .f32 a1) == some .lt)=false]) (by kernel_rfl) ⟨P.c_light_when (n:=0) rfl,hm,yG,hm,by rw [e2];rfl,by rw [e1];rfl,trivial⟩
 ·rw [if_neg hn] at h
  exact P.c_light_onGrid_2 h
theorem QcP (x:Nat) (hx:x < 18446744073709551616):(Go.bits .andNot .u64 (x:Int) 9223372036854775808).toNat=x % 9223372036854775808:=by
 have h1:(BitVec.ofInt 64 (x:Int) &&& ~~~ BitVec.ofInt 64 9223372036854775808).toNat=x % 9223372036854775808:=by
  rw [BitVec.toNat_and]
  have e1:(~~~ BitVec.ofInt 64 9223372036854775808).toNat=2 ^ 63 - 1:=by decide
  have e2:(BitVec.ofInt 64 (x:Int)).toNat=x:=by
   rw [BitVec.toNat_ofInt];omega
  rw [e1,e2,Nat.and_two_pow_sub_one_eq_mod]
 have h2:Go.bits .andNot .u64 (x:Int) 9223372036854775808=IntKind.u64.wrap ((BitVec.ofInt 64 (x:Int) &&& ~~~ BitVec.ofInt 64 9223372036854775808).toNat:Int):=rfl
 rw [h2,h1,IntKind.wrap_u64]
 omega
theorem Qa6 {r:Nat}:(∀ {s:Bool} {n:Nat} {x:Int},double.read r=.number s n x→double.read (r % 9223372036854775808)=.number false n x)∧(∀ {s:Bool},double.read r=.infinity s→double.read (r % 9223372036854775808)=.infinity false):=by
 have e1:double.signWeight=9223372036854775808:=by decide
 have e2:double.binade=4503599627370496:=by decide
 have e3:double.infRung=9218868437227405312:=by decide
 have h0:r % 9223372036854775808 / 9223372036854775808=0:=Nat.div_eq_of_lt (Nat.mod_lt _ (by decide))
 unfold Format.read
 simp only [e1,e2,e3,Nat.mod_mod,h0]
 refine ⟨fun {s n x} h=>?_,fun {s} h=>?_⟩
 ·split at h
  ·rename_i c;cases h;rw [if_pos c];rfl
  ·rename_i c
   rw [if_neg c]
   split at h
   ·rename_i c;cases h;rw [if_pos c];rfl
   ·split at h <;> cases h
 ·split at h
  ·cases h
  ·rename_i c
   rw [if_neg c]
   split at h
   ·cases h
   ·rename_i c
    rw [if_neg c]
    split at h
    ·rename_i c;rw [if_pos c];rfl
    ·cases h
theorem QaT (s:Bool) (m:Nat) (e:Int):double.write (.number s m e) < 18446744073709551616:=by
 have e1:double.signWeight=9223372036854775808:=by decide
 have e3:double.infRung=9218868437227405312:=by decide
 have hw:∀ k:Nat,k≤9218868437227405312→double.word s k < 18446744073709551616:=by
  intro k hk
  unfold Format.word
  rw [e1]
  split <;> omega
 show double.nearest s m e < _
 unfold Format.nearest
 split
 ·exact hw 0 (by decide)
 ·exact hw _ (by rw [e3];exact Nat.min_le_right _ _)
theorem Qb7 {n a0:Nat} {s:Bool} {m:Nat} {e:Int} (h:single.read a0=.number s m e):P.F_light_infinite_2 n a0=some false:=by
 obtain ⟨h1,h2,h3⟩:=Flo.read_num h
 have hb:Flo.vn m e < 2 ^ (2000+200):=by
  unfold Flo.vn
  have q1:m * 2 ^ (e+2000).toNat < 2 ^ 24 * 2 ^ (e+2000).toNat:=Nat.mul_lt_mul_of_pos_right h1 (Nat.two_pow_pos _)
  rw [← Nat.pow_add] at q1
  have q2:∀ a b:Nat,a≤b→m * 2 ^ (e+2000).toNat < 2 ^ a→m * 2 ^ (e+2000).toNat < 2 ^ b:=fun a b hab h=>Nat.lt_of_lt_of_le h (Nat.pow_le_pow_right (by decide) hab)
  have q3:=q2 (24+(e+2000).toNat) (2000+200) (by omega) q1
  exact q3
 obtain ⟨r,q,x,a1,a2,a3,a4,a5⟩:=Flo.f2f_num (j:=.f32) (k:=.f64) (by decide) (Flo.f64 (E:=200) (by decide)) (b:=a0) h (q:=m) (p:=e) (by omega) (by omega) (by omega) rfl hb
 have hr:r < 18446744073709551616:=by
  unfold f2f at a1
  rw [if_neg (by decide),show FloatKind.f32.decode a0=.number s m e from h] at a1
  simp only at a1
  split at a1
  ·cases a1
  ·cases a1;exact QaT s m e
 have a2' : double.read r=.number s q x:=a2
 have h4:=Qa6.1 a2'
 have hmax:double.read 9218868437227405311=.number false 9007199254740991 971:=by decide
 have hlt:Flo.vn q x < Flo.vn 9007199254740991 971:=by
  rw [a5]
  refine Nat.lt_of_lt_of_le hb ?_
  unfold Flo.vn
  rw [show ((971:Int)+2000).toNat=2971 from rfl]
  have h1:∀ a b c:Nat,a≤b→0 < c→2 ^ a≤c * 2 ^ b:=fun a b c hab hc=>Nat.le_trans (Nat.pow_le_pow_right (by decide) hab) (Nat.le_mul_of_pos_left _ hc)
  have q4:=h1 (2000+200) 2971 9007199254740991 (by decide) (by decide)
  exact q4
 have o1:(FloatKind.format .f64).order r r=some .eq:=by
  show (double.read r).order (double.read r)=_
  rw [a2',Flo.order_val (by omega) (by omega),Int.compare_eq_eq.2 rfl]
 have o2:(FloatKind.format .f64).order (r % 9223372036854775808) 9218868437227405311=some .lt:=by
  show (double.read _).order (double.read _)=_
  rw [h4,hmax,Flo.order_val (by omega) (by omega),Flo.V_eq,Flo.V_eq]
  simp only [Bool.false_eq_true,if_false]
  rw [Int.compare_eq_lt.2 (by omega)]
 unfold P.F_light_infinite_2 P.F_math_IsNaN P.F_math_IsInf K6
 rw [a1]
 simp only [Option.isSome_some,if_true,Option.getD_some,Option.bind_some,o1,QcP r hr,o2]
 rfl
theorem Qb8 {n a0:Nat} {s:Bool} (h:single.read a0=.infinity s):P.F_light_infinite_2 n a0=some true:=by
 have h1:f2f .f32 a0 .f64=some (double.write (.infinity s)):=by
  unfold f2f
  rw [if_neg (by decide),show FloatKind.f32.decode a0=.infinity s from h]
  rfl
 unfold P.F_light_infinite_2 P.F_math_IsNaN P.F_math_IsInf K6
 rw [h1]
 cases s <;> decide
theorem qg {n:Nat} {a0:Nat} {r:Bool} (h:V0 n a0=some r):Computes cx 58 [.v (.float .f32 a0)] (B r):=by
 cases h
 unfold Gs
 obtain ⟨d,hd⟩:∃ d,d=FloatKind.f32.decode a0:=⟨_,rfl⟩
 rw [← hd]
 cases d with
 | nan s t =>
  have hn:(FloatKind.f32.decode a0).isNaN=true:=by rw [← hd];rfl
  exact run (n:=100) (f:=58) (args:=[.v (.float .f32 a0)]) (orc:=[.ix (-14),.ret (B true),.br true]) (r:=B true) (ob:=[true=true,Computes cx 78 [.nan .f64] (B true),(FloatKind.f32.decode a0).isNaN=true]) (by kernel_rfl) ⟨rfl,Qaz,hn,trivial⟩
 | infinity s=>exact P.c_light_infinite_2 (n:=0) (Qb8 hd.symm)
 | number s m e=>exact P.c_light_infinite_2 (n:=0) (Qb7 hd.symm)
set_option maxHeartbeats 4000000
def K7 (n:Nat)  : Option (Int×Int×Int) :=
 some ((-20),20,3)
theorem VD {n:Nat}  {r:Int×Int×Int} (h:K7 n =some r):Computes cx 12 [] (.agg [I r.1,I r.2.1,I r.2.2]):=by
 unfold K7 at h
 replace h:=Option.some.inj h
 subst h
 exact run (n:=100) (f:=12) (args:=[]) (orc:=[]) (r:=.agg [I (-20),I 20,I 3]) (ob:=[]) (by kernel_rfl) trivial
def YS (n:Nat)  : Option (Int) :=
 some 3
theorem kw {n:Nat}  {r:Int} (h:YS n =some r):Computes cx 39 [B true,I 3] (I r):=by
 unfold YS at h
 replace h:=Option.some.inj h
 subst h
 exact run (n:=100) (f:=39) (args:=[B true,I 3]) (orc:=[.no]) (r:=I 3) (ob:=[]) (by kernel_rfl) trivial
def QF (n:Nat) (a0:Bool) (a1:Int):Option (Int) :=
 if a0=true then
  some a1
 else
 some 0
theorem Qq {n:Nat} {a0:Bool} {a1:Int} {r:Int} (h:QF n a0 a1=some r):Computes cx 39 [B a0,I a1] (I r):=by
 unfold QF at h
 by_cases h1:a0=true
 ·replace h:=Ql h h1
  replace h:=Option.some.inj h
  subst h
  exact run (n:=100) (f:=39) (args:=[B a0,I a1]) (orc:=[.br true]) (r:=I a1) (ob:=[a0=true]) (by kernel_rfl) ⟨h1,trivial⟩
 ·replace h:=Qm h h1
  replace h:=Option.some.inj h
  subst h
  exact run (n:=100) (f:=39) (args:=[B a0,I a1]) (orc:=[.br false]) (r:=I 0) (ob:=[a0=false]) (by kernel_rfl) ⟨(QI h1),trivial⟩
def Qy (n:Nat) (a0 a1 a2:Int):Option (Int) :=
 if a0 < a1 then
  (YS n).bind fun t2 =>
  some t2
 else
 (QF n (decide (a0 > a2)) 3).bind fun t2 =>
 some t2
theorem Qb {n:Nat} {a0 a1 a2:Int} {r:Int} (h:Qy n a0 a1 a2=some r):Computes cx 32 [I a0,I a1,I a2] (I r):=by
 unfold Qy at h
 by_cases h1:a0 < a1
 ·replace h:=Ql h h1
  obtain ⟨t2,h2,h⟩:=Qg h
  replace h:=Option.some.inj h
  subst h
  exact run (n:=100) (f:=32) (args:=[I a0,I a1,I a2]) (orc:=[.br true,.ret (I t2)]) (r:=I t2) (ob:=[Computes cx 39 [B true,I 3] (I t2),(decide (a0 < a1))=true]) (by kernel_rfl) ⟨(kw h2),(decide_eq_true h1),trivial⟩
 ·replace h:=Qm h h1
  obtain ⟨t2,h2,h⟩:=Qg h
  replace h:=Option.some.inj h
  subst h
  exact run (n:=100) (f:=32) (args:=[I a0,I a1,I a2]) (orc:=[.br false,.ret (I t2)]) (r:=I t2) (ob:=[Computes cx 39 [B (decide (a0 > a2)),I 3] (I t2),(decide (a0 < a1))=false]) (by kernel_rfl) ⟨(Qq h2),(decide_eq_false h1),trivial⟩
def QcO (x:Int):D:=I x
def XV (d:D):Option (Int):=JE .i64 d
theorem QG {d:D} {x:Int} (h:XV d=some x):d=QcO x:=YV h
def Wb (n:Nat) (a0:List D) (sa:(Int)):Option (((Int))⊕((Int)⊕(Unit))) :=
 if sa < ((a0).length:Int) then
  (el XV a0 sa).bind fun ta2 =>
  if ta2=0 then
   if Qa (sa+1) then
   some (.inl (sa+1))
   else none
  else
  some (.inr (.inl ta2))
 else
 some (.inr (.inr ()))
noncomputable def qB (a0:List D) (sa:(Int)):List (Nat×AV):=[(5,.d (.lst false 1 a0)),(6,.d (I ((a0).length:Int))),(7,.d (I sa))]
noncomputable def qJ (a0:List D) (sa:(Int)):List (Nat×Blk):=[]
noncomputable def qv (a0:List D) (e:(Int)⊕(Unit)):Ex:=match e with
 | (.inl e)=>.ret
 | (.inr e)=>(.exit 0)
noncomputable def EK (a0:List D) (e:(Int)⊕(Unit)):List (Nat×AV):=match e with
 | (.inl e)=>[(2,.d (I e))]
 | (.inr e)=>[]
noncomputable def EQ (a0:List D) (e:(Int)⊕(Unit)):List (Nat×Blk):=match e with
 | (.inl e)=>[]
 | (.inr e)=>[]
theorem Kp {n:Nat} {a0:List D} (sa:(Int)) (r) (h:Wb n a0 sa=some r):Rd cx (Qu cx.P 29 0) 15 0 false (qB a0) (qJ a0) (qv a0) (EK a0) (EQ a0) sa r:=by
 unfold Wb at h
 by_cases ha1:sa < ((a0).length:Int)
 ·replace h:=Ql h ha1
  obtain ⟨ta2,ha2,h⟩:=Qg h
  by_cases ha3:ta2=0
  ·replace h:=Ql h ha3
   obtain ⟨ha4,h⟩:=Qi h
   replace h:=Option.some.inj h
   subst h
   exact ⟨100,4,[.br true,.el (I ta2),.br false],[],[5,6,7],[],Qk (ob:=[Qa (sa+1),(ta2 != 0)=false,(0:Int)≤sa,nth (a0) (Int.toNat sa)=some (I ta2),(decide (sa < ((a0).length:Int)))=true]) (by kernel_rfl) ⟨ha4,(nef ha3),(Qs QG ha2).1,(Qs QG ha2).2,(decide_eq_true ha1),trivial⟩⟩
  ·replace h:=Qm h ha3
   replace h:=Option.some.inj h
   subst h
   exact ⟨⟨100,4,[.br true,.el (I ta2),.br true],[],[2],[],Qk (ob:=[(ta2 != 0)=true,(0:Int)≤sa,nth (a0) (Int.toNat sa)=some (I ta2),(decide (sa < ((a0).length:Int)))=true]) (by kernel_rfl) ⟨(net ha3),(Qs QG ha2).1,(Qs QG ha2).2,(decide_eq_true ha1),trivial⟩⟩,nofun⟩
 ·replace h:=Qm h ha1
  replace h:=Option.some.inj h
  subst h
  exact ⟨⟨100,4,[.br false],[],[],[],Qk (ob:=[(decide (sa < ((a0).length:Int)))=false]) (by kernel_rfl) ⟨(decide_eq_false ha1),trivial⟩⟩,nofun⟩
def Qr (n:Nat) (a0:List D):Option (Int) :=
 (Q2 (Wb n a0) n 0).bind fun t1=>match t1 with
  | (.inl t1)=>(
   some t1)
  | (.inr t1)=>(
   some 0)
theorem Qj {n:Nat} {a0:List D} {r:Int} (h:Qr n a0=some r):Computes cx 29 [.lst false 1 a0] (I r):=by
 unfold Qr at h
 obtain ⟨t1,h1,h⟩:=Qg h
 rcases t1 with t1 | t1
 ·replace h:=Option.some.inj h
  subst h
  exact run (n:=100) (f:=29) (args:=[.lst false 1 a0]) (orc:=[.lp [] [5,6,7] [] .ret [(2,.d (I t1))] [] 23]) (r:=I t1) (ob:=[QV cx (Qu cx.P 29 0) 15 0 false [(5,.d (.lst false 1 a0)),(6,.d (I ((a0).length:Int))),(7,.d (I 0))] [] .ret [(2,.d (I t1))] []]) (by kernel_rfl) ⟨(Qv Kp h1),trivial⟩
 ·replace h:=Option.some.inj h
  subst h
  exact run (n:=100) (f:=29) (args:=[.lst false 1 a0]) (orc:=[.lp [] [5,6,7] [] (.exit 0) [] [] 23]) (r:=I 0) (ob:=[QV cx (Qu cx.P 29 0) 15 0 false [(5,.d (.lst false 1 a0)),(6,.d (I ((a0).length:Int))),(7,.d (I 0))] [] (.exit 0) [] []]) (by kernel_rfl) ⟨(Qv Kp h1),trivial⟩
def QN (n:Nat) (a0 a1 a2:Int):Option (Int) :=
 (Qy n a0 (IntKind.wrap .i64 (0 - a2)) a2).bind fun t1 =>
 (Qy n a1 (IntKind.wrap .i64 (0 - a2)) a2).bind fun t2 =>
 (QF n (decide (a0 > a1)) 11).bind fun t3 =>
 (Qr n ([I t1,I t2,I t3])).bind fun t4 =>
 some t4
theorem Qx {n:Nat} {a0 a1 a2:Int} {r:Int} (h:QN n a0 a1 a2=some r):Computes cx 42 [.agg [I a0,I a1],I a2] (I r):=by
 unfold QN at h
 obtain ⟨t1,h1,h⟩:=Qg h
 obtain ⟨t2,h2,h⟩:=Qg h
 obtain ⟨t3,h3,h⟩:=Qg h
 obtain ⟨t4,h4,h⟩:=Qg h
 replace h:=Option.some.inj h
 subst h
 exact run (n:=100) (f:=42) (args:=[.agg [I a0,I a1],I a2]) (orc:=[.ret (I t1),.ret (I t2),.ret (I t3),.ret (I t4)]) (r:=I t4) (ob:=[Computes cx 29 [.lst true 1 [I t1,I t2,I t3]] (I t4),Computes cx 39 [B (decide (a0 > a1)),I 11] (I t3),Computes cx 32 [I a1,I (IntKind.wrap .i64 (0 - a2)),I a2] (I t2),Computes cx 32 [I a0,I (IntKind.wrap .i64 (0 - a2)),I a2] (I t1)]) (by kernel_rfl) ⟨((Qj h4).le (.cons (.full _ _ _) (.nil)) (.refl _)),(Qq h3),(Qb h2),(Qb h1),trivial⟩
def VN (n:Nat) (a0 a1 a2:Int):Option (Int) :=
 (QN n a0 a1 1000).bind fun t1 =>
 (Qy n a2 0 50).bind fun t2 =>
 (Qr n ([I t1,I t2])).bind fun t3 =>
 some t3
theorem VE {n:Nat} {a0 a1 a2:Int} {r:Int} (h:VN n a0 a1 a2=some r):Computes cx 81 [.agg [I a0,I a1,I a2]] (I r):=by
 unfold VN at h
 obtain ⟨t1,h1,h⟩:=Qg h
 obtain ⟨t2,h2,h⟩:=Qg h
 obtain ⟨t3,h3,h⟩:=Qg h
 replace h:=Option.some.inj h
 subst h
 exact run (n:=100) (f:=81) (args:=[.agg [I a0,I a1,I a2]]) (orc:=[.ret (I t1),.ret (I t2),.ret (I t3)]) (r:=I t3) (ob:=[Computes cx 29 [.lst true 1 [I t1,I t2]] (I t3),Computes cx 32 [I a2,I 0,I 50] (I t2),Computes cx 42 [.agg [I a0,I a1],I 1000] (I t1)]) (by kernel_rfl) ⟨((Qj h3).le (.cons (.full _ _ _) (.nil)) (.refl _)),(Qb h2),(Qx h1),trivial⟩
def Us (n:Nat)  : Option (Int) :=
 some 24
theorem wn {n:Nat}  {r:Int} (h:Us n =some r):Computes cx 39 [B true,I 24] (I r):=by
 unfold Us at h
 replace h:=Option.some.inj h
 subst h
 exact run (n:=100) (f:=39) (args:=[B true,I 24]) (orc:=[.no]) (r:=I 24) (ob:=[]) (by kernel_rfl) trivial
def Z1 (n:Nat) (a0 a1 a2 a3 a4 a5:Int):Option (Int) :=
 (VN n a0 a1 a2).bind fun t1 =>
 (Qy n a3 a0 a1).bind fun t2 =>
 (Qr n ([I t1,I t2])).bind fun t3 =>
 if t3=0 then
  (QF n (decide (a4 > a5)) 11).bind fun t5 =>
  if Qa (a3 - a2) then
  if a4 < (a3 - a2) then
   (Us n).bind fun t8 =>
   (Qr n ([I t5,I t8])).bind fun t9 =>
   some t9
  else
  (QF n (decide (a5 > a3)) 24).bind fun t8 =>
  (Qr n ([I t5,I t8])).bind fun t9 =>
  some t9
  else none
 else
 some t3
theorem YE {n:Nat} {a0 a1 a2 a3 a4 a5:Int} {r:Int} (h:Z1 n a0 a1 a2 a3 a4 a5=some r):Computes cx 62 [.agg [I a0,I a1,I a2,I a3,I a4,I a5]] (I r):=by
 unfold Z1 at h
 obtain ⟨t1,h1,h⟩:=Qg h
 obtain ⟨t2,h2,h⟩:=Qg h
 obtain ⟨t3,h3,h⟩:=Qg h
 by_cases h4:t3=0
 ·replace h:=Ql h h4
  obtain ⟨t5,h5,h⟩:=Qg h
  obtain ⟨h6,h⟩:=Qi h
  by_cases h7:a4 < (a3 - a2)
  ·replace h:=Ql h h7
   obtain ⟨t8,h8,h⟩:=Qg h
   obtain ⟨t9,h9,h⟩:=Qg h
   replace h:=Option.some.inj h
   subst h
   exact run (n:=100) (f:=62) (args:=[.agg [I a0,I a1,I a2,I a3,I a4,I a5]]) (orc:=[.ret (I t1),.ret (I t2),.ret (I t3),.br false,.ret (I t5),.br true,.ret (I t8),.ret (I t9)]) (r:=I t9) (ob:=[Computes cx 29 [.lst true 1 [I t5,I t8]] (I t9),Computes cx 39 [B true,I 24] (I t8),(decide (a4 < (a3 - a2)))=true,Qa (a3 - a2),Computes cx 39 [B (decide (a4 > a5)),I 11] (I t5),(t3 != 0)=false,Computes cx 29 [.lst true 1 [I t1,I t2]] (I t3),Computes cx 32 [I a3,I a0,I a1] (I t2),Computes cx 81 [.agg [I a0,I a1,I a2]] (I t1)]) (by kernel_rfl) ⟨((Qj h9).le (.cons (.full _ _ _) (.nil)) (.refl _)),(wn h8),(decide_eq_true h7),h6,(Qq h5),(nef h4),((Qj h3).le (.cons (.full _ _ _) (.nil)) (.refl _)),(Qb h2),(VE h1),trivial⟩
  ·replace h:=Qm h h7
   obtain ⟨t8,h8,h⟩:=Qg h
   obtain ⟨t9,h9,h⟩:=Qg h
   replace h:=Option.some.inj h
   subst h
   exact run (n:=100) (f:=62) (args:=[.agg [I a0,I a1,I a2,I a3,I a4,I a5]]) (orc:=[.ret (I t1),.ret (I t2),.ret (I t3),.br false,.ret (I t5),.br false,.ret (I t8),.ret (I t9)]) (r:=I t9) (ob:=[Computes cx 29 [.lst true 1 [I t5,I t8]] (I t9),Computes cx 39 [B (decide (a5 > a3)),I 24] (I t8),(decide (a4 < (a3 - a2)))=false,Qa (a3 - a2),Computes cx 39 [B (decide (a4 > a5)),I 11] (I t5),(t3 != 0)=false,Computes cx 29 [.lst true 1 [I t1,I t2]] (I t3),Computes cx 32 [I a3,I a0,I a1] (I t2),Computes cx 81 [.agg [I a0,I a1,I a2]] (I t1)]) (by kernel_rfl) ⟨((Qj h9).le (.cons (.full _ _ _) (.nil)) (.refl _)),(Qq h8),(decide_eq_false h7),h6,(Qq h5),(nef h4),((Qj h3).le (.cons (.full _ _ _) (.nil)) (.refl _)),(Qb h2),(VE h1),trivial⟩
 ·replace h:=Qm h h4
  replace h:=Option.some.inj h
  subst h
  exact run (n:=100) (f:=62) (args:=[.agg [I a0,I a1,I a2,I a3,I a4,I a5]]) (orc:=[.ret (I t1),.ret (I t2),.ret (I t3),.br true]) (r:=I t3) (ob:=[(t3 != 0)=true,Computes cx 29 [.lst true 1 [I t1,I t2]] (I t3),Computes cx 32 [I a3,I a0,I a1] (I t2),Computes cx 81 [.agg [I a0,I a1,I a2]] (I t1)]) (by kernel_rfl) ⟨(net h4),((Qj h3).le (.cons (.full _ _ _) (.nil)) (.refl _)),(Qb h2),(VE h1),trivial⟩
def Wk (n:Nat) (a0 a1 a2 a3 a4 a5:Int):Option (Int) :=
 (Z1 n a0 a1 a2 a3 a4 a5).bind fun t1 =>
 some t1
theorem Zm {n:Nat} {a0 a1 a2 a3 a4 a5:Int} {r:Int} (h:Wk n a0 a1 a2 a3 a4 a5=some r):Computes cx 38 [.agg [I a0,I a1,I a2],.agg [I a3,I a4,I a5]] (I r):=by
 unfold Wk at h
 obtain ⟨t1,h1,h⟩:=Qg h
 replace h:=Option.some.inj h
 subst h
 exact run (n:=100) (f:=38) (args:=[.agg [I a0,I a1,I a2],.agg [I a3,I a4,I a5]]) (orc:=[.ret (I t1)]) (r:=I t1) (ob:=[Computes cx 62 [.agg [I a0,I a1,I a2,I a3,I a4,I a5]] (I t1)]) (by kernel_rfl) ⟨(YE h1),trivial⟩
def WU (n:Nat) (a0 a1 a2 a3 a4 a5 a6:Int):Option (Int×Int×Int×Int×Int×Int) :=
 if Qa (a6 - a2) then
 some (a0,a1,a2,a6,(Yw a6 (VU (a6 - a2) a4)),(Yw a6 (VU (a6 - a2) a5)))
 else none
theorem VY {n:Nat} {a0 a1 a2 a3 a4 a5 a6:Int} {r:Int×Int×Int×Int×Int×Int} (h:WU n a0 a1 a2 a3 a4 a5 a6=some r):Computes cx 40 [.agg [I a0,I a1,I a2,I a3,I a4,I a5],I a6] (.agg [I r.1,I r.2.1,I r.2.2.1,I r.2.2.2.1,I r.2.2.2.2.1,I r.2.2.2.2.2]):=by
 unfold WU at h
 obtain ⟨h1,h⟩:=Qi h
 replace h:=Option.some.inj h
 subst h
 exact run (n:=100) (f:=40) (args:=[.agg [I a0,I a1,I a2,I a3,I a4,I a5],I a6]) (orc:=[.no,.no]) (r:=.agg [I a0,I a1,I a2,I a6,I (Yw a6 (VU (a6 - a2) a4)),I (Yw a6 (VU (a6 - a2) a5))]) (ob:=[Qa (a6 - a2),Qa (a6 - a2)]) (by kernel_rfl) ⟨h1,h1,trivial⟩
def V3 (n:Nat) (a6:List D) (sa:(Int×Int×Int×Int×Int×Int×Int)):Option (((Int×Int×Int×Int×Int×Int×Int))⊕((Unit)⊕(Int×Int×Int×Int×Int×Int))) :=
 if sa.1 < ((a6).length:Int) then
  (el XV a6 sa.1).bind fun ta2 =>
  if Qa (sa.2.1 - sa.2.2.2.2.1) then
  if ta2 < (sa.2.1 - sa.2.2.2.2.1) then
   some (.inr (.inl ()))
  else
  if Qa (sa.2.2.1 - sa.2.2.2.2.1) then
  if ta2 > (sa.2.2.1 - sa.2.2.2.2.1) then
   some (.inr (.inl ()))
  else
  if Qa (sa.2.2.2.2.1+ta2) then
  (WU n sa.2.1 sa.2.2.1 sa.2.2.2.1 sa.2.2.2.2.1 sa.2.2.2.2.2.1 sa.2.2.2.2.2.2 (sa.2.2.2.2.1+ta2)).bind fun ta8 =>
  if Qa (sa.1+1) then
  some (.inl ((sa.1+1),ta8.1,ta8.2.1,ta8.2.2.1,ta8.2.2.2.1,ta8.2.2.2.2.1,ta8.2.2.2.2.2))
  else none
  else none
  else none
  else none
 else
 some (.inr (.inr (sa.2.1,sa.2.2.1,sa.2.2.2.1,sa.2.2.2.2.1,sa.2.2.2.2.2.1,sa.2.2.2.2.2.2)))
noncomputable def qD (a6:List D) (sa:(Int×Int×Int×Int×Int×Int×Int)):List (Nat×AV):=[(6,.ptr 2 0 0 0 0),(9,.ptr 19 0 0 0 0),(28,.d (.lst false 1 a6)),(29,.d (I ((a6).length:Int))),(30,.d (I sa.1))]
noncomputable def qL (a6:List D) (sa:(Int×Int×Int×Int×Int×Int×Int)):List (Nat×Blk):=[(2,.box (.d (.agg [I 0,I 0,I 0]))),(19,.box (.d (.agg [I sa.2.1,I sa.2.2.1,I sa.2.2.2.1,I sa.2.2.2.2.1,I sa.2.2.2.2.2.1,I sa.2.2.2.2.2.2])))]
noncomputable def qx (a6:List D) (e:(Unit)⊕(Int×Int×Int×Int×Int×Int)):Ex:=match e with
 | (.inl e)=>.ret
 | (.inr e)=>(.exit 0)
noncomputable def EM (a6:List D) (e:(Unit)⊕(Int×Int×Int×Int×Int×Int)):List (Nat×AV):=match e with
 | (.inl e)=>[(6,.ptr 2 0 0 0 0),(7,.d (I 20))]
 | (.inr e)=>[(6,.ptr 2 0 0 0 0),(9,.ptr 19 0 0 0 0)]
noncomputable def ES (a6:List D) (e:(Unit)⊕(Int×Int×Int×Int×Int×Int)):List (Nat×Blk):=match e with
 | (.inl e)=>[(2,.box (.d (.agg [I 0,I 0,I 0])))]
 | (.inr e)=>[(2,.box (.d (.agg [I 0,I 0,I 0]))),(19,.box (.d (.agg [I e.1,I e.2.1,I e.2.2.1,I e.2.2.2.1,I e.2.2.2.2.1,I e.2.2.2.2.2])))]
theorem Kq {n:Nat} {a6:List D} (sa:(Int×Int×Int×Int×Int×Int×Int)) (r) (h:V3 n a6 sa=some r):Rd cx (Qu cx.P 11 0) 65 0 false (qD a6) (qL a6) (qx a6) (EM a6) (ES a6) sa r:=by
 unfold V3 at h
 by_cases ha1:sa.1 < ((a6).length:Int)
 ·replace h:=Ql h ha1
  obtain ⟨ta2,ha2,h⟩:=Qg h
  obtain ⟨ha3,h⟩:=Qi h
  by_cases ha4:ta2 < (sa.2.1 - sa.2.2.2.2.1)
  ·replace h:=Ql h ha4
   replace h:=Option.some.inj h
   subst h
   exact ⟨⟨100,24,[.br true,.el (I ta2),.br true,.no],[],[6,7],[2],Qk (ob:=[(decide (ta2 < (sa.2.1 - sa.2.2.2.2.1)))=true,Qa (sa.2.1 - sa.2.2.2.2.1),(0:Int)≤sa.1,nth (a6) (Int.toNat sa.1)=some (I ta2),(decide (sa.1 < ((a6).length:Int)))=true]) (by kernel_rfl) ⟨(decide_eq_true ha4),ha3,(Qs QG ha2).1,(Qs QG ha2).2,(decide_eq_true ha1),trivial⟩⟩,nofun⟩
  ·replace h:=Qm h ha4
   obtain ⟨ha5,h⟩:=Qi h
   by_cases ha6:ta2 > (sa.2.2.1 - sa.2.2.2.2.1)
   ·replace h:=Ql h ha6
    replace h:=Option.some.inj h
    subst h
    exact ⟨⟨100,24,[.br true,.el (I ta2),.br false,.br true],[],[6,7],[2],Qk (ob:=[(decide (ta2 > (sa.2.2.1 - sa.2.2.2.2.1)))=true,Qa (sa.2.2.1 - sa.2.2.2.2.1),(decide (ta2 < (sa.2.1 - sa.2.2.2.2.1)))=false,Qa (sa.2.1 - sa.2.2.2.2.1),(0:Int)≤sa.1,nth (a6) (Int.toNat sa.1)=some (I ta2),(decide (sa.1 < ((a6).length:Int)))=true]) (by kernel_rfl) ⟨(decide_eq_true ha6),ha5,(decide_eq_false ha4),ha3,(Qs QG ha2).1,(Qs QG ha2).2,(decide_eq_true ha1),trivial⟩⟩,nofun⟩
   ·replace h:=Qm h ha6
    obtain ⟨ha7,h⟩:=Qi h
    obtain ⟨ta8,ha8,h⟩:=Qg h
    obtain ⟨ha9,h⟩:=Qi h
    replace h:=Option.some.inj h
    subst h
    exact ⟨100,24,[.br true,.el (I ta2),.br false,.br false,.ret (.agg [I ta8.1,I ta8.2.1,I ta8.2.2.1,I ta8.2.2.2.1,I ta8.2.2.2.2.1,I ta8.2.2.2.2.2])],[],[6,9,28,29,30],[2,19],Qk (ob:=[Qa (sa.1+1),Computes cx 40 [.agg [I sa.2.1,I sa.2.2.1,I sa.2.2.2.1,I sa.2.2.2.2.1,I sa.2.2.2.2.2.1,I sa.2.2.2.2.2.2],I (sa.2.2.2.2.1+ta2)] (.agg [I ta8.1,I ta8.2.1,I ta8.2.2.1,I ta8.2.2.2.1,I ta8.2.2.2.2.1,I ta8.2.2.2.2.2]),Qa (sa.2.2.2.2.1+ta2),(decide (ta2 > (sa.2.2.1 - sa.2.2.2.2.1)))=false,Qa (sa.2.2.1 - sa.2.2.2.2.1),(decide (ta2 < (sa.2.1 - sa.2.2.2.2.1)))=false,Qa (sa.2.1 - sa.2.2.2.2.1),(0:Int)≤sa.1,nth (a6) (Int.toNat sa.1)=some (I ta2),(decide (sa.1 < ((a6).length:Int)))=true]) (by kernel_rfl) ⟨ha9,(VY ha8),ha7,(decide_eq_false ha6),ha5,(decide_eq_false ha4),ha3,(Qs QG ha2).1,(Qs QG ha2).2,(decide_eq_true ha1),trivial⟩⟩
 ·replace h:=Qm h ha1
  replace h:=Option.some.inj h
  subst h
  exact ⟨⟨100,24,[.br false],[],[6,9],[2,19],Qk (ob:=[(decide (sa.1 < ((a6).length:Int)))=false]) (by kernel_rfl) ⟨(decide_eq_false ha1),trivial⟩⟩,nofun⟩
def Ye (n:Nat) (a0 a1 a2 a3 a4 a5:Int) (a6:List D):Option (Int×Int×Int×Int) :=
 (Wk n a0 a1 a2 a3 a4 a5).bind fun t1 =>
 (QF n (decide (((a6).length:Int) > 256)) 5).bind fun t2 =>
 (Qr n ([I t1,I t2])).bind fun t3 =>
 if t3=0 then
  (Q2 (V3 n a6) n (0,a0,a1,a2,a3,a4,a5)).bind fun t5=>match t5 with
   | (.inl t5)=>(
    some (0,0,0,20))
   | (.inr t5)=>(
    some (t5.2.2.2.1,t5.2.2.2.2.1,t5.2.2.2.2.2,0))
 else
 some (0,0,0,t3)
theorem UT {n:Nat} {a0 a1 a2 a3 a4 a5:Int} {a6:List D} {r:Int×Int×Int×Int} (h:Ye n a0 a1 a2 a3 a4 a5 a6=some r):Computes cx 11 [.agg [I a0,I a1,I a2],.agg [I a3,I a4,I a5],.lst false 1 a6] (.tup [.agg [I r.1,I r.2.1,I r.2.2.1],I r.2.2.2]):=by
 unfold Ye at h
 obtain ⟨t1,h1,h⟩:=Qg h
 obtain ⟨t2,h2,h⟩:=Qg h
 obtain ⟨t3,h3,h⟩:=Qg h
 by_cases h4:t3=0
 ·replace h:=Ql h h4
  obtain ⟨t5,h5,h⟩:=Qg h
  rcases t5 with t5 | t5
  ·replace h:=Option.some.inj h
   subst h
   exact run (n:=100) (f:=11) (args:=[.agg [I a0,I a1,I a2],.agg [I a3,I a4,I a5],.lst false 1 a6]) (orc:=[.ret (I t1),.ret (I t2),.ret (I t3),.br false,.lp [] [6,9,28,29,30] [2,19] .ret [(6,.ptr 2 0 0 0 0),(7,.d (I 20))] [(2,.box (.d (.agg [I 0,I 0,I 0])))] 69]) (r:=.tup [.agg [I 0,I 0,I 0],I 20]) (ob:=[QV cx (Qu cx.P 11 0) 65 0 false [(6,.ptr 2 0 0 0 0),(9,.ptr 19 0 0 0 0),(28,.d (.lst false 1 a6)),(29,.d (I ((a6).length:Int))),(30,.d (I 0))] [(2,.box (.d (.agg [I 0,I 0,I 0]))),(19,.box (.d (.agg [I a0,I a1,I a2,I a3,I a4,I a5])))] .ret [(6,.ptr 2 0 0 0 0),(7,.d (I 20))] [(2,.box (.d (.agg [I 0,I 0,I 0])))],(t3 != 0)=false,Computes cx 29 [.lst true 1 [I t1,I t2]] (I t3),Computes cx 39 [B (decide (((a6).length:Int) > 256)),I 5] (I t2),Computes cx 38 [.agg [I a0,I a1,I a2],.agg [I a3,I a4,I a5]] (I t1)]) (by kernel_rfl) ⟨(Qv Kq h5),(nef h4),((Qj h3).le (.cons (.full _ _ _) (.nil)) (.refl _)),(Qq h2),(Zm h1),trivial⟩
  ·replace h:=Option.some.inj h
   subst h
   exact run (n:=100) (f:=11) (args:=[.agg [I a0,I a1,I a2],.agg [I a3,I a4,I a5],.lst false 1 a6]) (orc:=[.ret (I t1),.ret (I t2),.ret (I t3),.br false,.lp [] [6,9,28,29,30] [2,19] (.exit 0) [(6,.ptr 2 0 0 0 0),(9,.ptr 19 0 0 0 0)] [(2,.box (.d (.agg [I 0,I 0,I 0]))),(19,.box (.d (.agg [I t5.1,I t5.2.1,I t5.2.2.1,I t5.2.2.2.1,I t5.2.2.2.2.1,I t5.2.2.2.2.2])))] 69]) (r:=.tup [.agg [I t5.2.2.2.1,I t5.2.2.2.2.1,I t5.2.2.2.2.2],I 0]) (ob:=[QV cx (Qu cx.P 11 0) 65 0 false [(6,.ptr 2 0 0 0 0),(9,.ptr 19 0 0 0 0),(28,.d (.lst false 1 a6)),(29,.d (I ((a6).length:Int))),(30,.d (I 0))] [(2,.box (.d (.agg [I 0,I 0,I 0]))),(19,.box (.d (.agg [I a0,I a1,I a2,I a3,I a4,I a5])))] (.exit 0) [(6,.ptr 2 0 0 0 0),(9,.ptr 19 0 0 0 0)] [(2,.box (.d (.agg [I 0,I 0,I 0]))),(19,.box (.d (.agg [I t5.1,I t5.2.1,I t5.2.2.1,I t5.2.2.2.1,I t5.2.2.2.2.1,I t5.2.2.2.2.2])))],(t3 != 0)=false,Computes cx 29 [.lst true 1 [I t1,I t2]] (I t3),Computes cx 39 [B (decide (((a6).length:Int) > 256)),I 5] (I t2),Computes cx 38 [.agg [I a0,I a1,I a2],.agg [I a3,I a4,I a5]] (I t1)]) (by kernel_rfl) ⟨(Qv Kq h5),(nef h4),((Qj h3).le (.cons (.full _ _ _) (.nil)) (.refl _)),(Qq h2),(Zm h1),trivial⟩
 ·replace h:=Qm h h4
  replace h:=Option.some.inj h
  subst h
  exact run (n:=100) (f:=11) (args:=[.agg [I a0,I a1,I a2],.agg [I a3,I a4,I a5],.lst false 1 a6]) (orc:=[.ret (I t1),.ret (I t2),.ret (I t3),.br true]) (r:=.tup [.agg [I 0,I 0,I 0],I t3]) (ob:=[(t3 != 0)=true,Computes cx 29 [.lst true 1 [I t1,I t2]] (I t3),Computes cx 39 [B (decide (((a6).length:Int) > 256)),I 5] (I t2),Computes cx 38 [.agg [I a0,I a1,I a2],.agg [I a3,I a4,I a5]] (I t1)]) (by kernel_rfl) ⟨(net h4),((Qj h3).le (.cons (.full _ _ _) (.nil)) (.refl _)),(Qq h2),(Zm h1),trivial⟩
def Vk (n:Nat) (a0 a1 a2 a3 a4 a5:Int):Option (Int×Int×Int×List D×Int) :=
 (Wk n a0 a1 a2 a3 a4 a5).bind fun t1 =>
 if t1=0 then
  if Qa (a0 - a3) then
  (Ye n a0 a1 a2 a3 a4 a5 ([I (a0 - a3),I a2])).bind fun t4 =>
  if t4.2.2.2=0 then
   some (t4.1,t4.2.1,t4.2.2.1,[I (a0 - a3),I a2],0)
  else
  some (0,0,0,[],t4.2.2.2)
  else none
 else
 some (0,0,0,[],t1)
theorem XF {n:Nat} {a0 a1 a2 a3 a4 a5:Int} {r:Int×Int×Int×List D×Int} (h:Vk n a0 a1 a2 a3 a4 a5=some r):Computes cx 13 [.agg [I a0,I a1,I a2],.agg [I a3,I a4,I a5]] (.tup [.agg [I r.1,I r.2.1,I r.2.2.1],.lst false 1 r.2.2.2.1,I r.2.2.2.2]):=by
 unfold Vk at h
 obtain ⟨t1,h1,h⟩:=Qg h
 by_cases h2:t1=0
 ·replace h:=Ql h h2
  obtain ⟨h3,h⟩:=Qi h
  obtain ⟨t4,h4,h⟩:=Qg h
  by_cases h5:t4.2.2.2=0
  ·replace h:=Ql h h5
   replace h:=Option.some.inj h
   subst h
   exact (run (n:=100) (f:=13) (args:=[.agg [I a0,I a1,I a2],.agg [I a3,I a4,I a5]]) (orc:=[.ret (I t1),.br false,.ret (.tup [.agg [I t4.1,I t4.2.1,I t4.2.2.1],I t4.2.2.2]),.br false]) (r:=.tup [.agg [I t4.1,I t4.2.1,I t4.2.2.1],.lst true 1 [I (a0 - a3),I a2],I 0]) (ob:=[(t4.2.2.2 != 0)=false,Computes cx 11 [.agg [I a0,I a1,I a2],.agg [I a3,I a4,I a5],.lst true 1 [I (a0 - a3),I a2]] (.tup [.agg [I t4.1,I t4.2.1,I t4.2.2.1],I t4.2.2.2]),Qa (a0 - a3),(t1 != 0)=false,Computes cx 38 [.agg [I a0,I a1,I a2],.agg [I a3,I a4,I a5]] (I t1)]) (by kernel_rfl) ⟨(nef h5),((UT h4).le (.cons (.refl _) (.cons (.refl _) (.cons (.full _ _ _) (.nil)))) (.refl _)),h3,(nef h2),(Zm h1),trivial⟩).le (LEs.refl _) (.tups (.cons (.refl _) (.cons (.full _ _ _) (.cons (.refl _) (.nil)))))
  ·replace h:=Qm h h5
   replace h:=Option.some.inj h
   subst h
   exact (run (n:=100) (f:=13) (args:=[.agg [I a0,I a1,I a2],.agg [I a3,I a4,I a5]]) (orc:=[.ret (I t1),.br false,.ret (.tup [.agg [I t4.1,I t4.2.1,I t4.2.2.1],I t4.2.2.2]),.br true]) (r:=.tup [.agg [I 0,I 0,I 0],.lst true 0 [],I t4.2.2.2]) (ob:=[(t4.2.2.2 != 0)=true,Computes cx 11 [.agg [I a0,I a1,I a2],.agg [I a3,I a4,I a5],.lst true 1 [I (a0 - a3),I a2]] (.tup [.agg [I t4.1,I t4.2.1,I t4.2.2.1],I t4.2.2.2]),Qa (a0 - a3),(t1 != 0)=false,Computes cx 38 [.agg [I a0,I a1,I a2],.agg [I a3,I a4,I a5]] (I t1)]) (by kernel_rfl) ⟨(net h5),((UT h4).le (.cons (.refl _) (.cons (.refl _) (.cons (.full _ _ _) (.nil)))) (.refl _)),h3,(nef h2),(Zm h1),trivial⟩).le (LEs.refl _) (.tups (.cons (.refl _) (.cons (.nilF) (.cons (.refl _) (.nil)))))
 ·replace h:=Qm h h2
  replace h:=Option.some.inj h
  subst h
  exact (run (n:=100) (f:=13) (args:=[.agg [I a0,I a1,I a2],.agg [I a3,I a4,I a5]]) (orc:=[.ret (I t1),.br true]) (r:=.tup [.agg [I 0,I 0,I 0],.lst true 0 [],I t1]) (ob:=[(t1 != 0)=true,Computes cx 38 [.agg [I a0,I a1,I a2],.agg [I a3,I a4,I a5]] (I t1)]) (by kernel_rfl) ⟨(net h2),(Zm h1),trivial⟩).le (LEs.refl _) (.tups (.cons (.refl _) (.cons (.nilF) (.cons (.refl _) (.nil)))))
def QbJ (x:Int×Int×Int):D:=.agg [I x.1,I x.2.1,I x.2.2]
def Wd:D→Option (Int×Int×Int)
 | .agg [c0,c1,c2]=>(JE .i64 c0).bind fun y0=>(JE .i64 c1).bind fun y1=>(JE .i64 c2).bind fun y2=>some (y0,y1,y2)
 | _=>none
theorem Qp {d:D} {x:Int×Int×Int} (h:Wd d=some x):d=QbJ x:=by
 unfold Wd at h
 split at h
 case h_2=>cases h
 obtain ⟨y0,h0,h⟩:=Qg h
 obtain ⟨y1,h1,h⟩:=Qg h
 obtain ⟨y2,h2,h⟩:=Qg h
 cases h
 have e0:=YV h0
 have e1:=YV h1
 have e2:=YV h2
 rw [e0,e1,e2];rfl
def ZW (n:Nat) (a0 a1 a2:Int):Option (Int) :=
 (Qy n a0 (-1000) 1000).bind fun t1 =>
 (QN n a1 a2 1000000).bind fun t2 =>
 (Qr n ([I t1,I t2])).bind fun t3 =>
 some t3
theorem ZT {n:Nat} {a0 a1 a2:Int} {r:Int} (h:ZW n a0 a1 a2=some r):Computes cx 45 [.agg [I a0,I a1,I a2]] (I r):=by
 unfold ZW at h
 obtain ⟨t1,h1,h⟩:=Qg h
 obtain ⟨t2,h2,h⟩:=Qg h
 obtain ⟨t3,h3,h⟩:=Qg h
 replace h:=Option.some.inj h
 subst h
 exact run (n:=100) (f:=45) (args:=[.agg [I a0,I a1,I a2]]) (orc:=[.ret (I t1),.ret (I t2),.ret (I t3)]) (r:=I t3) (ob:=[Computes cx 29 [.lst true 1 [I t1,I t2]] (I t3),Computes cx 42 [.agg [I a1,I a2],I 1000000] (I t2),Computes cx 32 [I a0,I (-1000),I 1000] (I t1)]) (by kernel_rfl) ⟨((Qj h3).le (.cons (.full _ _ _) (.nil)) (.refl _)),(Qx h2),(Qb h1),trivial⟩
def Wt (n:Nat) (a0:List D) (sa:(Int×List D)):Option (((Int×List D))⊕((List D))) :=
 if sa.1 < ((a0).length:Int) then
  (el Wd a0 sa.1).bind fun ta2 =>
  (ZW n ta2.1 ta2.2.1 ta2.2.2).bind fun ta3 =>
  if ZZ 8 ((sa.2).length+1) then
  if Qa (sa.1+1) then
  some (.inl ((sa.1+1),(sa.2++([I ta3]:List D))))
  else none
  else none
 else
 some (.inr sa.2)
noncomputable def Js (a0:List D) (sa:(Int×List D)):List (Nat×AV):=[(1,.d (.fn (.func 45) [] [])),(5,.own 5 0),(8,.d (.lst false 3 a0)),(9,.d (I ((a0).length:Int))),(10,.d (I sa.1))]
noncomputable def JB (a0:List D) (sa:(Int×List D)):List (Nat×Blk):=[(5,.row 0 1 sa.2)]
noncomputable def Jf (a0:List D) (e:(List D)):Ex:=(.exit 0)
noncomputable def KS (a0:List D) (e:(List D)):List (Nat×AV):=[(5,.own 5 0)]
noncomputable def KX (a0:List D) (e:(List D)):List (Nat×Blk):=[(5,.row 0 1 e)]
theorem Jx {n:Nat} {a0:List D} (sa:(Int×List D)) (r) (h:Wt n a0 sa=some r):Rd cx (Qu cx.P 64 0) 22 0 false (Js a0) (JB a0) (Jf a0) (KS a0) (KX a0) sa r:=by
 unfold Wt at h
 by_cases ha1:sa.1 < ((a0).length:Int)
 ·replace h:=Ql h ha1
  obtain ⟨ta2,ha2,h⟩:=Qg h
  obtain ⟨ta3,ha3,h⟩:=Qg h
  obtain ⟨ha4,h⟩:=Qi h
  obtain ⟨ha5,h⟩:=Qi h
  replace h:=Option.some.inj h
  subst h
  exact ⟨100,6,[.br true,.el (.agg [I ta2.1,I ta2.2.1,I ta2.2.2]),.ret (I ta3),.br true],[],[1,5,8,9,10],[5],Qk (ob:=[Qa (sa.1+1),room cx 27 ((sa.2).length+1),Computes cx 45 [.agg [I ta2.1,I ta2.2.1,I ta2.2.2]] (I ta3),(0:Int)≤sa.1,nth (a0) (Int.toNat sa.1)=some (.agg [I ta2.1,I ta2.2.1,I ta2.2.2]),(decide (sa.1 < ((a0).length:Int)))=true]) (by kernel_rfl) ⟨ha5,(Zp (b:=8) (by kernel_rfl) (by decide) ha4),(ZT ha3),(Qs Qp ha2).1,(Qs Qp ha2).2,(decide_eq_true ha1),trivial⟩⟩
 ·replace h:=Qm h ha1
  replace h:=Option.some.inj h
  subst h
  exact ⟨⟨100,6,[.br false],[],[5],[5],Qk (ob:=[(decide (sa.1 < ((a0).length:Int)))=false]) (by kernel_rfl) ⟨(decide_eq_false ha1),trivial⟩⟩,nofun⟩
def Vh (n:Nat) (a0:List D):Option (List D) :=
 (Q2 (Wt n a0) n (0,[])).bind fun t1 =>
 some t1
theorem XE {n:Nat} {a0:List D} {r:List D} (h:Vh n a0=some r):Computes cx 64 [.lst false 3 a0,.fn (.func 45) [] []] (.lst false 1 r):=by
 unfold Vh at h
 obtain ⟨t1,h1,h⟩:=Qg h
 replace h:=Option.some.inj h
 subst h
 exact run (n:=100) (f:=64) (args:=[.lst false 3 a0,.fn (.func 45) [] []]) (orc:=[.lp [5,1] [1,5,8,9,10] [5] (.exit 0) [(5,.own 5 0)] [(5,.row 0 1 t1)] 31]) (r:=.lst false 1 t1) (ob:=[QV cx (Qu cx.P 64 0) 22 0 false [(1,.d (.fn (.func 45) [] [])),(5,.own 5 0),(8,.d (.lst false 3 a0)),(9,.d (I ((a0).length:Int))),(10,.d (I 0))] [(5,.row 0 1 [])] (.exit 0) [(5,.own 5 0)] [(5,.row 0 1 t1)]]) (by kernel_rfl) ⟨(Qv Jx h1),trivial⟩
def WK (n:Nat) (a0:List D):Option (Int) :=
 (QF n (((a0).length:Int) == 0) 12).bind fun t1 =>
 (QF n (decide (((a0).length:Int) > 16)) 5).bind fun t2 =>
 (Qr n ([I t1,I t2])).bind fun t3 =>
 if t3=0 then
  (Vh n a0).bind fun t5 =>
  (Qr n t5).bind fun t6 =>
  some t6
 else
 some t3
theorem WF {n:Nat} {a0:List D} {r:Int} (h:WK n a0=some r):Computes cx 41 [.lst false 3 a0] (I r):=by
 unfold WK at h
 obtain ⟨t1,h1,h⟩:=Qg h
 obtain ⟨t2,h2,h⟩:=Qg h
 obtain ⟨t3,h3,h⟩:=Qg h
 by_cases h4:t3=0
 ·replace h:=Ql h h4
  obtain ⟨t5,h5,h⟩:=Qg h
  obtain ⟨t6,h6,h⟩:=Qg h
  replace h:=Option.some.inj h
  subst h
  exact run (n:=100) (f:=41) (args:=[.lst false 3 a0]) (orc:=[.ret (I t1),.ret (I t2),.ret (I t3),.br false,.ret (.lst false 1 t5),.ret (I t6)]) (r:=I t6) (ob:=[Computes cx 29 [.lst false 1 t5] (I t6),Computes cx 64 [.lst false 3 a0,.fn (.func 45) [] []] (.lst false 1 t5),(t3 != 0)=false,Computes cx 29 [.lst true 1 [I t1,I t2]] (I t3),Computes cx 39 [B (decide (((a0).length:Int) > 16)),I 5] (I t2),Computes cx 39 [B (((a0).length:Int) == 0),I 12] (I t1)]) (by kernel_rfl) ⟨(Qj h6),(XE h5),(nef h4),((Qj h3).le (.cons (.full _ _ _) (.nil)) (.refl _)),(Qq h2),(Qq h1),trivial⟩
 ·replace h:=Qm h h4
  replace h:=Option.some.inj h
  subst h
  exact run (n:=100) (f:=41) (args:=[.lst false 3 a0]) (orc:=[.ret (I t1),.ret (I t2),.ret (I t3),.br true]) (r:=I t3) (ob:=[(t3 != 0)=true,Computes cx 29 [.lst true 1 [I t1,I t2]] (I t3),Computes cx 39 [B (decide (((a0).length:Int) > 16)),I 5] (I t2),Computes cx 39 [B (((a0).length:Int) == 0),I 12] (I t1)]) (by kernel_rfl) ⟨(net h4),((Qj h3).le (.cons (.full _ _ _) (.nil)) (.refl _)),(Qq h2),(Qq h1),trivial⟩
def VM (n:Nat) (a0 a1 a2 a3:Int):Option (Int×Int×Bool) :=
 some ((VU a0 a2),(Yw a1 a3),(decide ((VU a0 a2)≤(Yw a1 a3))))
theorem Un {n:Nat} {a0 a1 a2 a3:Int} {r:Int×Int×Bool} (h:VM n a0 a1 a2 a3=some r):Computes cx 65 [.agg [I a0,I a1],.agg [I a2,I a3]] (.tup [.agg [I r.1,I r.2.1],B r.2.2]):=by
 unfold VM at h
 replace h:=Option.some.inj h
 subst h
 exact run (n:=100) (f:=65) (args:=[.agg [I a0,I a1],.agg [I a2,I a3]]) (orc:=[]) (r:=.tup [.agg [I (VU a0 a2),I (Yw a1 a3)],B (decide ((VU a0 a2)≤(Yw a1 a3)))]) (ob:=[]) (by kernel_rfl) trivial
def Z4 (n:Nat) (a0 a1 a2 a3 a4 a5:Int):Option (Int×Int×Int×Bool) :=
 if Qa (a0 * a3) then
 if Qa (a4 - (a0 * a3)) then
 if Qa (a5 - (a0 * a3)) then
 (VM n a1 a2 (a4 - (a0 * a3)) (a5 - (a0 * a3))).bind fun t4 =>
 some (a0,t4.1,t4.2.1,t4.2.2)
 else none
 else none
 else none
theorem Z0 {n:Nat} {a0 a1 a2 a3 a4 a5:Int} {r:Int×Int×Int×Bool} (h:Z4 n a0 a1 a2 a3 a4 a5=some r):Computes cx 43 [.agg [I a0,I a1,I a2],.agg [I a3,I a4,I a5]] (.tup [.agg [I r.1,I r.2.1,I r.2.2.1],B r.2.2.2]):=by
 unfold Z4 at h
 obtain ⟨h1,h⟩:=Qi h
 obtain ⟨h2,h⟩:=Qi h
 obtain ⟨h3,h⟩:=Qi h
 obtain ⟨t4,h4,h⟩:=Qg h
 replace h:=Option.some.inj h
 subst h
 exact run (n:=100) (f:=43) (args:=[.agg [I a0,I a1,I a2],.agg [I a3,I a4,I a5]]) (orc:=[.ret (.tup [.agg [I t4.1,I t4.2.1],B t4.2.2])]) (r:=.tup [.agg [I a0,I t4.1,I t4.2.1],B t4.2.2]) (ob:=[Computes cx 65 [.agg [I a1,I a2],.agg [I (a4 - (a0 * a3)),I (a5 - (a0 * a3))]] (.tup [.agg [I t4.1,I t4.2.1],B t4.2.2]),Qa (a5 - (a0 * a3)),Qa (a4 - (a0 * a3)),Qa (a0 * a3)]) (by kernel_rfl) ⟨(Un h4),h3,h2,h1,trivial⟩
def W4 (n:Nat) (a0:List D) (a1 a2:Int) (sa:Int×List D) (sb:(Int×Int×Int×Int)):Option (((Int×Int×Int×Int))⊕((Unit)⊕(Int×Int×Int))) :=
 if sb.1 < ((a0).length:Int) then
  (el Wd a0 sb.1).bind fun tb2 =>
  (Z4 n sb.2.1 sb.2.2.1 sb.2.2.2 tb2.1 tb2.2.1 tb2.2.2).bind fun tb3 =>
  if tb3.2.2.2=true then
   if Qa (sb.1+1) then
   some (.inl ((sb.1+1),tb3.1,tb3.2.1,tb3.2.2.1))
   else none
  else
  some (.inr (.inl ()))
 else
 some (.inr (.inr (sb.2.1,sb.2.2.1,sb.2.2.2)))
noncomputable def GO (a0:List D) (a1 a2:Int) (sa:Int×List D) (sb:(Int×Int×Int×Int)):List (Nat×AV):=[(0,.d (.lst false 3 a0)),(3,.ptr 0 0 0 0 0),(7,.own 20 0),(9,.ptr 30 0 0 0 0),(28,.d (I ((a2 - a1)+1))),(29,.d (I sa.1)),(38,.d (.lst false 3 a0)),(39,.d (I ((a0).length:Int))),(40,.d (I sb.1))]
noncomputable def GV (a0:List D) (a1 a2:Int) (sa:Int×List D) (sb:(Int×Int×Int×Int)):List (Nat×Blk):=[(0,.box (.d (.agg [I a1,I a2]))),(20,.row 0 3 sa.2),(30,.box (.d (.agg [I sb.2.1,I sb.2.2.1,I sb.2.2.2])))]
noncomputable def GD (a0:List D) (a1 a2:Int) (sa:Int×List D) (e:(Unit)⊕(Int×Int×Int)):Ex:=match e with
 | (.inl e)=>(.exit 1)
 | (.inr e)=>(.exit 2)
noncomputable def J6 (a0:List D) (a1 a2:Int) (sa:Int×List D) (e:(Unit)⊕(Int×Int×Int)):List (Nat×AV):=match e with
 | (.inl e)=>[(0,.d (.lst false 3 a0)),(3,.ptr 0 0 0 0 0),(7,.own 20 0),(28,.d (I ((a2 - a1)+1))),(29,.d (I sa.1))]
 | (.inr e)=>[(0,.d (.lst false 3 a0)),(3,.ptr 0 0 0 0 0),(7,.own 20 0),(9,.ptr 30 0 0 0 0),(28,.d (I ((a2 - a1)+1))),(29,.d (I sa.1))]
noncomputable def Gb (a0:List D) (a1 a2:Int) (sa:Int×List D) (e:(Unit)⊕(Int×Int×Int)):List (Nat×Blk):=match e with
 | (.inl e)=>[(0,.box (.d (.agg [I a1,I a2]))),(20,.row 0 3 sa.2)]
 | (.inr e)=>[(0,.box (.d (.agg [I a1,I a2]))),(20,.row 0 3 sa.2),(30,.box (.d (.agg [I e.1,I e.2.1,I e.2.2])))]
theorem YI {n:Nat} {a0:List D} {a1 a2:Int} {sa:Int×List D} (sb:(Int×Int×Int×Int)) (r) (h:W4 n a0 a1 a2 sa sb=some r):Rd cx (Qu cx.P 14 1) 72 0 false (GO a0 a1 a2 sa) (GV a0 a1 a2 sa) (GD a0 a1 a2 sa) (J6 a0 a1 a2 sa) (Gb a0 a1 a2 sa) sb r:=by
 unfold W4 at h
 by_cases hb1:sb.1 < ((a0).length:Int)
 ·replace h:=Ql h hb1
  obtain ⟨tb2,hb2,h⟩:=Qg h
  obtain ⟨tb3,hb3,h⟩:=Qg h
  by_cases hb4:tb3.2.2.2=true
  ·replace h:=Ql h hb4
   obtain ⟨hb5,h⟩:=Qi h
   replace h:=Option.some.inj h
   subst h
   exact ⟨100,35,[.br true,.el (.agg [I tb2.1,I tb2.2.1,I tb2.2.2]),.ret (.tup [.agg [I tb3.1,I tb3.2.1,I tb3.2.2.1],B tb3.2.2.2]),.br false],[],[0,3,7,9,28,29,38,39,40],[0,20,30],Qk (ob:=[Qa (sb.1+1),(!tb3.2.2.2)=false,Computes cx 43 [.agg [I sb.2.1,I sb.2.2.1,I sb.2.2.2],.agg [I tb2.1,I tb2.2.1,I tb2.2.2]] (.tup [.agg [I tb3.1,I tb3.2.1,I tb3.2.2.1],B tb3.2.2.2]),(0:Int)≤sb.1,nth (a0) (Int.toNat sb.1)=some (.agg [I tb2.1,I tb2.2.1,I tb2.2.2]),(decide (sb.1 < ((a0).length:Int)))=true]) (by kernel_rfl) ⟨hb5,(U7 hb4),(Z0 hb3),(Qs Qp hb2).1,(Qs Qp hb2).2,(decide_eq_true hb1),trivial⟩⟩
  ·replace h:=Qm h hb4
   replace h:=Option.some.inj h
   subst h
   exact ⟨⟨100,35,[.br true,.el (.agg [I tb2.1,I tb2.2.1,I tb2.2.2]),.ret (.tup [.agg [I tb3.1,I tb3.2.1,I tb3.2.2.1],B tb3.2.2.2]),.br true],[],[0,3,7,28,29],[0,20],Qk (ob:=[(!tb3.2.2.2)=true,Computes cx 43 [.agg [I sb.2.1,I sb.2.2.1,I sb.2.2.2],.agg [I tb2.1,I tb2.2.1,I tb2.2.2]] (.tup [.agg [I tb3.1,I tb3.2.1,I tb3.2.2.1],B tb3.2.2.2]),(0:Int)≤sb.1,nth (a0) (Int.toNat sb.1)=some (.agg [I tb2.1,I tb2.2.1,I tb2.2.2]),(decide (sb.1 < ((a0).length:Int)))=true]) (by kernel_rfl) ⟨(jV (QI hb4)),(Z0 hb3),(Qs Qp hb2).1,(Qs Qp hb2).2,(decide_eq_true hb1),trivial⟩⟩,nofun⟩
 ·replace h:=Qm h hb1
  replace h:=Option.some.inj h
  subst h
  exact ⟨⟨100,35,[.br false],[],[0,3,7,9,28,29],[0,20,30],Qk (ob:=[(decide (sb.1 < ((a0).length:Int)))=false]) (by kernel_rfl) ⟨(decide_eq_false hb1),trivial⟩⟩,nofun⟩
def W3 (n:Nat) (a0:List D) (a1 a2:Int) (sa:(Int×List D)):Option (((Int×List D))⊕((List D))) :=
 if sa.1 < ((a2 - a1)+1) then
  if Qa (a1+sa.1) then
  (Q2 (W4 n a0 a1 a2 sa) n (0,(a1+sa.1),(-2000000),2000000)).bind fun ta3=>match ta3 with
   | (.inl ta3)=>(
    if Qa (sa.1+1) then
    some (.inl ((sa.1+1),sa.2))
    else none)
   | (.inr ta3)=>(
    if ZZ 24 ((sa.2).length+1) then
    if Qa (sa.1+1) then
    some (.inl ((sa.1+1),(sa.2++([.agg [I ta3.1,I ta3.2.1,I ta3.2.2]]:List D))))
    else none
    else none)
  else none
 else
 some (.inr sa.2)
noncomputable def GN (a0:List D) (a1 a2:Int) (sa:(Int×List D)):List (Nat×AV):=[(0,.d (.lst false 3 a0)),(3,.ptr 0 0 0 0 0),(7,.own 20 0),(28,.d (I ((a2 - a1)+1))),(29,.d (I sa.1))]
noncomputable def GU (a0:List D) (a1 a2:Int) (sa:(Int×List D)):List (Nat×Blk):=[(0,.box (.d (.agg [I a1,I a2]))),(20,.row 0 3 sa.2)]
noncomputable def GC (a0:List D) (a1 a2:Int) (e:(List D)):Ex:=(.exit 0)
noncomputable def J5 (a0:List D) (a1 a2:Int) (e:(List D)):List (Nat×AV):=[(7,.own 20 0)]
noncomputable def Ga (a0:List D) (a1 a2:Int) (e:(List D)):List (Nat×Blk):=[(20,.row 0 3 e)]
theorem YH {n:Nat} {a0:List D} {a1 a2:Int} (sa:(Int×List D)) (r) (h:W3 n a0 a1 a2 sa=some r):Rd cx (Qu cx.P 14 0) 72 0 false (GN a0 a1 a2) (GU a0 a1 a2) (GC a0 a1 a2) (J5 a0 a1 a2) (Ga a0 a1 a2) sa r:=by
 unfold W3 at h
 by_cases ha1:sa.1 < ((a2 - a1)+1)
 ·replace h:=Ql h ha1
  obtain ⟨ha2,h⟩:=Qi h
  obtain ⟨ta3,ha3,h⟩:=Qg h
  rcases ta3 with ta3 | ta3
  ·obtain ⟨ha4,h⟩:=Qi h
   replace h:=Option.some.inj h
   subst h
   exact ⟨100,21,[.br true,.lp [] [0,3,7,9,28,29,38,39,40] [0,20,30] (.exit 1) [(0,.d (.lst false 3 a0)),(3,.ptr 0 0 0 0 0),(7,.own 20 0),(28,.d (I ((a2 - a1)+1))),(29,.d (I sa.1))] [(0,.box (.d (.agg [I a1,I a2]))),(20,.row 0 3 sa.2)] 64],[],[0,3,7,28,29],[0,20],Qk (ob:=[Qa (sa.1+1),QV cx (Qu cx.P 14 1) 72 0 false [(0,.d (.lst false 3 a0)),(3,.ptr 0 0 0 0 0),(7,.own 20 0),(9,.ptr 30 0 0 0 0),(28,.d (I ((a2 - a1)+1))),(29,.d (I sa.1)),(38,.d (.lst false 3 a0)),(39,.d (I ((a0).length:Int))),(40,.d (I 0))] [(0,.box (.d (.agg [I a1,I a2]))),(20,.row 0 3 sa.2),(30,.box (.d (.agg [I (a1+sa.1),I (-2000000),I 2000000])))] (.exit 1) [(0,.d (.lst false 3 a0)),(3,.ptr 0 0 0 0 0),(7,.own 20 0),(28,.d (I ((a2 - a1)+1))),(29,.d (I sa.1))] [(0,.box (.d (.agg [I a1,I a2]))),(20,.row 0 3 sa.2)],Qa (a1+sa.1),(decide (sa.1 < ((a2 - a1)+1)))=true]) (by kernel_rfl) ⟨ha4,(Qv YI ha3),ha2,(decide_eq_true ha1),trivial⟩⟩
  ·obtain ⟨ha4,h⟩:=Qi h
   obtain ⟨ha5,h⟩:=Qi h
   replace h:=Option.some.inj h
   subst h
   exact ⟨100,21,[.br true,.lp [] [0,3,7,9,28,29,38,39,40] [0,20,30] (.exit 2) [(0,.d (.lst false 3 a0)),(3,.ptr 0 0 0 0 0),(7,.own 20 0),(9,.ptr 30 0 0 0 0),(28,.d (I ((a2 - a1)+1))),(29,.d (I sa.1))] [(0,.box (.d (.agg [I a1,I a2]))),(20,.row 0 3 sa.2),(30,.box (.d (.agg [I ta3.1,I ta3.2.1,I ta3.2.2])))] 64,.br true],[],[0,3,7,28,29],[0,20],Qk (ob:=[Qa (sa.1+1),room cx 96 ((sa.2).length+1),QV cx (Qu cx.P 14 1) 72 0 false [(0,.d (.lst false 3 a0)),(3,.ptr 0 0 0 0 0),(7,.own 20 0),(9,.ptr 30 0 0 0 0),(28,.d (I ((a2 - a1)+1))),(29,.d (I sa.1)),(38,.d (.lst false 3 a0)),(39,.d (I ((a0).length:Int))),(40,.d (I 0))] [(0,.box (.d (.agg [I a1,I a2]))),(20,.row 0 3 sa.2),(30,.box (.d (.agg [I (a1+sa.1),I (-2000000),I 2000000])))] (.exit 2) [(0,.d (.lst false 3 a0)),(3,.ptr 0 0 0 0 0),(7,.own 20 0),(9,.ptr 30 0 0 0 0),(28,.d (I ((a2 - a1)+1))),(29,.d (I sa.1))] [(0,.box (.d (.agg [I a1,I a2]))),(20,.row 0 3 sa.2),(30,.box (.d (.agg [I ta3.1,I ta3.2.1,I ta3.2.2])))],Qa (a1+sa.1),(decide (sa.1 < ((a2 - a1)+1)))=true]) (by kernel_rfl) ⟨ha5,(Zp (b:=24) (by kernel_rfl) (by decide) ha4),(Qv YI ha3),ha2,(decide_eq_true ha1),trivial⟩⟩
 ·replace h:=Qm h ha1
  replace h:=Option.some.inj h
  subst h
  exact ⟨⟨100,21,[.br false],[],[7],[20],Qk (ob:=[(decide (sa.1 < ((a2 - a1)+1)))=false]) (by kernel_rfl) ⟨(decide_eq_false ha1),trivial⟩⟩,nofun⟩
def V4 (n:Nat) (a0:List D) (a1 a2:Int):Option (List D×Int) :=
 (WK n a0).bind fun t1 =>
 (QN n a1 a2 1000).bind fun t2 =>
 (Qr n ([I t1,I t2])).bind fun t3 =>
 if t3=0 then
  if Qa (a2 - a1) then
  if Qa ((a2 - a1)+1) then
  (Q2 (W3 n a0 a1 a2) n (0,[])).bind fun t7 =>
  (QF n (((t7).length:Int) == 0) 18).bind fun t8 =>
  (QF n (decide (((t7).length:Int) > 64)) 5).bind fun t9 =>
  (Qr n ([I t8,I t9])).bind fun t10 =>
  if t10=0 then
   some (t7,0)
  else
  some ([],t10)
  else none
  else none
 else
 some ([],t3)
theorem qh {n:Nat} {a0:List D} {a1 a2:Int} {r:List D×Int} (h:V4 n a0 a1 a2=some r):Computes cx 14 [.lst false 3 a0,.agg [I a1,I a2]] (.tup [.lst false 3 r.1,I r.2]):=by
 unfold V4 at h
 obtain ⟨t1,h1,h⟩:=Qg h
 obtain ⟨t2,h2,h⟩:=Qg h
 obtain ⟨t3,h3,h⟩:=Qg h
 by_cases h4:t3=0
 ·replace h:=Ql h h4
  obtain ⟨h5,h⟩:=Qi h
  obtain ⟨h6,h⟩:=Qi h
  obtain ⟨t7,h7,h⟩:=Qg h
  obtain ⟨t8,h8,h⟩:=Qg h
  obtain ⟨t9,h9,h⟩:=Qg h
  obtain ⟨t10,h10,h⟩:=Qg h
  by_cases h11:t10=0
  ·replace h:=Ql h h11
   replace h:=Option.some.inj h
   subst h
   exact run (n:=100) (f:=14) (args:=[.lst false 3 a0,.agg [I a1,I a2]]) (orc:=[.ret (I t1),.ret (I t2),.ret (I t3),.br false,.lp [7,3] [0,3,7,28,29] [0,20] (.exit 0) [(7,.own 20 0)] [(20,.row 0 3 t7)] 82,.ret (I t8),.ret (I t9),.ret (I t10),.br false]) (r:=.tup [.lst false 3 t7,I 0]) (ob:=[(t10 != 0)=false,Computes cx 29 [.lst true 1 [I t8,I t9]] (I t10),Computes cx 39 [B (decide (((t7).length:Int) > 64)),I 5] (I t9),Computes cx 39 [B (((t7).length:Int) == 0),I 18] (I t8),QV cx (Qu cx.P 14 0) 72 0 false [(0,.d (.lst false 3 a0)),(3,.ptr 0 0 0 0 0),(7,.own 20 0),(28,.d (I ((a2 - a1)+1))),(29,.d (I 0))] [(0,.box (.d (.agg [I a1,I a2]))),(20,.row 0 3 [])] (.exit 0) [(7,.own 20 0)] [(20,.row 0 3 t7)],Qa ((a2 - a1)+1),Qa (a2 - a1),(t3 != 0)=false,Computes cx 29 [.lst true 1 [I t1,I t2]] (I t3),Computes cx 42 [.agg [I a1,I a2],I 1000] (I t2),Computes cx 41 [.lst false 3 a0] (I t1)]) (by kernel_rfl) ⟨(nef h11),((Qj h10).le (.cons (.full _ _ _) (.nil)) (.refl _)),(Qq h9),(Qq h8),(Qv YH h7),h6,h5,(nef h4),((Qj h3).le (.cons (.full _ _ _) (.nil)) (.refl _)),(Qx h2),(WF h1),trivial⟩
  ·replace h:=Qm h h11
   replace h:=Option.some.inj h
   subst h
   exact (run (n:=100) (f:=14) (args:=[.lst false 3 a0,.agg [I a1,I a2]]) (orc:=[.ret (I t1),.ret (I t2),.ret (I t3),.br false,.lp [7,3] [0,3,7,28,29] [0,20] (.exit 0) [(7,.own 20 0)] [(20,.row 0 3 t7)] 82,.ret (I t8),.ret (I t9),.ret (I t10),.br true]) (r:=.tup [.lst true 0 [],I t10]) (ob:=[(t10 != 0)=true,Computes cx 29 [.lst true 1 [I t8,I t9]] (I t10),Computes cx 39 [B (decide (((t7).length:Int) > 64)),I 5] (I t9),Computes cx 39 [B (((t7).length:Int) == 0),I 18] (I t8),QV cx (Qu cx.P 14 0) 72 0 false [(0,.d (.lst false 3 a0)),(3,.ptr 0 0 0 0 0),(7,.own 20 0),(28,.d (I ((a2 - a1)+1))),(29,.d (I 0))] [(0,.box (.d (.agg [I a1,I a2]))),(20,.row 0 3 [])] (.exit 0) [(7,.own 20 0)] [(20,.row 0 3 t7)],Qa ((a2 - a1)+1),Qa (a2 - a1),(t3 != 0)=false,Computes cx 29 [.lst true 1 [I t1,I t2]] (I t3),Computes cx 42 [.agg [I a1,I a2],I 1000] (I t2),Computes cx 41 [.lst false 3 a0] (I t1)]) (by kernel_rfl) ⟨(net h11),((Qj h10).le (.cons (.full _ _ _) (.nil)) (.refl _)),(Qq h9),(Qq h8),(Qv YH h7),h6,h5,(nef h4),((Qj h3).le (.cons (.full _ _ _) (.nil)) (.refl _)),(Qx h2),(WF h1),trivial⟩).le (LEs.refl _) (.tups (.cons (.nilF) (.cons (.refl _) (.nil))))
 ·replace h:=Qm h h4
  replace h:=Option.some.inj h
  subst h
  exact (run (n:=100) (f:=14) (args:=[.lst false 3 a0,.agg [I a1,I a2]]) (orc:=[.ret (I t1),.ret (I t2),.ret (I t3),.br true]) (r:=.tup [.lst true 0 [],I t3]) (ob:=[(t3 != 0)=true,Computes cx 29 [.lst true 1 [I t1,I t2]] (I t3),Computes cx 42 [.agg [I a1,I a2],I 1000] (I t2),Computes cx 41 [.lst false 3 a0] (I t1)]) (by kernel_rfl) ⟨(net h4),((Qj h3).le (.cons (.full _ _ _) (.nil)) (.refl _)),(Qx h2),(WF h1),trivial⟩).le (LEs.refl _) (.tups (.cons (.nilF) (.cons (.refl _) (.nil))))
def U1 (n:Nat)  : Option (List D) :=
 some [.agg [I 5,I 100,I 102]]
theorem Zt {n:Nat}  {r:List D} (h:U1 n =some r):Computes cx 16 [] (.lst false 3 r):=by
 unfold U1 at h
 replace h:=Option.some.inj h
 subst h
 exact (run (n:=100) (f:=16) (args:=[]) (orc:=[]) (r:=.lst true 3 [.agg [I 5,I 100,I 102]]) (ob:=[]) (by kernel_rfl) trivial).le (LEs.refl _) (.full _ _ _)
def Wv (n:Nat) (a0:List D) (sa:(Int×Int)):Option (((Int×Int))⊕((Int)⊕(Unit))) :=
 if sa.2 < ((a0).length:Int) then
  (el Wd a0 sa.2).bind fun ta2 =>
  (Qy n ta2.1 (-1000) 1000).bind fun ta3 =>
  (QN n ta2.2.1 ta2.2.2 2000000).bind fun ta4 =>
  (QF n (decide (ta2.1≤sa.1)) 11).bind fun ta5 =>
  (Qr n ([I ta3,I ta4,I ta5])).bind fun ta6 =>
  if ta6=0 then
   if Qa (sa.2+1) then
   some (.inl (ta2.1,(sa.2+1)))
   else none
  else
  some (.inr (.inl ta6))
 else
 some (.inr (.inr ()))
noncomputable def Jt (a0:List D) (sa:(Int×Int)):List (Nat×AV):=[(4,.d (I sa.1)),(21,.d (.lst false 3 a0)),(22,.d (I ((a0).length:Int))),(23,.d (I sa.2))]
noncomputable def JC (a0:List D) (sa:(Int×Int)):List (Nat×Blk):=[]
noncomputable def Jg (a0:List D) (e:(Int)⊕(Unit)):Ex:=match e with
 | (.inl e)=>.ret
 | (.inr e)=>(.exit 0)
noncomputable def KT (a0:List D) (e:(Int)⊕(Unit)):List (Nat×AV):=match e with
 | (.inl e)=>[(2,.d (I e))]
 | (.inr e)=>[]
noncomputable def KY (a0:List D) (e:(Int)⊕(Unit)):List (Nat×Blk):=match e with
 | (.inl e)=>[]
 | (.inr e)=>[]
theorem VP {n:Nat} {a0:List D} (sa:(Int×Int)) (r) (h:Wv n a0 sa=some r):Rd cx (Qu cx.P 44 0) 46 0 false (Jt a0) (JC a0) (Jg a0) (KT a0) (KY a0) sa r:=by
 unfold Wv at h
 by_cases ha1:sa.2 < ((a0).length:Int)
 ·replace h:=Ql h ha1
  obtain ⟨ta2,ha2,h⟩:=Qg h
  obtain ⟨ta3,ha3,h⟩:=Qg h
  obtain ⟨ta4,ha4,h⟩:=Qg h
  obtain ⟨ta5,ha5,h⟩:=Qg h
  obtain ⟨ta6,ha6,h⟩:=Qg h
  by_cases ha7:ta6=0
  ·replace h:=Ql h ha7
   obtain ⟨ha8,h⟩:=Qi h
   replace h:=Option.some.inj h
   subst h
   exact ⟨100,18,[.br true,.el (.agg [I ta2.1,I ta2.2.1,I ta2.2.2]),.ret (I ta3),.ret (I ta4),.ret (I ta5),.ret (I ta6),.br false],[],[4,21,22,23],[],Qk (ob:=[Qa (sa.2+1),(ta6 != 0)=false,Computes cx 29 [.lst true 1 [I ta3,I ta4,I ta5]] (I ta6),Computes cx 39 [B (decide (ta2.1≤sa.1)),I 11] (I ta5),Computes cx 42 [.agg [I ta2.2.1,I ta2.2.2],I 2000000] (I ta4),Computes cx 32 [I ta2.1,I (-1000),I 1000] (I ta3),(0:Int)≤sa.2,nth (a0) (Int.toNat sa.2)=some (.agg [I ta2.1,I ta2.2.1,I ta2.2.2]),(decide (sa.2 < ((a0).length:Int)))=true]) (by kernel_rfl) ⟨ha8,(nef ha7),((Qj ha6).le (.cons (.full _ _ _) (.nil)) (.refl _)),(Qq ha5),(Qx ha4),(Qb ha3),(Qs Qp ha2).1,(Qs Qp ha2).2,(decide_eq_true ha1),trivial⟩⟩
  ·replace h:=Qm h ha7
   replace h:=Option.some.inj h
   subst h
   exact ⟨⟨100,18,[.br true,.el (.agg [I ta2.1,I ta2.2.1,I ta2.2.2]),.ret (I ta3),.ret (I ta4),.ret (I ta5),.ret (I ta6),.br true],[],[2],[],Qk (ob:=[(ta6 != 0)=true,Computes cx 29 [.lst true 1 [I ta3,I ta4,I ta5]] (I ta6),Computes cx 39 [B (decide (ta2.1≤sa.1)),I 11] (I ta5),Computes cx 42 [.agg [I ta2.2.1,I ta2.2.2],I 2000000] (I ta4),Computes cx 32 [I ta2.1,I (-1000),I 1000] (I ta3),(0:Int)≤sa.2,nth (a0) (Int.toNat sa.2)=some (.agg [I ta2.1,I ta2.2.1,I ta2.2.2]),(decide (sa.2 < ((a0).length:Int)))=true]) (by kernel_rfl) ⟨(net ha7),((Qj ha6).le (.cons (.full _ _ _) (.nil)) (.refl _)),(Qq ha5),(Qx ha4),(Qb ha3),(Qs Qp ha2).1,(Qs Qp ha2).2,(decide_eq_true ha1),trivial⟩⟩,nofun⟩
 ·replace h:=Qm h ha1
  replace h:=Option.some.inj h
  subst h
  exact ⟨⟨100,18,[.br false],[],[],[],Qk (ob:=[(decide (sa.2 < ((a0).length:Int)))=false]) (by kernel_rfl) ⟨(decide_eq_false ha1),trivial⟩⟩,nofun⟩
def Q0 (n:Nat) (a0:List D):Option (Int) :=
 (QF n (((a0).length:Int) == 0) 12).bind fun t1 =>
 (QF n (decide (((a0).length:Int) > 64)) 5).bind fun t2 =>
 (Qr n ([I t1,I t2])).bind fun t3 =>
 if t3=0 then
  (Q2 (Wv n a0) n ((-1001),0)).bind fun t5=>match t5 with
   | (.inl t5)=>(
    some t5)
   | (.inr t5)=>(
    some 0)
 else
 some t3
theorem QC {n:Nat} {a0:List D} {r:Int} (h:Q0 n a0=some r):Computes cx 44 [.lst false 3 a0] (I r):=by
 unfold Q0 at h
 obtain ⟨t1,h1,h⟩:=Qg h
 obtain ⟨t2,h2,h⟩:=Qg h
 obtain ⟨t3,h3,h⟩:=Qg h
 by_cases h4:t3=0
 ·replace h:=Ql h h4
  obtain ⟨t5,h5,h⟩:=Qg h
  rcases t5 with t5 | t5
  ·replace h:=Option.some.inj h
   subst h
   exact run (n:=100) (f:=44) (args:=[.lst false 3 a0]) (orc:=[.ret (I t1),.ret (I t2),.ret (I t3),.br false,.lp [] [4,21,22,23] [] .ret [(2,.d (I t5))] [] 55]) (r:=I t5) (ob:=[QV cx (Qu cx.P 44 0) 46 0 false [(4,.d (I (-1001))),(21,.d (.lst false 3 a0)),(22,.d (I ((a0).length:Int))),(23,.d (I 0))] [] .ret [(2,.d (I t5))] [],(t3 != 0)=false,Computes cx 29 [.lst true 1 [I t1,I t2]] (I t3),Computes cx 39 [B (decide (((a0).length:Int) > 64)),I 5] (I t2),Computes cx 39 [B (((a0).length:Int) == 0),I 12] (I t1)]) (by kernel_rfl) ⟨(Qv VP h5),(nef h4),((Qj h3).le (.cons (.full _ _ _) (.nil)) (.refl _)),(Qq h2),(Qq h1),trivial⟩
  ·replace h:=Option.some.inj h
   subst h
   exact run (n:=100) (f:=44) (args:=[.lst false 3 a0]) (orc:=[.ret (I t1),.ret (I t2),.ret (I t3),.br false,.lp [] [4,21,22,23] [] (.exit 0) [] [] 55]) (r:=I 0) (ob:=[QV cx (Qu cx.P 44 0) 46 0 false [(4,.d (I (-1001))),(21,.d (.lst false 3 a0)),(22,.d (I ((a0).length:Int))),(23,.d (I 0))] [] (.exit 0) [] [],(t3 != 0)=false,Computes cx 29 [.lst true 1 [I t1,I t2]] (I t3),Computes cx 39 [B (decide (((a0).length:Int) > 64)),I 5] (I t2),Computes cx 39 [B (((a0).length:Int) == 0),I 12] (I t1)]) (by kernel_rfl) ⟨(Qv VP h5),(nef h4),((Qj h3).le (.cons (.full _ _ _) (.nil)) (.refl _)),(Qq h2),(Qq h1),trivial⟩
 ·replace h:=Qm h h4
  replace h:=Option.some.inj h
  subst h
  exact run (n:=100) (f:=44) (args:=[.lst false 3 a0]) (orc:=[.ret (I t1),.ret (I t2),.ret (I t3),.br true]) (r:=I t3) (ob:=[(t3 != 0)=true,Computes cx 29 [.lst true 1 [I t1,I t2]] (I t3),Computes cx 39 [B (decide (((a0).length:Int) > 64)),I 5] (I t2),Computes cx 39 [B (((a0).length:Int) == 0),I 12] (I t1)]) (by kernel_rfl) ⟨(net h4),((Qj h3).le (.cons (.full _ _ _) (.nil)) (.refl _)),(Qq h2),(Qq h1),trivial⟩
def Vj (n:Nat) (a0:List D) (a1 a2 a3:Int) (sa:(Int×List D)):Option (((Int×List D))⊕((List D))) :=
 if sa.1 < ((a0).length:Int) then
  (el Wd a0 sa.1).bind fun ta2 =>
  (Z4 n ta2.1 ta2.2.1 ta2.2.2 a1 a2 a3).bind fun ta3 =>
  if ta3.2.2.2=true then
   if ZZ 24 ((sa.2).length+1) then
   if Qa (sa.1+1) then
   some (.inl ((sa.1+1),(sa.2++([.agg [I ta3.1,I ta3.2.1,I ta3.2.2.1]]:List D))))
   else none
   else none
  else
  if Qa (sa.1+1) then
  some (.inl ((sa.1+1),sa.2))
  else none
 else
 some (.inr sa.2)
noncomputable def XN (a0:List D) (a1 a2 a3:Int) (sa:(Int×List D)):List (Nat×AV):=[(3,.ptr 0 0 0 0 0),(7,.own 16 0),(21,.d (.lst false 3 a0)),(22,.d (I ((a0).length:Int))),(23,.d (I sa.1))]
noncomputable def XQ (a0:List D) (a1 a2 a3:Int) (sa:(Int×List D)):List (Nat×Blk):=[(0,.box (.d (.agg [I a1,I a2,I a3]))),(16,.row 0 3 sa.2)]
noncomputable def XI (a0:List D) (a1 a2 a3:Int) (e:(List D)):Ex:=(.exit 0)
noncomputable def GF (a0:List D) (a1 a2 a3:Int) (e:(List D)):List (Nat×AV):=[(7,.own 16 0)]
noncomputable def GI (a0:List D) (a1 a2 a3:Int) (e:(List D)):List (Nat×Blk):=[(16,.row 0 3 e)]
theorem Up {n:Nat} {a0:List D} {a1 a2 a3:Int} (sa:(Int×List D)) (r) (h:Vj n a0 a1 a2 a3 sa=some r):Rd cx (Qu cx.P 15 0) 43 0 false (XN a0 a1 a2 a3) (XQ a0 a1 a2 a3) (XI a0 a1 a2 a3) (GF a0 a1 a2 a3) (GI a0 a1 a2 a3) sa r:=by
 unfold Vj at h
 by_cases ha1:sa.1 < ((a0).length:Int)
 ·replace h:=Ql h ha1
  obtain ⟨ta2,ha2,h⟩:=Qg h
  obtain ⟨ta3,ha3,h⟩:=Qg h
  by_cases ha4:ta3.2.2.2=true
  ·replace h:=Ql h ha4
   obtain ⟨ha5,h⟩:=Qi h
   obtain ⟨ha6,h⟩:=Qi h
   replace h:=Option.some.inj h
   subst h
   exact ⟨100,17,[.br true,.el (.agg [I ta2.1,I ta2.2.1,I ta2.2.2]),.ret (.tup [.agg [I ta3.1,I ta3.2.1,I ta3.2.2.1],B ta3.2.2.2]),.br true,.br true],[],[3,7,21,22,23],[0,16],Qk (ob:=[Qa (sa.1+1),room cx 96 ((sa.2).length+1),ta3.2.2.2=true,Computes cx 43 [.agg [I ta2.1,I ta2.2.1,I ta2.2.2],.agg [I a1,I a2,I a3]] (.tup [.agg [I ta3.1,I ta3.2.1,I ta3.2.2.1],B ta3.2.2.2]),(0:Int)≤sa.1,nth (a0) (Int.toNat sa.1)=some (.agg [I ta2.1,I ta2.2.1,I ta2.2.2]),(decide (sa.1 < ((a0).length:Int)))=true]) (by kernel_rfl) ⟨ha6,(Zp (b:=24) (by kernel_rfl) (by decide) ha5),ha4,(Z0 ha3),(Qs Qp ha2).1,(Qs Qp ha2).2,(decide_eq_true ha1),trivial⟩⟩
  ·replace h:=Qm h ha4
   obtain ⟨ha5,h⟩:=Qi h
   replace h:=Option.some.inj h
   subst h
   exact ⟨100,17,[.br true,.el (.agg [I ta2.1,I ta2.2.1,I ta2.2.2]),.ret (.tup [.agg [I ta3.1,I ta3.2.1,I ta3.2.2.1],B ta3.2.2.2]),.br false],[],[3,7,21,22,23],[0,16],Qk (ob:=[Qa (sa.1+1),ta3.2.2.2=false,Computes cx 43 [.agg [I ta2.1,I ta2.2.1,I ta2.2.2],.agg [I a1,I a2,I a3]] (.tup [.agg [I ta3.1,I ta3.2.1,I ta3.2.2.1],B ta3.2.2.2]),(0:Int)≤sa.1,nth (a0) (Int.toNat sa.1)=some (.agg [I ta2.1,I ta2.2.1,I ta2.2.2]),(decide (sa.1 < ((a0).length:Int)))=true]) (by kernel_rfl) ⟨ha5,(QI ha4),(Z0 ha3),(Qs Qp ha2).1,(Qs Qp ha2).2,(decide_eq_true ha1),trivial⟩⟩
 ·replace h:=Qm h ha1
  replace h:=Option.some.inj h
  subst h
  exact ⟨⟨100,17,[.br false],[],[7],[16],Qk (ob:=[(decide (sa.1 < ((a0).length:Int)))=false]) (by kernel_rfl) ⟨(decide_eq_false ha1),trivial⟩⟩,nofun⟩
def YA (n:Nat) (a0:List D) (a1 a2 a3:Int):Option (List D×Int) :=
 (Q0 n a0).bind fun t1 =>
 (ZW n a1 a2 a3).bind fun t2 =>
 (Qr n ([I t1,I t2])).bind fun t3 =>
 if t3=0 then
  (Q2 (Vj n a0 a1 a2 a3) n (0,[])).bind fun t5 =>
  if ((t5).length:Int)=0 then
   some ([],18)
  else
  some (t5,0)
 else
 some ([],t3)
theorem zn {n:Nat} {a0:List D} {a1 a2 a3:Int} {r:List D×Int} (h:YA n a0 a1 a2 a3=some r):Computes cx 15 [.lst false 3 a0,.agg [I a1,I a2,I a3]] (.tup [.lst false 3 r.1,I r.2]):=by
 unfold YA at h
 obtain ⟨t1,h1,h⟩:=Qg h
 obtain ⟨t2,h2,h⟩:=Qg h
 obtain ⟨t3,h3,h⟩:=Qg h
 by_cases h4:t3=0
 ·replace h:=Ql h h4
  obtain ⟨t5,h5,h⟩:=Qg h
  by_cases h6:((t5).length:Int)=0
  ·replace h:=Ql h h6
   replace h:=Option.some.inj h
   subst h
   exact (run (n:=100) (f:=15) (args:=[.lst false 3 a0,.agg [I a1,I a2,I a3]]) (orc:=[.ret (I t1),.ret (I t2),.ret (I t3),.br false,.lp [7,3] [3,7,21,22,23] [0,16] (.exit 0) [(7,.own 16 0)] [(16,.row 0 3 t5)] 50,.br true]) (r:=.tup [.lst true 0 [],I 18]) (ob:=[(((t5).length:Int) == 0)=true,QV cx (Qu cx.P 15 0) 43 0 false [(3,.ptr 0 0 0 0 0),(7,.own 16 0),(21,.d (.lst false 3 a0)),(22,.d (I ((a0).length:Int))),(23,.d (I 0))] [(0,.box (.d (.agg [I a1,I a2,I a3]))),(16,.row 0 3 [])] (.exit 0) [(7,.own 16 0)] [(16,.row 0 3 t5)],(t3 != 0)=false,Computes cx 29 [.lst true 1 [I t1,I t2]] (I t3),Computes cx 45 [.agg [I a1,I a2,I a3]] (I t2),Computes cx 44 [.lst false 3 a0] (I t1)]) (by kernel_rfl) ⟨(eqt h6),(Qv Up h5),(nef h4),((Qj h3).le (.cons (.full _ _ _) (.nil)) (.refl _)),(ZT h2),(QC h1),trivial⟩).le (LEs.refl _) (.tups (.cons (.nilF) (.cons (.refl _) (.nil))))
  ·replace h:=Qm h h6
   replace h:=Option.some.inj h
   subst h
   exact run (n:=100) (f:=15) (args:=[.lst false 3 a0,.agg [I a1,I a2,I a3]]) (orc:=[.ret (I t1),.ret (I t2),.ret (I t3),.br false,.lp [7,3] [3,7,21,22,23] [0,16] (.exit 0) [(7,.own 16 0)] [(16,.row 0 3 t5)] 50,.br false]) (r:=.tup [.lst false 3 t5,I 0]) (ob:=[(((t5).length:Int) == 0)=false,QV cx (Qu cx.P 15 0) 43 0 false [(3,.ptr 0 0 0 0 0),(7,.own 16 0),(21,.d (.lst false 3 a0)),(22,.d (I ((a0).length:Int))),(23,.d (I 0))] [(0,.box (.d (.agg [I a1,I a2,I a3]))),(16,.row 0 3 [])] (.exit 0) [(7,.own 16 0)] [(16,.row 0 3 t5)],(t3 != 0)=false,Computes cx 29 [.lst true 1 [I t1,I t2]] (I t3),Computes cx 45 [.agg [I a1,I a2,I a3]] (I t2),Computes cx 44 [.lst false 3 a0] (I t1)]) (by kernel_rfl) ⟨(eqf h6),(Qv Up h5),(nef h4),((Qj h3).le (.cons (.full _ _ _) (.nil)) (.refl _)),(ZT h2),(QC h1),trivial⟩
 ·replace h:=Qm h h4
  replace h:=Option.some.inj h
  subst h
  exact (run (n:=100) (f:=15) (args:=[.lst false 3 a0,.agg [I a1,I a2,I a3]]) (orc:=[.ret (I t1),.ret (I t2),.ret (I t3),.br true]) (r:=.tup [.lst true 0 [],I t3]) (ob:=[(t3 != 0)=true,Computes cx 29 [.lst true 1 [I t1,I t2]] (I t3),Computes cx 45 [.agg [I a1,I a2,I a3]] (I t2),Computes cx 44 [.lst false 3 a0] (I t1)]) (by kernel_rfl) ⟨(net h4),((Qj h3).le (.cons (.full _ _ _) (.nil)) (.refl _)),(ZT h2),(QC h1),trivial⟩).le (LEs.refl _) (.tups (.cons (.nilF) (.cons (.refl _) (.nil))))
def Vl (n:Nat) (a0:List D) (a1 a2:Int) (sa:(Int×List D)):Option (((Int×List D))⊕((Unit)⊕(List D))) :=
 if sa.1 < (((a0.take ((List.replicate (Int.toNat ((a0).length:Int)) (.agg [I 0,I 0,I 0]:D)):List D).length++(List.replicate (Int.toNat ((a0).length:Int)) (.agg [I 0,I 0,I 0]:D)).drop (a0).length)).length:Int) then
  if 0≤sa.1∧sa.1 < ((sa.2).length:Int) then
  ((nth (sa.2) (Int.toNat sa.1)).bind Wd).bind fun ta3 =>
  if Qa (ta3.2.1+a1) then
  if Qa (ta3.2.2+a2) then
  if 0≤sa.1∧sa.1 < (((List.set sa.2 (Int.toNat sa.1) (.agg [I ta3.1,I (ta3.2.1+a1),I (ta3.2.2+a2)]:D)):List D).length:Int) then
  ((nth ((List.set sa.2 (Int.toNat sa.1) (.agg [I ta3.1,I (ta3.2.1+a1),I (ta3.2.2+a2)]:D)):List D) (Int.toNat sa.1)).bind Wd).bind fun ta7 =>
  (QN n ta7.2.1 ta7.2.2 2000000).bind fun ta8 =>
  if ta8=0 then
   if Qa (sa.1+1) then
   some (.inl ((sa.1+1),(List.set sa.2 (Int.toNat sa.1) (.agg [I ta3.1,I (ta3.2.1+a1),I (ta3.2.2+a2)]:D))))
   else none
  else
  some (.inr (.inl ()))
  else none
  else none
  else none
  else none
 else
 some (.inr (.inr sa.2))
noncomputable def XO (a0:List D) (a1 a2:Int) (sa:(Int×List D)):List (Nat×AV):=[(3,.ptr 0 0 0 0 0),(7,.own 14 0),(26,.d (I (((a0.take ((List.replicate (Int.toNat ((a0).length:Int)) (.agg [I 0,I 0,I 0]:D)):List D).length++(List.replicate (Int.toNat ((a0).length:Int)) (.agg [I 0,I 0,I 0]:D)).drop (a0).length)).length:Int))),(27,.d (I sa.1))]
noncomputable def XR (a0:List D) (a1 a2:Int) (sa:(Int×List D)):List (Nat×Blk):=[(0,.box (.d (.agg [I a1,I a2]))),(14,.row 0 3 sa.2)]
noncomputable def XJ (a0:List D) (a1 a2:Int) (e:(Unit)⊕(List D)):Ex:=match e with
 | (.inl e)=>.ret
 | (.inr e)=>(.exit 0)
noncomputable def GG (a0:List D) (a1 a2:Int) (e:(Unit)⊕(List D)):List (Nat×AV):=match e with
 | (.inl e)=>[(4,.d (.lst true 0 [])),(5,.d (I 4))]
 | (.inr e)=>[(7,.own 14 0)]
noncomputable def GJ (a0:List D) (a1 a2:Int) (e:(Unit)⊕(List D)):List (Nat×Blk):=match e with
 | (.inl e)=>[]
 | (.inr e)=>[(14,.row 0 3 e)]
theorem Uq {n:Nat} {a0:List D} {a1 a2:Int} (sa:(Int×List D)) (r) (h:Vl n a0 a1 a2 sa=some r):Rd cx (Qu cx.P 17 0) 59 0 false (XO a0 a1 a2) (XR a0 a1 a2) (XJ a0 a1 a2) (GG a0 a1 a2) (GJ a0 a1 a2) sa r:=by
 unfold Vl at h
 by_cases ha1:sa.1 < (((a0.take ((List.replicate (Int.toNat ((a0).length:Int)) (.agg [I 0,I 0,I 0]:D)):List D).length++(List.replicate (Int.toNat ((a0).length:Int)) (.agg [I 0,I 0,I 0]:D)).drop (a0).length)).length:Int)
 ·replace h:=Ql h ha1
  obtain ⟨ha2,h⟩:=Qi h
  obtain ⟨ta3,ha3,h⟩:=Qg h
  obtain ⟨ha4,h⟩:=Qi h
  obtain ⟨ha5,h⟩:=Qi h
  obtain ⟨ha6,h⟩:=Qi h
  obtain ⟨ta7,ha7,h⟩:=Qg h
  obtain ⟨ta8,ha8,h⟩:=Qg h
  by_cases ha9:ta8=0
  ·replace h:=Ql h ha9
   obtain ⟨ha10,h⟩:=Qi h
   replace h:=Option.some.inj h
   subst h
   exact ⟨100,22,[.br true,.br true,.el (.agg [I ta3.1,I ta3.2.1,I ta3.2.2]),.br true,.el (.agg [I ta3.1,I ta3.2.1,I ta3.2.2]),.br true,.el (.agg [I ta7.1,I ta7.2.1,I ta7.2.2]),.ret (I ta8),.br false],[],[3,7,26,27],[0,14],Qk (ob:=[Qa (sa.1+1),(ta8 != 0)=false,Computes cx 42 [.agg [I ta7.2.1,I ta7.2.2],I 2000000] (I ta8),nth ((List.set sa.2 (Int.toNat sa.1) (.agg [I ta3.1,I (ta3.2.1+a1),I (ta3.2.2+a2)]:D)):List D) (Int.toNat sa.1)=some (.agg [I ta7.1,I ta7.2.1,I ta7.2.2]),0≤sa.1∧sa.1 < (((List.set sa.2 (Int.toNat sa.1) (.agg [I ta3.1,I (ta3.2.1+a1),I (ta3.2.2+a2)]:D)):List D).length:Int),nth (sa.2) (Int.toNat sa.1)=some (.agg [I ta3.1,I ta3.2.1,I ta3.2.2]),0≤sa.1∧sa.1 < ((sa.2).length:Int),Qa (ta3.2.2+a2),Qa (ta3.2.1+a1),nth (sa.2) (Int.toNat sa.1)=some (.agg [I ta3.1,I ta3.2.1,I ta3.2.2]),0≤sa.1∧sa.1 < ((sa.2).length:Int),(decide (sa.1 < (((a0.take ((List.replicate (Int.toNat ((a0).length:Int)) (.agg [I 0,I 0,I 0]:D)):List D).length++(List.replicate (Int.toNat ((a0).length:Int)) (.agg [I 0,I 0,I 0]:D)).drop (a0).length)).length:Int)))=true]) (by kernel_rfl) ⟨ha10,(nef ha9),(Qx ha8),UR Qp ha7,ha6,UR Qp ha3,ha2,ha5,ha4,UR Qp ha3,ha2,(decide_eq_true ha1),trivial⟩⟩
  ·replace h:=Qm h ha9
   replace h:=Option.some.inj h
   subst h
   exact ⟨⟨100,22,[.br true,.br true,.el (.agg [I ta3.1,I ta3.2.1,I ta3.2.2]),.br true,.el (.agg [I ta3.1,I ta3.2.1,I ta3.2.2]),.br true,.el (.agg [I ta7.1,I ta7.2.1,I ta7.2.2]),.ret (I ta8),.br true],[],[4,5],[],Qk (ob:=[(ta8 != 0)=true,Computes cx 42 [.agg [I ta7.2.1,I ta7.2.2],I 2000000] (I ta8),nth ((List.set sa.2 (Int.toNat sa.1) (.agg [I ta3.1,I (ta3.2.1+a1),I (ta3.2.2+a2)]:D)):List D) (Int.toNat sa.1)=some (.agg [I ta7.1,I ta7.2.1,I ta7.2.2]),0≤sa.1∧sa.1 < (((List.set sa.2 (Int.toNat sa.1) (.agg [I ta3.1,I (ta3.2.1+a1),I (ta3.2.2+a2)]:D)):List D).length:Int),nth (sa.2) (Int.toNat sa.1)=some (.agg [I ta3.1,I ta3.2.1,I ta3.2.2]),0≤sa.1∧sa.1 < ((sa.2).length:Int),Qa (ta3.2.2+a2),Qa (ta3.2.1+a1),nth (sa.2) (Int.toNat sa.1)=some (.agg [I ta3.1,I ta3.2.1,I ta3.2.2]),0≤sa.1∧sa.1 < ((sa.2).length:Int),(decide (sa.1 < (((a0.take ((List.replicate (Int.toNat ((a0).length:Int)) (.agg [I 0,I 0,I 0]:D)):List D).length++(List.replicate (Int.toNat ((a0).length:Int)) (.agg [I 0,I 0,I 0]:D)).drop (a0).length)).length:Int)))=true]) (by kernel_rfl) ⟨(net ha9),(Qx ha8),UR Qp ha7,ha6,UR Qp ha3,ha2,ha5,ha4,UR Qp ha3,ha2,(decide_eq_true ha1),trivial⟩⟩,nofun⟩
 ·replace h:=Qm h ha1
  replace h:=Option.some.inj h
  subst h
  exact ⟨⟨100,22,[.br false],[],[7],[14],Qk (ob:=[(decide (sa.1 < (((a0.take ((List.replicate (Int.toNat ((a0).length:Int)) (.agg [I 0,I 0,I 0]:D)):List D).length++(List.replicate (Int.toNat ((a0).length:Int)) (.agg [I 0,I 0,I 0]:D)).drop (a0).length)).length:Int)))=false]) (by kernel_rfl) ⟨(decide_eq_false ha1),trivial⟩⟩,nofun⟩
def YB (n:Nat) (a0:List D) (a1 a2:Int):Option (List D×Int) :=
 (Q0 n a0).bind fun t1 =>
 (QN n a1 a2 1000000).bind fun t2 =>
 (Qr n ([I t1,I t2])).bind fun t3 =>
 if t3=0 then
  if 0≤((a0).length:Int)∧((a0).length:Int)≤((a0).length:Int)∧24 * ((a0).length:Int)≤281474976710656∧((a0).length:Int)≤9223372036854775807 then
  (Q2 (Vl n a0 a1 a2) n (0,(a0.take ((List.replicate (Int.toNat ((a0).length:Int)) (.agg [I 0,I 0,I 0]:D)):List D).length++(List.replicate (Int.toNat ((a0).length:Int)) (.agg [I 0,I 0,I 0]:D)).drop (a0).length))).bind fun t6=>match t6 with
   | (.inl t6)=>(
    some ([],4))
   | (.inr t6)=>(
    some (t6,0))
  else none
 else
 some ([],t3)
theorem zo {n:Nat} {a0:List D} {a1 a2:Int} {r:List D×Int} (h:YB n a0 a1 a2=some r):Computes cx 17 [.lst false 3 a0,.agg [I a1,I a2]] (.tup [.lst false 3 r.1,I r.2]):=by
 unfold YB at h
 obtain ⟨t1,h1,h⟩:=Qg h
 obtain ⟨t2,h2,h⟩:=Qg h
 obtain ⟨t3,h3,h⟩:=Qg h
 by_cases h4:t3=0
 ·replace h:=Ql h h4
  obtain ⟨h5,h⟩:=Qi h
  obtain ⟨t6,h6,h⟩:=Qg h
  rcases t6 with t6 | t6
  ·replace h:=Option.some.inj h
   subst h
   exact (run (n:=100) (f:=17) (args:=[.lst false 3 a0,.agg [I a1,I a2]]) (orc:=[.ret (I t1),.ret (I t2),.ret (I t3),.br false,.br true,.lp [] [3,7,26,27] [0,14] .ret [(4,.d (.lst true 0 [])),(5,.d (I 4))] [] 68]) (r:=.tup [.lst true 0 [],I 4]) (ob:=[QV cx (Qu cx.P 17 0) 59 0 false [(3,.ptr 0 0 0 0 0),(7,.own 14 0),(26,.d (I (((a0.take ((List.replicate (Int.toNat ((a0).length:Int)) (.agg [I 0,I 0,I 0]:D)):List D).length++(List.replicate (Int.toNat ((a0).length:Int)) (.agg [I 0,I 0,I 0]:D)).drop (a0).length)).length:Int))),(27,.d (I 0))] [(0,.box (.d (.agg [I a1,I a2]))),(14,.row 0 3 (a0.take ((List.replicate (Int.toNat ((a0).length:Int)) (.agg [I 0,I 0,I 0]:D)):List D).length++(List.replicate (Int.toNat ((a0).length:Int)) (.agg [I 0,I 0,I 0]:D)).drop (a0).length))] .ret [(4,.d (.lst true 0 [])),(5,.d (I 4))] [],0≤((a0).length:Int)∧((a0).length:Int)≤((a0).length:Int)∧24 * ((a0).length:Int)≤281474976710656∧((a0).length:Int)≤9223372036854775807,(t3 != 0)=false,Computes cx 29 [.lst true 1 [I t1,I t2]] (I t3),Computes cx 42 [.agg [I a1,I a2],I 1000000] (I t2),Computes cx 44 [.lst false 3 a0] (I t1)]) (by kernel_rfl) ⟨(Qv Uq h6),h5,(nef h4),((Qj h3).le (.cons (.full _ _ _) (.nil)) (.refl _)),(Qx h2),(QC h1),trivial⟩).le (LEs.refl _) (.tups (.cons (.nilF) (.cons (.refl _) (.nil))))
  ·replace h:=Option.some.inj h
   subst h
   exact run (n:=100) (f:=17) (args:=[.lst false 3 a0,.agg [I a1,I a2]]) (orc:=[.ret (I t1),.ret (I t2),.ret (I t3),.br false,.br true,.lp [] [3,7,26,27] [0,14] (.exit 0) [(7,.own 14 0)] [(14,.row 0 3 t6)] 68]) (r:=.tup [.lst false 3 t6,I 0]) (ob:=[QV cx (Qu cx.P 17 0) 59 0 false [(3,.ptr 0 0 0 0 0),(7,.own 14 0),(26,.d (I (((a0.take ((List.replicate (Int.toNat ((a0).length:Int)) (.agg [I 0,I 0,I 0]:D)):List D).length++(List.replicate (Int.toNat ((a0).length:Int)) (.agg [I 0,I 0,I 0]:D)).drop (a0).length)).length:Int))),(27,.d (I 0))] [(0,.box (.d (.agg [I a1,I a2]))),(14,.row 0 3 (a0.take ((List.replicate (Int.toNat ((a0).length:Int)) (.agg [I 0,I 0,I 0]:D)):List D).length++(List.replicate (Int.toNat ((a0).length:Int)) (.agg [I 0,I 0,I 0]:D)).drop (a0).length))] (.exit 0) [(7,.own 14 0)] [(14,.row 0 3 t6)],0≤((a0).length:Int)∧((a0).length:Int)≤((a0).length:Int)∧24 * ((a0).length:Int)≤281474976710656∧((a0).length:Int)≤9223372036854775807,(t3 != 0)=false,Computes cx 29 [.lst true 1 [I t1,I t2]] (I t3),Computes cx 42 [.agg [I a1,I a2],I 1000000] (I t2),Computes cx 44 [.lst false 3 a0] (I t1)]) (by kernel_rfl) ⟨(Qv Uq h6),h5,(nef h4),((Qj h3).le (.cons (.full _ _ _) (.nil)) (.refl _)),(Qx h2),(QC h1),trivial⟩
 ·replace h:=Qm h h4
  replace h:=Option.some.inj h
  subst h
  exact (run (n:=100) (f:=17) (args:=[.lst false 3 a0,.agg [I a1,I a2]]) (orc:=[.ret (I t1),.ret (I t2),.ret (I t3),.br true]) (r:=.tup [.lst true 0 [],I t3]) (ob:=[(t3 != 0)=true,Computes cx 29 [.lst true 1 [I t1,I t2]] (I t3),Computes cx 42 [.agg [I a1,I a2],I 1000000] (I t2),Computes cx 44 [.lst false 3 a0] (I t1)]) (by kernel_rfl) ⟨(net h4),((Qj h3).le (.cons (.full _ _ _) (.nil)) (.refl _)),(Qx h2),(QC h1),trivial⟩).le (LEs.refl _) (.tups (.cons (.nilF) (.cons (.refl _) (.nil))))
def V2 (n:Nat) (a0:List D) (sa:(Int×Int)):Option (((Int×Int))⊕((Int))) :=
 if sa.2 < ((a0).length:Int) then
  (el Wd a0 sa.2).bind fun ta2 =>
  if Qa (ta2.2.2 - ta2.2.1) then
  if Qa ((ta2.2.2 - ta2.2.1)+1) then
  if Qa (sa.1+((ta2.2.2 - ta2.2.1)+1)) then
  if Qa (sa.2+1) then
  some (.inl ((sa.1+((ta2.2.2 - ta2.2.1)+1)),(sa.2+1)))
  else none
  else none
  else none
  else none
 else
 some (.inr sa.1)
noncomputable def qC (a0:List D) (sa:(Int×Int)):List (Nat×AV):=[(5,.d (I sa.1)),(13,.d (.lst false 3 a0)),(14,.d (I ((a0).length:Int))),(15,.d (I sa.2))]
noncomputable def qK (a0:List D) (sa:(Int×Int)):List (Nat×Blk):=[]
noncomputable def qw (a0:List D) (e:(Int)):Ex:=(.exit 0)
noncomputable def EL (a0:List D) (e:(Int)):List (Nat×AV):=[(5,.d (I e))]
noncomputable def ER (a0:List D) (e:(Int)):List (Nat×Blk):=[]
theorem qF {n:Nat} {a0:List D} (sa:(Int×Int)) (r) (h:V2 n a0 sa=some r):Rd cx (Qu cx.P 18 0) 31 0 false (qC a0) (qK a0) (qw a0) (EL a0) (ER a0) sa r:=by
 unfold V2 at h
 by_cases ha1:sa.2 < ((a0).length:Int)
 ·replace h:=Ql h ha1
  obtain ⟨ta2,ha2,h⟩:=Qg h
  obtain ⟨ha3,h⟩:=Qi h
  obtain ⟨ha4,h⟩:=Qi h
  obtain ⟨ha5,h⟩:=Qi h
  obtain ⟨ha6,h⟩:=Qi h
  replace h:=Option.some.inj h
  subst h
  exact ⟨100,11,[.br true,.el (.agg [I ta2.1,I ta2.2.1,I ta2.2.2])],[],[5,13,14,15],[],Qk (ob:=[Qa (sa.2+1),Qa (sa.1+((ta2.2.2 - ta2.2.1)+1)),Qa ((ta2.2.2 - ta2.2.1)+1),Qa (ta2.2.2 - ta2.2.1),(0:Int)≤sa.2,nth (a0) (Int.toNat sa.2)=some (.agg [I ta2.1,I ta2.2.1,I ta2.2.2]),(decide (sa.2 < ((a0).length:Int)))=true]) (by kernel_rfl) ⟨ha6,ha5,ha4,ha3,(Qs Qp ha2).1,(Qs Qp ha2).2,(decide_eq_true ha1),trivial⟩⟩
 ·replace h:=Qm h ha1
  replace h:=Option.some.inj h
  subst h
  exact ⟨⟨100,11,[.br false],[],[5],[],Qk (ob:=[(decide (sa.2 < ((a0).length:Int)))=false]) (by kernel_rfl) ⟨(decide_eq_false ha1),trivial⟩⟩,nofun⟩
def U3 (n:Nat) (a0:List D):Option (Int×Int) :=
 (Q0 n a0).bind fun t1 =>
 if t1=0 then
  (Q2 (V2 n a0) n (0,0)).bind fun t3 =>
  some (t3,0)
 else
 some (0,t1)
theorem wK {n:Nat} {a0:List D} {r:Int×Int} (h:U3 n a0=some r):Computes cx 18 [.lst false 3 a0] (.tup [I r.1,I r.2]):=by
 unfold U3 at h
 obtain ⟨t1,h1,h⟩:=Qg h
 by_cases h2:t1=0
 ·replace h:=Ql h h2
  obtain ⟨t3,h3,h⟩:=Qg h
  replace h:=Option.some.inj h
  subst h
  exact run (n:=100) (f:=18) (args:=[.lst false 3 a0]) (orc:=[.ret (I t1),.br false,.lp [] [5,13,14,15] [] (.exit 0) [(5,.d (I t3))] [] 40]) (r:=.tup [I t3,I 0]) (ob:=[QV cx (Qu cx.P 18 0) 31 0 false [(5,.d (I 0)),(13,.d (.lst false 3 a0)),(14,.d (I ((a0).length:Int))),(15,.d (I 0))] [] (.exit 0) [(5,.d (I t3))] [],(t1 != 0)=false,Computes cx 44 [.lst false 3 a0] (I t1)]) (by kernel_rfl) ⟨(Qv qF h3),(nef h2),(QC h1),trivial⟩
 ·replace h:=Qm h h2
  replace h:=Option.some.inj h
  subst h
  exact run (n:=100) (f:=18) (args:=[.lst false 3 a0]) (orc:=[.ret (I t1),.br true]) (r:=.tup [I 0,I t1]) (ob:=[(t1 != 0)=true,Computes cx 44 [.lst false 3 a0] (I t1)]) (by kernel_rfl) ⟨(net h2),(QC h1),trivial⟩
def ZH (n:Nat) (a0 a1 a2 a3:Int):Option (Int) :=
 if Qa (a2 * a0) then
 if Qa (a3 * a1) then
 if Qa ((a2 * a0)+(a3 * a1)) then
 some ((a2 * a0)+(a3 * a1))
 else none
 else none
 else none
theorem Zh {n:Nat} {a0 a1 a2 a3:Int} {r:Int} (h:ZH n a0 a1 a2 a3=some r):Computes cx 67 [.agg [I a0,I a1],.agg [I a2,I a3]] (I r):=by
 unfold ZH at h
 obtain ⟨h1,h⟩:=Qi h
 obtain ⟨h2,h⟩:=Qi h
 obtain ⟨h3,h⟩:=Qi h
 replace h:=Option.some.inj h
 subst h
 exact run (n:=100) (f:=67) (args:=[.agg [I a0,I a1],.agg [I a2,I a3]]) (orc:=[]) (r:=I ((a2 * a0)+(a3 * a1))) (ob:=[Qa ((a2 * a0)+(a3 * a1)),Qa (a3 * a1),Qa (a2 * a0)]) (by kernel_rfl) ⟨h3,h2,h1,trivial⟩
def W0 (n:Nat) (a0:List D) (sa:(Int×Int)):Option (((Int×Int))⊕((Int))) :=
 if sa.2 < ((a0).length:Int) then
  (el XV a0 sa.2).bind fun ta2 =>
  if Qa (sa.2+1) then
  some (.inl ((Yw sa.1 ta2),(sa.2+1)))
  else none
 else
 some (.inr sa.1)
noncomputable def GK (a0:List D) (sa:(Int×Int)):List (Nat×AV):=[(0,.d (.lst false 1 a0)),(3,.d (I sa.1)),(4,.d (I sa.2))]
noncomputable def GR (a0:List D) (sa:(Int×Int)):List (Nat×Blk):=[]
noncomputable def Gz (a0:List D) (e:(Int)):Ex:=(.exit 0)
noncomputable def J2 (a0:List D) (e:(Int)):List (Nat×AV):=[(3,.d (I e))]
noncomputable def J7 (a0:List D) (e:(Int)):List (Nat×Blk):=[]
theorem GP {n:Nat} {a0:List D} (sa:(Int×Int)) (r) (h:W0 n a0 sa=some r):Rd cx (Qu cx.P 68 0) 25 0 false (GK a0) (GR a0) (Gz a0) (J2 a0) (J7 a0) sa r:=by
 unfold W0 at h
 by_cases ha1:sa.2 < ((a0).length:Int)
 ·replace h:=Ql h ha1
  obtain ⟨ta2,ha2,h⟩:=Qg h
  obtain ⟨ha3,h⟩:=Qi h
  replace h:=Option.some.inj h
  subst h
  exact ⟨100,9,[.br true,.el (I ta2)],[],[0,3,4],[],Qk (ob:=[Qa (sa.2+1),(0:Int)≤sa.2,nth (a0) (Int.toNat sa.2)=some (I ta2),(decide (sa.2 < ((a0).length:Int)))=true]) (by kernel_rfl) ⟨ha3,(Qs QG ha2).1,(Qs QG ha2).2,(decide_eq_true ha1),trivial⟩⟩
 ·replace h:=Qm h ha1
  replace h:=Option.some.inj h
  subst h
  exact ⟨⟨100,9,[.br false],[],[3],[],Qk (ob:=[(decide (sa.2 < ((a0).length:Int)))=false]) (by kernel_rfl) ⟨(decide_eq_false ha1),trivial⟩⟩,nofun⟩
def WS (n:Nat) (a0:List D):Option (Int) :=
 if ((a0).length:Int) < 1 then
  none
 else
 (el XV a0 0).bind fun t2 =>
 (Q2 (W0 n a0) n (t2,1)).bind fun t3 =>
 some t3
theorem Kc {n:Nat} {a0:List D} {r:Int} (h:WS n a0=some r):Computes cx 68 [.lst false 1 a0] (I r):=by
 unfold WS at h
 by_cases h1:((a0).length:Int) < 1
 ·replace h:=Ql h h1
  cases h
 ·replace h:=Qm h h1
  obtain ⟨t2,h2,h⟩:=Qg h
  obtain ⟨t3,h3,h⟩:=Qg h
  replace h:=Option.some.inj h
  subst h
  exact run (n:=100) (f:=68) (args:=[.lst false 1 a0]) (orc:=[.br false,.el (I t2),.lp [] [0,3,4] [] (.exit 0) [(3,.d (I t3))] [] 34]) (r:=I t3) (ob:=[QV cx (Qu cx.P 68 0) 25 0 false [(0,.d (.lst false 1 a0)),(3,.d (I t2)),(4,.d (I 1))] [] (.exit 0) [(3,.d (I t3))] [],(0:Int)≤0,nth (a0) (Int.toNat 0)=some (I t2),(decide (((a0).length:Int) < 1))=false]) (by kernel_rfl) ⟨(Qv GP h3),(Qs QG h2).1,(Qs QG h2).2,(decide_eq_false h1),trivial⟩
def W1 (n:Nat) (a0:List D) (sa:(Int×Int)):Option (((Int×Int))⊕((Int))) :=
 if sa.2 < ((a0).length:Int) then
  (el XV a0 sa.2).bind fun ta2 =>
  if Qa (sa.2+1) then
  some (.inl ((VU sa.1 ta2),(sa.2+1)))
  else none
 else
 some (.inr sa.1)
noncomputable def GL (a0:List D) (sa:(Int×Int)):List (Nat×AV):=[(0,.d (.lst false 1 a0)),(3,.d (I sa.1)),(4,.d (I sa.2))]
noncomputable def GS (a0:List D) (sa:(Int×Int)):List (Nat×Blk):=[]
noncomputable def GA (a0:List D) (e:(Int)):Ex:=(.exit 0)
noncomputable def J3 (a0:List D) (e:(Int)):List (Nat×AV):=[(3,.d (I e))]
noncomputable def J8 (a0:List D) (e:(Int)):List (Nat×Blk):=[]
theorem GQ {n:Nat} {a0:List D} (sa:(Int×Int)) (r) (h:W1 n a0 sa=some r):Rd cx (Qu cx.P 69 0) 25 0 false (GL a0) (GS a0) (GA a0) (J3 a0) (J8 a0) sa r:=by
 unfold W1 at h
 by_cases ha1:sa.2 < ((a0).length:Int)
 ·replace h:=Ql h ha1
  obtain ⟨ta2,ha2,h⟩:=Qg h
  obtain ⟨ha3,h⟩:=Qi h
  replace h:=Option.some.inj h
  subst h
  exact ⟨100,9,[.br true,.el (I ta2)],[],[0,3,4],[],Qk (ob:=[Qa (sa.2+1),(0:Int)≤sa.2,nth (a0) (Int.toNat sa.2)=some (I ta2),(decide (sa.2 < ((a0).length:Int)))=true]) (by kernel_rfl) ⟨ha3,(Qs QG ha2).1,(Qs QG ha2).2,(decide_eq_true ha1),trivial⟩⟩
 ·replace h:=Qm h ha1
  replace h:=Option.some.inj h
  subst h
  exact ⟨⟨100,9,[.br false],[],[3],[],Qk (ob:=[(decide (sa.2 < ((a0).length:Int)))=false]) (by kernel_rfl) ⟨(decide_eq_false ha1),trivial⟩⟩,nofun⟩
def WT (n:Nat) (a0:List D):Option (Int) :=
 if ((a0).length:Int) < 1 then
  none
 else
 (el XV a0 0).bind fun t2 =>
 (Q2 (W1 n a0) n (t2,1)).bind fun t3 =>
 some t3
theorem Ke {n:Nat} {a0:List D} {r:Int} (h:WT n a0=some r):Computes cx 69 [.lst false 1 a0] (I r):=by
 unfold WT at h
 by_cases h1:((a0).length:Int) < 1
 ·replace h:=Ql h h1
  cases h
 ·replace h:=Qm h h1
  obtain ⟨t2,h2,h⟩:=Qg h
  obtain ⟨t3,h3,h⟩:=Qg h
  replace h:=Option.some.inj h
  subst h
  exact run (n:=100) (f:=69) (args:=[.lst false 1 a0]) (orc:=[.br false,.el (I t2),.lp [] [0,3,4] [] (.exit 0) [(3,.d (I t3))] [] 34]) (r:=I t3) (ob:=[QV cx (Qu cx.P 69 0) 25 0 false [(0,.d (.lst false 1 a0)),(3,.d (I t2)),(4,.d (I 1))] [] (.exit 0) [(3,.d (I t3))] [],(0:Int)≤0,nth (a0) (Int.toNat 0)=some (I t2),(decide (((a0).length:Int) < 1))=false]) (by kernel_rfl) ⟨(Qv GQ h3),(Qs QG h2).1,(Qs QG h2).2,(decide_eq_false h1),trivial⟩
def VK (n:Nat) (a0:List D) (a1 a2:Int) (sa:(Unit)⊕(Int×List D)):Option (((Unit)⊕(Int×List D))⊕((Unit)⊕(List D))):=match sa with
 | (.inl sa)=>(
  if 0 < ((a0).length:Int) then
   (el Wd a0 0).bind fun ta2 =>
   (ZH n ta2.2.1 ta2.2.2 1 0).bind fun ta3 =>
   (ZH n a1 a2 1 0).bind fun ta4 =>
   if Qa (ta2.1 * ta4) then
   if Qa (ta3+(ta2.1 * ta4)) then
   (ZH n a1 a2 0 1).bind fun ta7 =>
   if Qa (ta2.1 * ta7) then
   if Qa (ta3+(ta2.1 * ta7)) then
   (ZH n ta2.2.1 ta2.2.2 0 1).bind fun ta10 =>
   if Qa (ta10+(ta2.1 * ta4)) then
   if Qa (ta10+(ta2.1 * ta7)) then
   some (.inl (.inr (1,[I (ta3+(ta2.1 * ta4)),I (ta3+(ta2.1 * ta7)),I (ta10+(ta2.1 * ta4)),I (ta10+(ta2.1 * ta7))])))
   else none
   else none
   else none
   else none
   else none
   else none
  else
  some (.inr (.inl ())))
 | (.inr sa)=>(
  if sa.1 < ((a0).length:Int) then
   (el Wd a0 sa.1).bind fun ta2 =>
   (ZH n ta2.2.1 ta2.2.2 1 0).bind fun ta3 =>
   (ZH n a1 a2 1 0).bind fun ta4 =>
   if Qa (ta2.1 * ta4) then
   if Qa (ta3+(ta2.1 * ta4)) then
   if ZZ 8 ((sa.2).length+1) then
   (ZH n a1 a2 0 1).bind fun ta8 =>
   if Qa (ta2.1 * ta8) then
   if Qa (ta3+(ta2.1 * ta8)) then
   if ZZ 8 (((sa.2++([I (ta3+(ta2.1 * ta4))]:List D)):List D).length+1) then
   (ZH n ta2.2.1 ta2.2.2 0 1).bind fun ta12 =>
   if Qa (ta12+(ta2.1 * ta4)) then
   if ZZ 8 ((((sa.2++([I (ta3+(ta2.1 * ta4))]:List D))++([I (ta3+(ta2.1 * ta8))]:List D)):List D).length+1) then
   if Qa (ta12+(ta2.1 * ta8)) then
   if ZZ 8 (((((sa.2++([I (ta3+(ta2.1 * ta4))]:List D))++([I (ta3+(ta2.1 * ta8))]:List D))++([I (ta12+(ta2.1 * ta4))]:List D)):List D).length+1) then
   if Qa (sa.1+1) then
   some (.inl (.inr ((sa.1+1),((((sa.2++([I (ta3+(ta2.1 * ta4))]:List D))++([I (ta3+(ta2.1 * ta8))]:List D))++([I (ta12+(ta2.1 * ta4))]:List D))++([I (ta12+(ta2.1 * ta8))]:List D)))))
   else none
   else none
   else none
   else none
   else none
   else none
   else none
   else none
   else none
   else none
   else none
  else
  some (.inr (.inr sa.2)))
noncomputable def ET (a0:List D) (a1 a2:Int) (sa:(Unit)⊕(Int×List D)):List (Nat×AV):=match sa with
 | (.inl sa)=>[(0,.own 9 0),(7,.d (.lst false 3 a0)),(8,.d (I ((a0).length:Int))),(9,.d (I 0))]
 | (.inr sa)=>[(0,.own 9 0),(7,.d (.lst false 3 a0)),(8,.d (I ((a0).length:Int))),(9,.d (I sa.1))]
noncomputable def EU (a0:List D) (a1 a2:Int) (sa:(Unit)⊕(Int×List D)):List (Nat×Blk):=match sa with
 | (.inl sa)=>[(0,.box (.d (.agg [I a1,I a2]))),(1,.box (.d (.agg [I 0,I 0]))),(2,.box (.d (.lst true 0 []))),(5,.box (.d (.lst false 3 a0))),(9,.loop true [(10,.fn (.func 82) [] [.ptr 5 0 0 0 0]),(9,.d (.lst false 3 a0)),(5,.ptr 2 0 0 0 0),(4,.ptr 1 0 0 0 0),(3,.ptr 0 0 0 0 0),(1,.d (.agg [I a1,I a2])),(0,.d (.lst false 3 a0))] [11] (Zz cx.P 46 0).1 (Zz cx.P 46 0).2 34)]
 | (.inr sa)=>[(0,.box (.d (.agg [I a1,I a2]))),(1,.box (.d (.agg [I 0,I 0]))),(2,.box (.own 53 0)),(5,.box (.d (.lst false 3 a0))),(9,.loop true [(10,.fn (.func 82) [] [.ptr 5 0 0 0 0]),(9,.d (.lst false 3 a0)),(5,.ptr 2 0 0 0 0),(4,.ptr 1 0 0 0 0),(3,.ptr 0 0 0 0 0),(1,.d (.agg [I a1,I a2])),(0,.d (.lst false 3 a0))] [11] (Zz cx.P 46 0).1 (Zz cx.P 46 0).2 34),(53,.row 0 1 sa.2)]
noncomputable def EG (a0:List D) (a1 a2:Int) (e:(Unit)⊕(List D)):Ex:=match e with
 | (.inl e)=>(.exit 0)
 | (.inr e)=>(.exit 0)
noncomputable def XK (a0:List D) (a1 a2:Int) (e:(Unit)⊕(List D)):List (Nat×AV):=match e with
 | (.inl e)=>[]
 | (.inr e)=>[]
noncomputable def XL (a0:List D) (a1 a2:Int) (e:(Unit)⊕(List D)):List (Nat×Blk):=match e with
 | (.inl e)=>[(0,.box (.d (.agg [I a1,I a2]))),(1,.box (.d (.agg [I 0,I 0]))),(2,.box (.d (.lst true 0 []))),(5,.box (.d (.lst false 3 a0))),(9,.loop true [(10,.fn (.func 82) [] [.ptr 5 0 0 0 0]),(9,.d (.lst false 3 a0)),(5,.ptr 2 0 0 0 0),(4,.ptr 1 0 0 0 0),(3,.ptr 0 0 0 0 0),(1,.d (.agg [I a1,I a2])),(0,.d (.lst false 3 a0))] [11] (Zz cx.P 46 0).1 (Zz cx.P 46 0).2 34)]
 | (.inr e)=>[(0,.box (.d (.agg [I a1,I a2]))),(1,.box (.d (.agg [I 0,I 0]))),(2,.box (.own 53 0)),(5,.box (.d (.lst false 3 a0))),(9,.loop true [(10,.fn (.func 82) [] [.ptr 5 0 0 0 0]),(9,.d (.lst false 3 a0)),(5,.ptr 2 0 0 0 0),(4,.ptr 1 0 0 0 0),(3,.ptr 0 0 0 0 0),(1,.d (.agg [I a1,I a2])),(0,.d (.lst false 3 a0))] [11] (Zz cx.P 46 0).1 (Zz cx.P 46 0).2 34),(53,.row 0 1 e)]
theorem UN {n:Nat} {a0:List D} {a1 a2:Int} (sa:(Unit)⊕(Int×List D)) (r) (h:VK n a0 a1 a2 sa=some r):Rd cx (Qu cx.P 82 0) 29 10 false (ET a0 a1 a2) (EU a0 a1 a2) (EG a0 a1 a2) (XK a0 a1 a2) (XL a0 a1 a2) sa r:=by
 unfold VK at h
 rcases sa with sa | sa
 ·by_cases ha1:0 < ((a0).length:Int)
  ·replace h:=Ql h ha1
   obtain ⟨ta2,ha2,h⟩:=Qg h
   obtain ⟨ta3,ha3,h⟩:=Qg h
   obtain ⟨ta4,ha4,h⟩:=Qg h
   obtain ⟨ha5,h⟩:=Qi h
   obtain ⟨ha6,h⟩:=Qi h
   obtain ⟨ta7,ha7,h⟩:=Qg h
   obtain ⟨ha8,h⟩:=Qi h
   obtain ⟨ha9,h⟩:=Qi h
   obtain ⟨ta10,ha10,h⟩:=Qg h
   obtain ⟨ha11,h⟩:=Qi h
   obtain ⟨ha12,h⟩:=Qi h
   replace h:=Option.some.inj h
   subst h
   exact ⟨100,13,[.br true,.el (.agg [I ta2.1,I ta2.2.1,I ta2.2.2]),.no,.no,.ret (I ta3),.no,.no,.ret (I ta4),.no,.no,.no,.no,.ret (I ta7),.no,.no,.no,.no,.no,.no,.ret (I ta10),.no,.no,.ret (I ta4),.no,.no,.no,.ret (I ta7),.no,.no,.no,.no,.no,.no],[],[0,7,8,9],[0,1,2,5,9,53],Qk (ob:=[Qa 1,Qa 2,Qa 2,Qa (ta10+(ta2.1 * ta7)),Qa (ta2.1 * ta7),Computes cx 67 [.agg [I a1,I a2],.agg [I 0,I 1]] (I ta7),Qa 1,Qa (ta10+(ta2.1 * ta4)),Qa (ta2.1 * ta4),Computes cx 67 [.agg [I a1,I a2],.agg [I 1,I 0]] (I ta4),Computes cx 67 [.agg [I ta2.2.1,I ta2.2.2],.agg [I 0,I 1]] (I ta10),Qa 1,Qa 2,Qa (ta3+(ta2.1 * ta7)),Qa (ta2.1 * ta7),Computes cx 67 [.agg [I a1,I a2],.agg [I 0,I 1]] (I ta7),Qa 1,Qa (ta3+(ta2.1 * ta4)),Qa (ta2.1 * ta4),Computes cx 67 [.agg [I a1,I a2],.agg [I 1,I 0]] (I ta4),Computes cx 67 [.agg [I ta2.2.1,I ta2.2.2],.agg [I 1,I 0]] (I ta3),(0:Int)≤0,nth (a0) (Int.toNat 0)=some (.agg [I ta2.1,I ta2.2.1,I ta2.2.2]),(decide (0 < ((a0).length:Int)))=true]) (by kernel_rfl) ⟨(by unfold Qa;omega),(by unfold Qa;omega),(by unfold Qa;omega),ha12,ha8,(Zh ha7),(by unfold Qa;omega),ha11,ha5,(Zh ha4),(Zh ha10),(by unfold Qa;omega),(by unfold Qa;omega),ha9,ha8,(Zh ha7),(by unfold Qa;omega),ha6,ha5,(Zh ha4),(Zh ha3),(Qs Qp ha2).1,(Qs Qp ha2).2,(decide_eq_true ha1),trivial⟩⟩
  ·replace h:=Qm h ha1
   replace h:=Option.some.inj h
   subst h
   exact ⟨⟨100,13,[.br false],[],[],[0,1,2,5,9],Qk (ob:=[(decide (0 < ((a0).length:Int)))=false]) (by kernel_rfl) ⟨(decide_eq_false ha1),trivial⟩⟩,nofun⟩
 ·by_cases ha1:sa.1 < ((a0).length:Int)
  ·replace h:=Ql h ha1
   obtain ⟨ta2,ha2,h⟩:=Qg h
   obtain ⟨ta3,ha3,h⟩:=Qg h
   obtain ⟨ta4,ha4,h⟩:=Qg h
   obtain ⟨ha5,h⟩:=Qi h
   obtain ⟨ha6,h⟩:=Qi h
   obtain ⟨ha7,h⟩:=Qi h
   obtain ⟨ta8,ha8,h⟩:=Qg h
   obtain ⟨ha9,h⟩:=Qi h
   obtain ⟨ha10,h⟩:=Qi h
   obtain ⟨ha11,h⟩:=Qi h
   obtain ⟨ta12,ha12,h⟩:=Qg h
   obtain ⟨ha13,h⟩:=Qi h
   obtain ⟨ha14,h⟩:=Qi h
   obtain ⟨ha15,h⟩:=Qi h
   obtain ⟨ha16,h⟩:=Qi h
   obtain ⟨ha17,h⟩:=Qi h
   replace h:=Option.some.inj h
   subst h
   exact ⟨100,54,[.br true,.el (.agg [I ta2.1,I ta2.2.1,I ta2.2.2]),.no,.no,.ret (I ta3),.no,.no,.ret (I ta4),.br true,.no,.no,.ret (I ta8),.br true,.no,.no,.no,.no,.no,.ret (I ta12),.no,.no,.ret (I ta4),.br true,.no,.no,.ret (I ta8),.br true,.no,.no,.no,.no,.no],[],[0,7,8,9],[0,1,2,5,9,53],Qk (ob:=[Qa (sa.1+1),Qa 2,Qa 2,room cx 3 (((((sa.2++([I (ta3+(ta2.1 * ta4))]:List D))++([I (ta3+(ta2.1 * ta8))]:List D))++([I (ta12+(ta2.1 * ta4))]:List D)):List D).length+1),Qa (ta12+(ta2.1 * ta8)),Qa (ta2.1 * ta8),Computes cx 67 [.agg [I a1,I a2],.agg [I 0,I 1]] (I ta8),Qa 1,room cx 3 ((((sa.2++([I (ta3+(ta2.1 * ta4))]:List D))++([I (ta3+(ta2.1 * ta8))]:List D)):List D).length+1),Qa (ta12+(ta2.1 * ta4)),Qa (ta2.1 * ta4),Computes cx 67 [.agg [I a1,I a2],.agg [I 1,I 0]] (I ta4),Computes cx 67 [.agg [I ta2.2.1,I ta2.2.2],.agg [I 0,I 1]] (I ta12),Qa 1,Qa 2,room cx 3 (((sa.2++([I (ta3+(ta2.1 * ta4))]:List D)):List D).length+1),Qa (ta3+(ta2.1 * ta8)),Qa (ta2.1 * ta8),Computes cx 67 [.agg [I a1,I a2],.agg [I 0,I 1]] (I ta8),Qa 1,room cx 3 ((sa.2).length+1),Qa (ta3+(ta2.1 * ta4)),Qa (ta2.1 * ta4),Computes cx 67 [.agg [I a1,I a2],.agg [I 1,I 0]] (I ta4),Computes cx 67 [.agg [I ta2.2.1,I ta2.2.2],.agg [I 1,I 0]] (I ta3),(0:Int)≤sa.1,nth (a0) (Int.toNat sa.1)=some (.agg [I ta2.1,I ta2.2.1,I ta2.2.2]),(decide (sa.1 < ((a0).length:Int)))=true]) (by kernel_rfl) ⟨ha17,(by unfold Qa;omega),(by unfold Qa;omega),(Zp (b:=8) (by kernel_rfl) (by decide) ha16),ha15,ha9,(Zh ha8),(by unfold Qa;omega),(Zp (b:=8) (by kernel_rfl) (by decide) ha14),ha13,ha5,(Zh ha4),(Zh ha12),(by unfold Qa;omega),(by unfold Qa;omega),(Zp (b:=8) (by kernel_rfl) (by decide) ha11),ha10,ha9,(Zh ha8),(by unfold Qa;omega),(Zp (b:=8) (by kernel_rfl) (by decide) ha7),ha6,ha5,(Zh ha4),(Zh ha3),(Qs Qp ha2).1,(Qs Qp ha2).2,(decide_eq_true ha1),trivial⟩⟩
  ·replace h:=Qm h ha1
   replace h:=Option.some.inj h
   subst h
   exact ⟨⟨100,54,[.br false],[],[],[0,1,2,5,9,53],Qk (ob:=[(decide (sa.1 < ((a0).length:Int)))=false]) (by kernel_rfl) ⟨(decide_eq_false ha1),trivial⟩⟩,nofun⟩
def VL (n:Nat) (a0:List D) (a1 a2:Int):Option (Int×Int) :=
 (Q2 (VK n a0 a1 a2) n (.inl ())).bind fun t1=>match t1 with
  | (.inl t1)=>(
   (WS n ([])).bind fun t2 =>
   (WT n ([])).bind fun t3 =>
   some (t2,t3))
  | (.inr t1)=>(
   (WS n t1).bind fun t2 =>
   (WT n t1).bind fun t3 =>
   some (t2,t3))
theorem Ul {n:Nat} {a0:List D} {a1 a2:Int} {r:Int×Int} (h:VL n a0 a1 a2=some r):Computes cx 46 [.lst false 3 a0,.agg [I a1,I a2]] (.agg [I r.1,I r.2]):=by
 unfold VL at h
 obtain ⟨t1,h1,h⟩:=Qg h
 rcases t1 with t1 | t1
 ·obtain ⟨t2,h2,h⟩:=Qg h
  obtain ⟨t3,h3,h⟩:=Qg h
  replace h:=Option.some.inj h
  subst h
  exact run (n:=100) (f:=46) (args:=[.lst false 3 a0,.agg [I a1,I a2]]) (orc:=[.br true,.lp [] [0,7,8,9] [0,1,2,5,9] (.exit 0) [] [(0,.box (.d (.agg [I a1,I a2]))),(1,.box (.d (.agg [I 0,I 0]))),(2,.box (.d (.lst true 0 []))),(5,.box (.d (.lst false 3 a0))),(9,.loop true [(10,.fn (.func 82) [] [.ptr 5 0 0 0 0]),(9,.d (.lst false 3 a0)),(5,.ptr 2 0 0 0 0),(4,.ptr 1 0 0 0 0),(3,.ptr 0 0 0 0 0),(1,.d (.agg [I a1,I a2])),(0,.d (.lst false 3 a0))] [11] (Zz cx.P 46 0).1 (Zz cx.P 46 0).2 34)] 193,.ret (I t2),.ret (I t3)]) (r:=.agg [I t2,I t3]) (ob:=[Computes cx 69 [.lst true 0 []] (I t3),Computes cx 68 [.lst true 0 []] (I t2),QV cx (Qu cx.P 82 0) 29 10 false [(0,.own 9 0),(7,.d (.lst false 3 a0)),(8,.d (I ((a0).length:Int))),(9,.d (I 0))] [(0,.box (.d (.agg [I a1,I a2]))),(1,.box (.d (.agg [I 0,I 0]))),(2,.box (.d (.lst true 0 []))),(5,.box (.d (.lst false 3 a0))),(9,.loop true [(10,.fn (.func 82) [] [.ptr 5 0 0 0 0]),(9,.d (.lst false 3 a0)),(5,.ptr 2 0 0 0 0),(4,.ptr 1 0 0 0 0),(3,.ptr 0 0 0 0 0),(1,.d (.agg [I a1,I a2])),(0,.d (.lst false 3 a0))] [11] (Zz cx.P 46 0).1 (Zz cx.P 46 0).2 34)] (.exit 0) [] [(0,.box (.d (.agg [I a1,I a2]))),(1,.box (.d (.agg [I 0,I 0]))),(2,.box (.d (.lst true 0 []))),(5,.box (.d (.lst false 3 a0))),(9,.loop true [(10,.fn (.func 82) [] [.ptr 5 0 0 0 0]),(9,.d (.lst false 3 a0)),(5,.ptr 2 0 0 0 0),(4,.ptr 1 0 0 0 0),(3,.ptr 0 0 0 0 0),(1,.d (.agg [I a1,I a2])),(0,.d (.lst false 3 a0))] [11] (Zz cx.P 46 0).1 (Zz cx.P 46 0).2 34)]]) (by kernel_rfl) ⟨((Ke h3).le (.cons (.nilF) (.nil)) (.refl _)),((Kc h2).le (.cons (.nilF) (.nil)) (.refl _)),(Qv UN h1),trivial⟩
 ·obtain ⟨t2,h2,h⟩:=Qg h
  obtain ⟨t3,h3,h⟩:=Qg h
  replace h:=Option.some.inj h
  subst h
  exact run (n:=100) (f:=46) (args:=[.lst false 3 a0,.agg [I a1,I a2]]) (orc:=[.br true,.lp [] [0,7,8,9] [0,1,2,5,9] (.exit 0) [] [(0,.box (.d (.agg [I a1,I a2]))),(1,.box (.d (.agg [I 0,I 0]))),(2,.box (.own 53 0)),(5,.box (.d (.lst false 3 a0))),(9,.loop true [(10,.fn (.func 82) [] [.ptr 5 0 0 0 0]),(9,.d (.lst false 3 a0)),(5,.ptr 2 0 0 0 0),(4,.ptr 1 0 0 0 0),(3,.ptr 0 0 0 0 0),(1,.d (.agg [I a1,I a2])),(0,.d (.lst false 3 a0))] [11] (Zz cx.P 46 0).1 (Zz cx.P 46 0).2 34),(53,.row 0 1 t1)] 193,.lp [] [] [53] .ret [] [] 0,.ret (I t2),.ret (I t3)]) (r:=.agg [I t2,I t3]) (ob:=[Computes cx 69 [.lst false 1 t1] (I t3),Computes cx 68 [.lst false 1 t1] (I t2),QV cx (Qu cx.P 82 0) 29 10 false [(0,.own 9 0),(7,.d (.lst false 3 a0)),(8,.d (I ((a0).length:Int))),(9,.d (I 0))] [(0,.box (.d (.agg [I a1,I a2]))),(1,.box (.d (.agg [I 0,I 0]))),(2,.box (.d (.lst true 0 []))),(5,.box (.d (.lst false 3 a0))),(9,.loop true [(10,.fn (.func 82) [] [.ptr 5 0 0 0 0]),(9,.d (.lst false 3 a0)),(5,.ptr 2 0 0 0 0),(4,.ptr 1 0 0 0 0),(3,.ptr 0 0 0 0 0),(1,.d (.agg [I a1,I a2])),(0,.d (.lst false 3 a0))] [11] (Zz cx.P 46 0).1 (Zz cx.P 46 0).2 34)] (.exit 0) [] [(0,.box (.d (.agg [I a1,I a2]))),(1,.box (.d (.agg [I 0,I 0]))),(2,.box (.own 53 0)),(5,.box (.d (.lst false 3 a0))),(9,.loop true [(10,.fn (.func 82) [] [.ptr 5 0 0 0 0]),(9,.d (.lst false 3 a0)),(5,.ptr 2 0 0 0 0),(4,.ptr 1 0 0 0 0),(3,.ptr 0 0 0 0 0),(1,.d (.agg [I a1,I a2])),(0,.d (.lst false 3 a0))] [11] (Zz cx.P 46 0).1 (Zz cx.P 46 0).2 34),(53,.row 0 1 t1)]]) (by kernel_rfl) ⟨(Ke h3),(Kc h2),(Qv UN h1),trivial⟩
def Ut (n:Nat) (a0:List D) (a1 a2:Int):Option (Int×Int×Int) :=
 (Q0 n a0).bind fun t1 =>
 (QN n a1 a2 1000).bind fun t2 =>
 (Qr n ([I t1,I t2])).bind fun t3 =>
 if t3=0 then
  (VL n a0 a1 a2).bind fun t5 =>
  some (t5.1,t5.2,0)
 else
 some (0,0,t3)
theorem wo {n:Nat} {a0:List D} {a1 a2:Int} {r:Int×Int×Int} (h:Ut n a0 a1 a2=some r):Computes cx 19 [.lst false 3 a0,.agg [I a1,I a2]] (.tup [.agg [I r.1,I r.2.1],I r.2.2]):=by
 unfold Ut at h
 obtain ⟨t1,h1,h⟩:=Qg h
 obtain ⟨t2,h2,h⟩:=Qg h
 obtain ⟨t3,h3,h⟩:=Qg h
 by_cases h4:t3=0
 ·replace h:=Ql h h4
  obtain ⟨t5,h5,h⟩:=Qg h
  replace h:=Option.some.inj h
  subst h
  exact run (n:=100) (f:=19) (args:=[.lst false 3 a0,.agg [I a1,I a2]]) (orc:=[.ret (I t1),.ret (I t2),.ret (I t3),.br false,.ret (.agg [I t5.1,I t5.2])]) (r:=.tup [.agg [I t5.1,I t5.2],I 0]) (ob:=[Computes cx 46 [.lst false 3 a0,.agg [I a1,I a2]] (.agg [I t5.1,I t5.2]),(t3 != 0)=false,Computes cx 29 [.lst true 1 [I t1,I t2]] (I t3),Computes cx 42 [.agg [I a1,I a2],I 1000] (I t2),Computes cx 44 [.lst false 3 a0] (I t1)]) (by kernel_rfl) ⟨(Ul h5),(nef h4),((Qj h3).le (.cons (.full _ _ _) (.nil)) (.refl _)),(Qx h2),(QC h1),trivial⟩
 ·replace h:=Qm h h4
  replace h:=Option.some.inj h
  subst h
  exact run (n:=100) (f:=19) (args:=[.lst false 3 a0,.agg [I a1,I a2]]) (orc:=[.ret (I t1),.ret (I t2),.ret (I t3),.br true]) (r:=.tup [.agg [I 0,I 0],I t3]) (ob:=[(t3 != 0)=true,Computes cx 29 [.lst true 1 [I t1,I t2]] (I t3),Computes cx 42 [.agg [I a1,I a2],I 1000] (I t2),Computes cx 44 [.lst false 3 a0] (I t1)]) (by kernel_rfl) ⟨(net h4),((Qj h3).le (.cons (.full _ _ _) (.nil)) (.refl _)),(Qx h2),(QC h1),trivial⟩
def W2 (n:Nat) (a0 a1:List D) (sa:(Int)):Option (((Int))⊕((Unit)⊕(Unit))) :=
 if sa < ((a0).length:Int) then
  (el XV a0 sa).bind fun ta2 =>
  (el XV a1 sa).bind fun ta3 =>
  if ta2=ta3 then
   if Qa (sa+1) then
   some (.inl (sa+1))
   else none
  else
  some (.inr (.inl ()))
 else
 some (.inr (.inr ()))
noncomputable def GM (a0 a1:List D) (sa:(Int)):List (Nat×AV):=[(0,.d (.lst false 1 a0)),(1,.d (.lst false 1 a1)),(5,.d (I sa))]
noncomputable def GT (a0 a1:List D) (sa:(Int)):List (Nat×Blk):=[]
noncomputable def GB (a0 a1:List D) (e:(Unit)⊕(Unit)):Ex:=match e with
 | (.inl e)=>.ret
 | (.inr e)=>(.exit 0)
noncomputable def J4 (a0 a1:List D) (e:(Unit)⊕(Unit)):List (Nat×AV):=match e with
 | (.inl e)=>[(4,.d (B false))]
 | (.inr e)=>[]
noncomputable def J9 (a0 a1:List D) (e:(Unit)⊕(Unit)):List (Nat×Blk):=match e with
 | (.inl e)=>[]
 | (.inr e)=>[]
theorem YG {n:Nat} {a0 a1:List D} (sa:(Int)) (r) (h:W2 n a0 a1 sa=some r):Rd cx (Qu cx.P 20 0) 26 0 false (GM a0 a1) (GT a0 a1) (GB a0 a1) (J4 a0 a1) (J9 a0 a1) sa r:=by
 unfold W2 at h
 by_cases ha1:sa < ((a0).length:Int)
 ·replace h:=Ql h ha1
  obtain ⟨ta2,ha2,h⟩:=Qg h
  obtain ⟨ta3,ha3,h⟩:=Qg h
  by_cases ha4:ta2=ta3
  ·replace h:=Ql h ha4
   obtain ⟨ha5,h⟩:=Qi h
   replace h:=Option.some.inj h
   subst h
   exact ⟨100,7,[.br true,.el (I ta2),.el (I ta3),.br false],[],[0,1,5],[],Qk (ob:=[Qa (sa+1),(ta2 != ta3)=false,(0:Int)≤sa,nth (a1) (Int.toNat sa)=some (I ta3),(0:Int)≤sa,nth (a0) (Int.toNat sa)=some (I ta2),(decide (sa < ((a0).length:Int)))=true]) (by kernel_rfl) ⟨ha5,(nef ha4),(Qs QG ha3).1,(Qs QG ha3).2,(Qs QG ha2).1,(Qs QG ha2).2,(decide_eq_true ha1),trivial⟩⟩
  ·replace h:=Qm h ha4
   replace h:=Option.some.inj h
   subst h
   exact ⟨⟨100,7,[.br true,.el (I ta2),.el (I ta3),.br true],[],[4],[],Qk (ob:=[(ta2 != ta3)=true,(0:Int)≤sa,nth (a1) (Int.toNat sa)=some (I ta3),(0:Int)≤sa,nth (a0) (Int.toNat sa)=some (I ta2),(decide (sa < ((a0).length:Int)))=true]) (by kernel_rfl) ⟨(net ha4),(Qs QG ha3).1,(Qs QG ha3).2,(Qs QG ha2).1,(Qs QG ha2).2,(decide_eq_true ha1),trivial⟩⟩,nofun⟩
 ·replace h:=Qm h ha1
  replace h:=Option.some.inj h
  subst h
  exact ⟨⟨100,7,[.br false],[],[],[],Qk (ob:=[(decide (sa < ((a0).length:Int)))=false]) (by kernel_rfl) ⟨(decide_eq_false ha1),trivial⟩⟩,nofun⟩
def VZ (n:Nat) (a0 a1:List D):Option (Bool) :=
 if ((a0).length:Int)=((a1).length:Int) then
  (Q2 (W2 n a0 a1) n 0).bind fun t2=>match t2 with
   | (.inl t2)=>(
    some false)
   | (.inr t2)=>(
    some true)
 else
 some false
theorem qf {n:Nat} {a0 a1:List D} {r:Bool} (h:VZ n a0 a1=some r):Computes cx 20 [.lst false 1 a0,.lst false 1 a1] (B r):=by
 unfold VZ at h
 by_cases h1:((a0).length:Int)=((a1).length:Int)
 ·replace h:=Ql h h1
  obtain ⟨t2,h2,h⟩:=Qg h
  rcases t2 with t2 | t2
  ·replace h:=Option.some.inj h
   subst h
   exact run (n:=100) (f:=20) (args:=[.lst false 1 a0,.lst false 1 a1]) (orc:=[.br false,.lp [] [0,1,5] [] .ret [(4,.d (B false))] [] 34]) (r:=B false) (ob:=[QV cx (Qu cx.P 20 0) 26 0 false [(0,.d (.lst false 1 a0)),(1,.d (.lst false 1 a1)),(5,.d (I 0))] [] .ret [(4,.d (B false))] [],(((a0).length:Int) != ((a1).length:Int))=false]) (by kernel_rfl) ⟨(Qv YG h2),(nef h1),trivial⟩
  ·replace h:=Option.some.inj h
   subst h
   exact run (n:=100) (f:=20) (args:=[.lst false 1 a0,.lst false 1 a1]) (orc:=[.br false,.lp [] [0,1,5] [] (.exit 0) [] [] 34]) (r:=B true) (ob:=[QV cx (Qu cx.P 20 0) 26 0 false [(0,.d (.lst false 1 a0)),(1,.d (.lst false 1 a1)),(5,.d (I 0))] [] (.exit 0) [] [],(((a0).length:Int) != ((a1).length:Int))=false]) (by kernel_rfl) ⟨(Qv YG h2),(nef h1),trivial⟩
 ·replace h:=Qm h h1
  replace h:=Option.some.inj h
  subst h
  exact run (n:=100) (f:=20) (args:=[.lst false 1 a0,.lst false 1 a1]) (orc:=[.br true]) (r:=B false) (ob:=[(((a0).length:Int) != ((a1).length:Int))=true]) (by kernel_rfl) ⟨(net h1),trivial⟩
def V1 (n:Nat) (a0:List D) (sa:(Int×List D)):Option (((Int×List D))⊕((List D))) :=
 if sa.1 < ((a0).length:Int) then
  (el Wd a0 sa.1).bind fun ta2 =>
  if ZZ 24 ((sa.2).length+1) then
  if Qa (sa.1+1) then
  some (.inl ((sa.1+1),(sa.2++([.agg [I ta2.1,I ta2.2.1,I ta2.2.2]]:List D))))
  else none
  else none
 else
 some (.inr sa.2)
noncomputable def qA (a0:List D) (sa:(Int×List D)):List (Nat×AV):=[(3,.own 5 0),(6,.d (.lst false 3 a0)),(7,.d (I ((a0).length:Int))),(8,.d (I sa.1))]
noncomputable def qI (a0:List D) (sa:(Int×List D)):List (Nat×Blk):=[(5,.row 0 3 sa.2)]
noncomputable def qu (a0:List D) (e:(List D)):Ex:=(.exit 0)
noncomputable def EJ (a0:List D) (e:(List D)):List (Nat×AV):=[(3,.own 5 0)]
noncomputable def EP (a0:List D) (e:(List D)):List (Nat×Blk):=[(5,.row 0 3 e)]
theorem qE {n:Nat} {a0:List D} (sa:(Int×List D)) (r) (h:V1 n a0 sa=some r):Rd cx (Qu cx.P 22 0) 18 0 false (qA a0) (qI a0) (qu a0) (EJ a0) (EP a0) sa r:=by
 unfold V1 at h
 by_cases ha1:sa.1 < ((a0).length:Int)
 ·replace h:=Ql h ha1
  obtain ⟨ta2,ha2,h⟩:=Qg h
  obtain ⟨ha3,h⟩:=Qi h
  obtain ⟨ha4,h⟩:=Qi h
  replace h:=Option.some.inj h
  subst h
  exact ⟨100,6,[.br true,.el (.agg [I ta2.1,I ta2.2.1,I ta2.2.2]),.br true],[],[3,6,7,8],[5],Qk (ob:=[Qa (sa.1+1),room cx 65 ((sa.2).length+1),(0:Int)≤sa.1,nth (a0) (Int.toNat sa.1)=some (.agg [I ta2.1,I ta2.2.1,I ta2.2.2]),(decide (sa.1 < ((a0).length:Int)))=true]) (by kernel_rfl) ⟨ha4,(Zp (b:=24) (by kernel_rfl) (by decide) ha3),(Qs Qp ha2).1,(Qs Qp ha2).2,(decide_eq_true ha1),trivial⟩⟩
 ·replace h:=Qm h ha1
  replace h:=Option.some.inj h
  subst h
  exact ⟨⟨100,6,[.br false],[],[3],[5],Qk (ob:=[(decide (sa.1 < ((a0).length:Int)))=false]) (by kernel_rfl) ⟨(decide_eq_false ha1),trivial⟩⟩,nofun⟩
def Wp (n:Nat) (a0:List D):Option (List D) :=
 (Q2 (V1 n a0) n (0,[])).bind fun t1 =>
 some t1
theorem Yc {n:Nat} {a0:List D} {r:List D} (h:Wp n a0=some r):Computes cx 22 [.lst false 3 a0] (.lst false 3 r):=by
 unfold Wp at h
 obtain ⟨t1,h1,h⟩:=Qg h
 replace h:=Option.some.inj h
 subst h
 exact run (n:=100) (f:=22) (args:=[.lst false 3 a0]) (orc:=[.lp [3,3] [3,6,7,8] [5] (.exit 0) [(3,.own 5 0)] [(5,.row 0 3 t1)] 29]) (r:=.lst false 3 t1) (ob:=[QV cx (Qu cx.P 22 0) 18 0 false [(3,.own 5 0),(6,.d (.lst false 3 a0)),(7,.d (I ((a0).length:Int))),(8,.d (I 0))] [(5,.row 0 3 [])] (.exit 0) [(3,.own 5 0)] [(5,.row 0 3 t1)]]) (by kernel_rfl) ⟨(Qv qE h1),trivial⟩
def WJ (n:Nat) (a0 a1:List D) (sa:(Int)):Option (((Int))⊕((Unit)⊕(Unit))) :=
 if sa < ((a0).length:Int) then
  (el Wd a0 sa).bind fun ta2 =>
  (el Wd a1 sa).bind fun ta3 =>
  if ((ta2.1 == ta3.1) && (((ta2.2.1 == ta3.2.1) && ((ta2.2.2 == ta3.2.2) && true)) && true))=true then
   if Qa (sa+1) then
   some (.inl (sa+1))
   else none
  else
  some (.inr (.inl ()))
 else
 some (.inr (.inr ()))
noncomputable def Gd (a0 a1:List D) (sa:(Int)):List (Nat×AV):=[(0,.d (.lst false 3 a0)),(1,.d (.lst false 3 a1)),(5,.d (I sa))]
noncomputable def Gj (a0 a1:List D) (sa:(Int)):List (Nat×Blk):=[]
noncomputable def JZ (a0 a1:List D) (e:(Unit)⊕(Unit)):Ex:=match e with
 | (.inl e)=>.ret
 | (.inr e)=>(.exit 0)
noncomputable def Ji (a0 a1:List D) (e:(Unit)⊕(Unit)):List (Nat×AV):=match e with
 | (.inl e)=>[(4,.d (B false))]
 | (.inr e)=>[]
noncomputable def Jm (a0 a1:List D) (e:(Unit)⊕(Unit)):List (Nat×Blk):=match e with
 | (.inl e)=>[]
 | (.inr e)=>[]
theorem Yt {n:Nat} {a0 a1:List D} (sa:(Int)) (r) (h:WJ n a0 a1 sa=some r):Rd cx (Qu cx.P 21 0) 26 0 false (Gd a0 a1) (Gj a0 a1) (JZ a0 a1) (Ji a0 a1) (Jm a0 a1) sa r:=by
 unfold WJ at h
 by_cases ha1:sa < ((a0).length:Int)
 ·replace h:=Ql h ha1
  obtain ⟨ta2,ha2,h⟩:=Qg h
  obtain ⟨ta3,ha3,h⟩:=Qg h
  by_cases ha4:((ta2.1 == ta3.1) && (((ta2.2.1 == ta3.2.1) && ((ta2.2.2 == ta3.2.2) && true)) && true))=true
  ·replace h:=Ql h ha4
   obtain ⟨ha5,h⟩:=Qi h
   replace h:=Option.some.inj h
   subst h
   exact ⟨100,7,[.br true,.el (.agg [I ta2.1,I ta2.2.1,I ta2.2.2]),.el (.agg [I ta3.1,I ta3.2.1,I ta3.2.2]),.br false],[],[0,1,5],[],Qk (ob:=[Qa (sa+1),(!((ta2.1 == ta3.1) && (((ta2.2.1 == ta3.2.1) && ((ta2.2.2 == ta3.2.2) && true)) && true)))=false,(0:Int)≤sa,nth (a1) (Int.toNat sa)=some (.agg [I ta3.1,I ta3.2.1,I ta3.2.2]),(0:Int)≤sa,nth (a0) (Int.toNat sa)=some (.agg [I ta2.1,I ta2.2.1,I ta2.2.2]),(decide (sa < ((a0).length:Int)))=true]) (by kernel_rfl) ⟨ha5,(U7 ha4),(Qs Qp ha3).1,(Qs Qp ha3).2,(Qs Qp ha2).1,(Qs Qp ha2).2,(decide_eq_true ha1),trivial⟩⟩
  ·replace h:=Qm h ha4
   replace h:=Option.some.inj h
   subst h
   exact ⟨⟨100,7,[.br true,.el (.agg [I ta2.1,I ta2.2.1,I ta2.2.2]),.el (.agg [I ta3.1,I ta3.2.1,I ta3.2.2]),.br true],[],[4],[],Qk (ob:=[(!((ta2.1 == ta3.1) && (((ta2.2.1 == ta3.2.1) && ((ta2.2.2 == ta3.2.2) && true)) && true)))=true,(0:Int)≤sa,nth (a1) (Int.toNat sa)=some (.agg [I ta3.1,I ta3.2.1,I ta3.2.2]),(0:Int)≤sa,nth (a0) (Int.toNat sa)=some (.agg [I ta2.1,I ta2.2.1,I ta2.2.2]),(decide (sa < ((a0).length:Int)))=true]) (by kernel_rfl) ⟨(jV (QI ha4)),(Qs Qp ha3).1,(Qs Qp ha3).2,(Qs Qp ha2).1,(Qs Qp ha2).2,(decide_eq_true ha1),trivial⟩⟩,nofun⟩
 ·replace h:=Qm h ha1
  replace h:=Option.some.inj h
  subst h
  exact ⟨⟨100,7,[.br false],[],[],[],Qk (ob:=[(decide (sa < ((a0).length:Int)))=false]) (by kernel_rfl) ⟨(decide_eq_false ha1),trivial⟩⟩,nofun⟩
def ZV (n:Nat) (a0 a1:List D):Option (Bool) :=
 if ((a0).length:Int)=((a1).length:Int) then
  (Q2 (WJ n a0 a1) n 0).bind fun t2=>match t2 with
   | (.inl t2)=>(
    some false)
   | (.inr t2)=>(
    some true)
 else
 some false
theorem VB {n:Nat} {a0 a1:List D} {r:Bool} (h:ZV n a0 a1=some r):Computes cx 21 [.lst false 3 a0,.lst false 3 a1] (B r):=by
 unfold ZV at h
 by_cases h1:((a0).length:Int)=((a1).length:Int)
 ·replace h:=Ql h h1
  obtain ⟨t2,h2,h⟩:=Qg h
  rcases t2 with t2 | t2
  ·replace h:=Option.some.inj h
   subst h
   exact run (n:=100) (f:=21) (args:=[.lst false 3 a0,.lst false 3 a1]) (orc:=[.br false,.lp [] [0,1,5] [] .ret [(4,.d (B false))] [] 34]) (r:=B false) (ob:=[QV cx (Qu cx.P 21 0) 26 0 false [(0,.d (.lst false 3 a0)),(1,.d (.lst false 3 a1)),(5,.d (I 0))] [] .ret [(4,.d (B false))] [],(((a0).length:Int) != ((a1).length:Int))=false]) (by kernel_rfl) ⟨(Qv Yt h2),(nef h1),trivial⟩
  ·replace h:=Option.some.inj h
   subst h
   exact run (n:=100) (f:=21) (args:=[.lst false 3 a0,.lst false 3 a1]) (orc:=[.br false,.lp [] [0,1,5] [] (.exit 0) [] [] 34]) (r:=B true) (ob:=[QV cx (Qu cx.P 21 0) 26 0 false [(0,.d (.lst false 3 a0)),(1,.d (.lst false 3 a1)),(5,.d (I 0))] [] (.exit 0) [] [],(((a0).length:Int) != ((a1).length:Int))=false]) (by kernel_rfl) ⟨(Qv Yt h2),(nef h1),trivial⟩
 ·replace h:=Qm h h1
  replace h:=Option.some.inj h
  subst h
  exact run (n:=100) (f:=21) (args:=[.lst false 3 a0,.lst false 3 a1]) (orc:=[.br true]) (r:=B false) (ob:=[(((a0).length:Int) != ((a1).length:Int))=true]) (by kernel_rfl) ⟨(net h1),trivial⟩
def Z2 (n:Nat) (a0 a1 a2 a3 a4 a5:Int) (a6:List D) (a7 a8:Int):Option (Int) :=
 (Z1 n a0 a1 a2 a3 a4 a5).bind fun t1 =>
 (Q0 n a6).bind fun t2 =>
 (QN n a7 a8 4294967296).bind fun t3 =>
 (Qr n ([I t1,I t2,I t3])).bind fun t4 =>
 some t4
theorem ZE {n:Nat} {a0 a1 a2 a3 a4 a5:Int} {a6:List D} {a7 a8:Int} {r:Int} (h:Z2 n a0 a1 a2 a3 a4 a5 a6 a7 a8=some r):Computes cx 47 [.agg [I a0,I a1,I a2,I a3,I a4,I a5,.lst false 3 a6,I a7,I a8]] (I r):=by
 unfold Z2 at h
 obtain ⟨t1,h1,h⟩:=Qg h
 obtain ⟨t2,h2,h⟩:=Qg h
 obtain ⟨t3,h3,h⟩:=Qg h
 obtain ⟨t4,h4,h⟩:=Qg h
 replace h:=Option.some.inj h
 subst h
 exact run (n:=100) (f:=47) (args:=[.agg [I a0,I a1,I a2,I a3,I a4,I a5,.lst false 3 a6,I a7,I a8]]) (orc:=[.ret (I t1),.ret (I t2),.ret (I t3),.ret (I t4)]) (r:=I t4) (ob:=[Computes cx 29 [.lst true 1 [I t1,I t2,I t3]] (I t4),Computes cx 42 [.agg [I a7,I a8],I 4294967296] (I t3),Computes cx 44 [.lst false 3 a6] (I t2),Computes cx 62 [.agg [I a0,I a1,I a2,I a3,I a4,I a5]] (I t1)]) (by kernel_rfl) ⟨((Qj h4).le (.cons (.full _ _ _) (.nil)) (.refl _)),(Qx h3),(QC h2),(YE h1),trivial⟩
def Wz (n:Nat) (a0 a1 a2 a3 a4 a5:Int) (a6:List D) (a7 a8 a9:Int):Option (Int×Int×Bool) :=
 (WU n a0 a1 a2 a3 a4 a5 a9).bind fun t1 =>
 (VL n a6 t1.2.2.2.2.1 t1.2.2.2.2.2).bind fun t2 =>
 (VM n t2.1 t2.2 a7 a8).bind fun t3 =>
 if t3.2.2=true then
  some (t2.1,t2.2,((t3.1 == t2.1) && ((t3.2.1 == t2.2) && true)))
 else
 some (t2.1,t2.2,false)
theorem ZB {n:Nat} {a0 a1 a2 a3 a4 a5:Int} {a6:List D} {a7 a8 a9:Int} {r:Int×Int×Bool} (h:Wz n a0 a1 a2 a3 a4 a5 a6 a7 a8 a9=some r):Computes cx 49 [.agg [I a0,I a1,I a2,I a3,I a4,I a5,.lst false 3 a6,I a7,I a8],I a9] (.tup [.agg [I r.1,I r.2.1],B r.2.2]):=by
 unfold Wz at h
 obtain ⟨t1,h1,h⟩:=Qg h
 obtain ⟨t2,h2,h⟩:=Qg h
 obtain ⟨t3,h3,h⟩:=Qg h
 by_cases h4:t3.2.2=true
 ·replace h:=Ql h h4
  replace h:=Option.some.inj h
  subst h
  exact run (n:=100) (f:=49) (args:=[.agg [I a0,I a1,I a2,I a3,I a4,I a5,.lst false 3 a6,I a7,I a8],I a9]) (orc:=[.ret (.agg [I t1.1,I t1.2.1,I t1.2.2.1,I t1.2.2.2.1,I t1.2.2.2.2.1,I t1.2.2.2.2.2]),.ret (.agg [I t2.1,I t2.2]),.ret (.tup [.agg [I t3.1,I t3.2.1],B t3.2.2]),.br true]) (r:=.tup [.agg [I t2.1,I t2.2],B ((t3.1 == t2.1) && ((t3.2.1 == t2.2) && true))]) (ob:=[t3.2.2=true,Computes cx 65 [.agg [I t2.1,I t2.2],.agg [I a7,I a8]] (.tup [.agg [I t3.1,I t3.2.1],B t3.2.2]),Computes cx 46 [.lst false 3 a6,.agg [I t1.2.2.2.2.1,I t1.2.2.2.2.2]] (.agg [I t2.1,I t2.2]),Computes cx 40 [.agg [I a0,I a1,I a2,I a3,I a4,I a5],I a9] (.agg [I t1.1,I t1.2.1,I t1.2.2.1,I t1.2.2.2.1,I t1.2.2.2.2.1,I t1.2.2.2.2.2])]) (by kernel_rfl) ⟨h4,(Un h3),(Ul h2),(VY h1),trivial⟩
 ·replace h:=Qm h h4
  replace h:=Option.some.inj h
  subst h
  exact run (n:=100) (f:=49) (args:=[.agg [I a0,I a1,I a2,I a3,I a4,I a5,.lst false 3 a6,I a7,I a8],I a9]) (orc:=[.ret (.agg [I t1.1,I t1.2.1,I t1.2.2.1,I t1.2.2.2.1,I t1.2.2.2.2.1,I t1.2.2.2.2.2]),.ret (.agg [I t2.1,I t2.2]),.ret (.tup [.agg [I t3.1,I t3.2.1],B t3.2.2]),.br false]) (r:=.tup [.agg [I t2.1,I t2.2],B false]) (ob:=[t3.2.2=false,Computes cx 65 [.agg [I t2.1,I t2.2],.agg [I a7,I a8]] (.tup [.agg [I t3.1,I t3.2.1],B t3.2.2]),Computes cx 46 [.lst false 3 a6,.agg [I t1.2.2.2.2.1,I t1.2.2.2.2.2]] (.agg [I t2.1,I t2.2]),Computes cx 40 [.agg [I a0,I a1,I a2,I a3,I a4,I a5],I a9] (.agg [I t1.1,I t1.2.1,I t1.2.2.1,I t1.2.2.2.1,I t1.2.2.2.2.1,I t1.2.2.2.2.2])]) (by kernel_rfl) ⟨(QI h4),(Un h3),(Ul h2),(VY h1),trivial⟩
def YT (n:Nat) (a0:Int):Option (Int) :=
 some (VU a0 (IntKind.wrap .i64 (0 - a0)))
theorem YR {n:Nat} {a0:Int} {r:Int} (h:YT n a0=some r):Computes cx 70 [I a0] (I r):=by
 unfold YT at h
 replace h:=Option.some.inj h
 subst h
 exact run (n:=100) (f:=70) (args:=[I a0]) (orc:=[]) (r:=I (VU a0 (IntKind.wrap .i64 (0 - a0)))) (ob:=[]) (by kernel_rfl) trivial
def ZY (n:Nat) (a0 a1 a2 a3 a4 a5:Int) (a6:List D) (a7 a8:Int) (sa:(Int×Bool×Int)):Option (((Int×Bool×Int))⊕((Int×Bool))) :=
 if sa.2.2 < ((a1 - a0)+1) then
  if Qa (a0+sa.2.2) then
  (Wz n a0 a1 a2 a3 a4 a5 a6 a7 a8 (a0+sa.2.2)).bind fun ta3 =>
  if ta3.2.2=true then
   if sa.2.1=true then
    if Qa ((a0+sa.2.2) - a3) then
    (YT n ((a0+sa.2.2) - a3)).bind fun ta7 =>
    if Qa (sa.1 - a3) then
    (YT n (sa.1 - a3)).bind fun ta9 =>
    if ta7 < ta9 then
     if Qa (sa.2.2+1) then
     some (.inl ((a0+sa.2.2),true,(sa.2.2+1)))
     else none
    else
    if Qa (sa.2.2+1) then
    some (.inl (sa.1,sa.2.1,(sa.2.2+1)))
    else none
    else none
    else none
   else
   if Qa (sa.2.2+1) then
   some (.inl ((a0+sa.2.2),true,(sa.2.2+1)))
   else none
  else
  if Qa (sa.2.2+1) then
  some (.inl (sa.1,sa.2.1,(sa.2.2+1)))
  else none
  else none
 else
 some (.inr (sa.1,sa.2.1))
noncomputable def UY (a0 a1 a2 a3 a4 a5:Int) (a6:List D) (a7 a8:Int) (sa:(Int×Bool×Int)):List (Nat×AV):=[(1,.ptr 0 0 0 0 0),(4,.d (I sa.1)),(5,.d (B sa.2.1)),(19,.d (I ((a1 - a0)+1))),(20,.d (I sa.2.2))]
noncomputable def U0 (a0 a1 a2 a3 a4 a5:Int) (a6:List D) (a7 a8:Int) (sa:(Int×Bool×Int)):List (Nat×Blk):=[(0,.box (.d (.agg [I a0,I a1,I a2,I a3,I a4,I a5,.lst false 3 a6,I a7,I a8])))]
noncomputable def UV (a0 a1 a2 a3 a4 a5:Int) (a6:List D) (a7 a8:Int) (e:(Int×Bool)):Ex:=(.exit 0)
noncomputable def Uv (a0 a1 a2 a3 a4 a5:Int) (a6:List D) (a7 a8:Int) (e:(Int×Bool)):List (Nat×AV):=[(4,.d (I e.1)),(5,.d (B e.2))]
noncomputable def Uw (a0 a1 a2 a3 a4 a5:Int) (a6:List D) (a7 a8:Int) (e:(Int×Bool)):List (Nat×Blk):=[]
theorem UZ {n:Nat} {a0 a1 a2 a3 a4 a5:Int} {a6:List D} {a7 a8:Int} (sa:(Int×Bool×Int)) (r) (h:ZY n a0 a1 a2 a3 a4 a5 a6 a7 a8 sa=some r):Rd cx (Qu cx.P 48 0) 63 0 false (UY a0 a1 a2 a3 a4 a5 a6 a7 a8) (U0 a0 a1 a2 a3 a4 a5 a6 a7 a8) (UV a0 a1 a2 a3 a4 a5 a6 a7 a8) (Uv a0 a1 a2 a3 a4 a5 a6 a7 a8) (Uw a0 a1 a2 a3 a4 a5 a6 a7 a8) sa r:=by
 unfold ZY at h
 by_cases ha1:sa.2.2 < ((a1 - a0)+1)
 ·replace h:=Ql h ha1
  obtain ⟨ha2,h⟩:=Qi h
  obtain ⟨ta3,ha3,h⟩:=Qg h
  by_cases ha4:ta3.2.2=true
  ·replace h:=Ql h ha4
   by_cases ha5:sa.2.1=true
   ·replace h:=Ql h ha5
    obtain ⟨ha6,h⟩:=Qi h
    obtain ⟨ta7,ha7,h⟩:=Qg h
    obtain ⟨ha8,h⟩:=Qi h
    obtain ⟨ta9,ha9,h⟩:=Qg h
    by_cases ha10:ta7 < ta9
    ·replace h:=Ql h ha10
     obtain ⟨ha11,h⟩:=Qi h
     replace h:=Option.some.inj h
     subst h
     exact ⟨100,16,[.br true,.ret (.tup [.agg [I ta3.1,I ta3.2.1],B ta3.2.2]),.br true,.br false,.ret (I ta7),.ret (I ta9),.br true],[],[1,4,5,19,20],[0],Qk (ob:=[Qa (sa.2.2+1),(decide (ta7 < ta9))=true,Computes cx 70 [I (sa.1 - a3)] (I ta9),Qa (sa.1 - a3),Computes cx 70 [I ((a0+sa.2.2) - a3)] (I ta7),Qa ((a0+sa.2.2) - a3),(!sa.2.1)=false,ta3.2.2=true,Computes cx 49 [.agg [I a0,I a1,I a2,I a3,I a4,I a5,.lst false 3 a6,I a7,I a8],I (a0+sa.2.2)] (.tup [.agg [I ta3.1,I ta3.2.1],B ta3.2.2]),Qa (a0+sa.2.2),(decide (sa.2.2 < ((a1 - a0)+1)))=true]) (by kernel_rfl) ⟨ha11,(decide_eq_true ha10),(YR ha9),ha8,(YR ha7),ha6,(U7 ha5),ha4,(ZB ha3),ha2,(decide_eq_true ha1),trivial⟩⟩
    ·replace h:=Qm h ha10
     obtain ⟨ha11,h⟩:=Qi h
     replace h:=Option.some.inj h
     subst h
     exact ⟨100,16,[.br true,.ret (.tup [.agg [I ta3.1,I ta3.2.1],B ta3.2.2]),.br true,.br false,.ret (I ta7),.ret (I ta9),.br false],[],[1,4,5,19,20],[0],Qk (ob:=[Qa (sa.2.2+1),(decide (ta7 < ta9))=false,Computes cx 70 [I (sa.1 - a3)] (I ta9),Qa (sa.1 - a3),Computes cx 70 [I ((a0+sa.2.2) - a3)] (I ta7),Qa ((a0+sa.2.2) - a3),(!sa.2.1)=false,ta3.2.2=true,Computes cx 49 [.agg [I a0,I a1,I a2,I a3,I a4,I a5,.lst false 3 a6,I a7,I a8],I (a0+sa.2.2)] (.tup [.agg [I ta3.1,I ta3.2.1],B ta3.2.2]),Qa (a0+sa.2.2),(decide (sa.2.2 < ((a1 - a0)+1)))=true]) (by kernel_rfl) ⟨ha11,(decide_eq_false ha10),(YR ha9),ha8,(YR ha7),ha6,(U7 ha5),ha4,(ZB ha3),ha2,(decide_eq_true ha1),trivial⟩⟩
   ·replace h:=Qm h ha5
    obtain ⟨ha6,h⟩:=Qi h
    replace h:=Option.some.inj h
    subst h
    exact ⟨100,16,[.br true,.ret (.tup [.agg [I ta3.1,I ta3.2.1],B ta3.2.2]),.br true,.br true,.no],[],[1,4,5,19,20],[0],Qk (ob:=[Qa (sa.2.2+1),(!sa.2.1)=true,ta3.2.2=true,Computes cx 49 [.agg [I a0,I a1,I a2,I a3,I a4,I a5,.lst false 3 a6,I a7,I a8],I (a0+sa.2.2)] (.tup [.agg [I ta3.1,I ta3.2.1],B ta3.2.2]),Qa (a0+sa.2.2),(decide (sa.2.2 < ((a1 - a0)+1)))=true]) (by kernel_rfl) ⟨ha6,(jV (QI ha5)),ha4,(ZB ha3),ha2,(decide_eq_true ha1),trivial⟩⟩
  ·replace h:=Qm h ha4
   obtain ⟨ha5,h⟩:=Qi h
   replace h:=Option.some.inj h
   subst h
   exact ⟨100,16,[.br true,.ret (.tup [.agg [I ta3.1,I ta3.2.1],B ta3.2.2]),.br false,.no],[],[1,4,5,19,20],[0],Qk (ob:=[Qa (sa.2.2+1),ta3.2.2=false,Computes cx 49 [.agg [I a0,I a1,I a2,I a3,I a4,I a5,.lst false 3 a6,I a7,I a8],I (a0+sa.2.2)] (.tup [.agg [I ta3.1,I ta3.2.1],B ta3.2.2]),Qa (a0+sa.2.2),(decide (sa.2.2 < ((a1 - a0)+1)))=true]) (by kernel_rfl) ⟨ha5,(QI ha4),(ZB ha3),ha2,(decide_eq_true ha1),trivial⟩⟩
 ·replace h:=Qm h ha1
  replace h:=Option.some.inj h
  subst h
  exact ⟨⟨100,16,[.br false],[],[4,5],[],Qk (ob:=[(decide (sa.2.2 < ((a1 - a0)+1)))=false]) (by kernel_rfl) ⟨(decide_eq_false ha1),trivial⟩⟩,nofun⟩
def Wu (n:Nat) (a0 a1 a2 a3 a4 a5:Int) (a6:List D) (a7 a8:Int):Option (Int×Int) :=
 if Qa (a1 - a0) then
 if Qa ((a1 - a0)+1) then
 (Q2 (ZY n a0 a1 a2 a3 a4 a5 a6 a7 a8) n (0,false,0)).bind fun t3 =>
 (QF n (!t3.2) 18).bind fun t4 =>
 some (t3.1,t4)
 else none
 else none
theorem Ja {n:Nat} {a0 a1 a2 a3 a4 a5:Int} {a6:List D} {a7 a8:Int} {r:Int×Int} (h:Wu n a0 a1 a2 a3 a4 a5 a6 a7 a8=some r):Computes cx 48 [.agg [I a0,I a1,I a2,I a3,I a4,I a5,.lst false 3 a6,I a7,I a8]] (.tup [I r.1,I r.2]):=by
 unfold Wu at h
 obtain ⟨h1,h⟩:=Qi h
 obtain ⟨h2,h⟩:=Qi h
 obtain ⟨t3,h3,h⟩:=Qg h
 obtain ⟨t4,h4,h⟩:=Qg h
 replace h:=Option.some.inj h
 subst h
 exact run (n:=100) (f:=48) (args:=[.agg [I a0,I a1,I a2,I a3,I a4,I a5,.lst false 3 a6,I a7,I a8]]) (orc:=[.lp [] [1,4,5,19,20] [0] (.exit 0) [(4,.d (I t3.1)),(5,.d (B t3.2))] [] 73,.ret (I t4)]) (r:=.tup [I t3.1,I t4]) (ob:=[Computes cx 39 [B (!t3.2),I 18] (I t4),QV cx (Qu cx.P 48 0) 63 0 false [(1,.ptr 0 0 0 0 0),(4,.d (I 0)),(5,.d (B false)),(19,.d (I ((a1 - a0)+1))),(20,.d (I 0))] [(0,.box (.d (.agg [I a0,I a1,I a2,I a3,I a4,I a5,.lst false 3 a6,I a7,I a8])))] (.exit 0) [(4,.d (I t3.1)),(5,.d (B t3.2))] [],Qa ((a1 - a0)+1),Qa (a1 - a0)]) (by kernel_rfl) ⟨(Qq h4),(Qv UZ h3),h2,h1,trivial⟩
def WV (n:Nat) (a0 a1 a2 a3 a4 a5:Int) (a6:List D) (a7 a8:Int):Option (Int×Int) :=
 (Z2 n a0 a1 a2 a3 a4 a5 a6 a7 a8).bind fun t1 =>
 if t1=0 then
  (Wu n a0 a1 a2 a3 a4 a5 a6 a7 a8).bind fun t3 =>
  some (t3.1,t3.2)
 else
 some (0,t1)
theorem Kf {n:Nat} {a0 a1 a2 a3 a4 a5:Int} {a6:List D} {a7 a8:Int} {r:Int×Int} (h:WV n a0 a1 a2 a3 a4 a5 a6 a7 a8=some r):Computes cx 23 [.agg [I a0,I a1,I a2],.agg [I a3,I a4,I a5],.lst false 3 a6,.agg [I a7,I a8]] (.tup [I r.1,I r.2]):=by
 unfold WV at h
 obtain ⟨t1,h1,h⟩:=Qg h
 by_cases h2:t1=0
 ·replace h:=Ql h h2
  obtain ⟨t3,h3,h⟩:=Qg h
  replace h:=Option.some.inj h
  subst h
  exact run (n:=100) (f:=23) (args:=[.agg [I a0,I a1,I a2],.agg [I a3,I a4,I a5],.lst false 3 a6,.agg [I a7,I a8]]) (orc:=[.ret (I t1),.br false,.ret (.tup [I t3.1,I t3.2])]) (r:=.tup [I t3.1,I t3.2]) (ob:=[Computes cx 48 [.agg [I a0,I a1,I a2,I a3,I a4,I a5,.lst false 3 a6,I a7,I a8]] (.tup [I t3.1,I t3.2]),(t1 != 0)=false,Computes cx 47 [.agg [I a0,I a1,I a2,I a3,I a4,I a5,.lst false 3 a6,I a7,I a8]] (I t1)]) (by kernel_rfl) ⟨(Ja h3),(nef h2),(ZE h1),trivial⟩
 ·replace h:=Qm h h2
  replace h:=Option.some.inj h
  subst h
  exact run (n:=100) (f:=23) (args:=[.agg [I a0,I a1,I a2],.agg [I a3,I a4,I a5],.lst false 3 a6,.agg [I a7,I a8]]) (orc:=[.ret (I t1),.br true]) (r:=.tup [I 0,I t1]) (ob:=[(t1 != 0)=true,Computes cx 47 [.agg [I a0,I a1,I a2,I a3,I a4,I a5,.lst false 3 a6,I a7,I a8]] (I t1)]) (by kernel_rfl) ⟨(net h2),(ZE h1),trivial⟩
def Ww (n:Nat) (a0 a1 a2 a3 a4 a5:Int) (a6:List D) (a7 a8 a9:Int):Option (Int×Int×Int) :=
 (Z2 n a0 a1 a2 a3 a4 a5 a6 a7 a8).bind fun t1 =>
 (Qy n a9 a0 a1).bind fun t2 =>
 (Qr n ([I t1,I t2])).bind fun t3 =>
 if t3=0 then
  (Wz n a0 a1 a2 a3 a4 a5 a6 a7 a8 a9).bind fun t5 =>
  if t5.2.2=true then
   some (t5.1,t5.2.1,0)
  else
  some (0,0,19)
 else
 some (0,0,t3)
theorem Jb {n:Nat} {a0 a1 a2 a3 a4 a5:Int} {a6:List D} {a7 a8 a9:Int} {r:Int×Int×Int} (h:Ww n a0 a1 a2 a3 a4 a5 a6 a7 a8 a9=some r):Computes cx 24 [.agg [I a0,I a1,I a2],.agg [I a3,I a4,I a5],.lst false 3 a6,.agg [I a7,I a8],I a9] (.tup [.agg [I r.1,I r.2.1],I r.2.2]):=by
 unfold Ww at h
 obtain ⟨t1,h1,h⟩:=Qg h
 obtain ⟨t2,h2,h⟩:=Qg h
 obtain ⟨t3,h3,h⟩:=Qg h
 by_cases h4:t3=0
 ·replace h:=Ql h h4
  obtain ⟨t5,h5,h⟩:=Qg h
  by_cases h6:t5.2.2=true
  ·replace h:=Ql h h6
   replace h:=Option.some.inj h
   subst h
   exact run (n:=100) (f:=24) (args:=[.agg [I a0,I a1,I a2],.agg [I a3,I a4,I a5],.lst false 3 a6,.agg [I a7,I a8],I a9]) (orc:=[.ret (I t1),.ret (I t2),.ret (I t3),.br false,.ret (.tup [.agg [I t5.1,I t5.2.1],B t5.2.2]),.br false]) (r:=.tup [.agg [I t5.1,I t5.2.1],I 0]) (ob:=[(!t5.2.2)=false,Computes cx 49 [.agg [I a0,I a1,I a2,I a3,I a4,I a5,.lst false 3 a6,I a7,I a8],I a9] (.tup [.agg [I t5.1,I t5.2.1],B t5.2.2]),(t3 != 0)=false,Computes cx 29 [.lst true 1 [I t1,I t2]] (I t3),Computes cx 32 [I a9,I a0,I a1] (I t2),Computes cx 47 [.agg [I a0,I a1,I a2,I a3,I a4,I a5,.lst false 3 a6,I a7,I a8]] (I t1)]) (by kernel_rfl) ⟨(U7 h6),(ZB h5),(nef h4),((Qj h3).le (.cons (.full _ _ _) (.nil)) (.refl _)),(Qb h2),(ZE h1),trivial⟩
  ·replace h:=Qm h h6
   replace h:=Option.some.inj h
   subst h
   exact run (n:=100) (f:=24) (args:=[.agg [I a0,I a1,I a2],.agg [I a3,I a4,I a5],.lst false 3 a6,.agg [I a7,I a8],I a9]) (orc:=[.ret (I t1),.ret (I t2),.ret (I t3),.br false,.ret (.tup [.agg [I t5.1,I t5.2.1],B t5.2.2]),.br true]) (r:=.tup [.agg [I 0,I 0],I 19]) (ob:=[(!t5.2.2)=true,Computes cx 49 [.agg [I a0,I a1,I a2,I a3,I a4,I a5,.lst false 3 a6,I a7,I a8],I a9] (.tup [.agg [I t5.1,I t5.2.1],B t5.2.2]),(t3 != 0)=false,Computes cx 29 [.lst true 1 [I t1,I t2]] (I t3),Computes cx 32 [I a9,I a0,I a1] (I t2),Computes cx 47 [.agg [I a0,I a1,I a2,I a3,I a4,I a5,.lst false 3 a6,I a7,I a8]] (I t1)]) (by kernel_rfl) ⟨(jV (QI h6)),(ZB h5),(nef h4),((Qj h3).le (.cons (.full _ _ _) (.nil)) (.refl _)),(Qb h2),(ZE h1),trivial⟩
 ·replace h:=Qm h h4
  replace h:=Option.some.inj h
  subst h
  exact run (n:=100) (f:=24) (args:=[.agg [I a0,I a1,I a2],.agg [I a3,I a4,I a5],.lst false 3 a6,.agg [I a7,I a8],I a9]) (orc:=[.ret (I t1),.ret (I t2),.ret (I t3),.br true]) (r:=.tup [.agg [I 0,I 0],I t3]) (ob:=[(t3 != 0)=true,Computes cx 29 [.lst true 1 [I t1,I t2]] (I t3),Computes cx 32 [I a9,I a0,I a1] (I t2),Computes cx 47 [.agg [I a0,I a1,I a2,I a3,I a4,I a5,.lst false 3 a6,I a7,I a8]] (I t1)]) (by kernel_rfl) ⟨(net h4),((Qj h3).le (.cons (.full _ _ _) (.nil)) (.refl _)),(Qb h2),(ZE h1),trivial⟩
def Zo (n:Nat) (a0:Int):Option (Int) :=
 (Qy n a0 (-1000) 1000).bind fun t1 =>
 some t1
theorem QE {n:Nat} {a0:Int} {r:Int} (h:Zo n a0=some r):Computes cx 50 [I a0] (I r):=by
 unfold Zo at h
 obtain ⟨t1,h1,h⟩:=Qg h
 replace h:=Option.some.inj h
 subst h
 exact run (n:=100) (f:=50) (args:=[I a0]) (orc:=[.ret (I t1)]) (r:=I t1) (ob:=[Computes cx 32 [I a0,I (-1000),I 1000] (I t1)]) (by kernel_rfl) ⟨(Qb h1),trivial⟩
def Vi (n:Nat) (a0 a1 a2 a3 a4 a5:Int) (sa:(Unit)⊕(Int×Int×List D)):Option (((Unit)⊕(Int×Int×List D))⊕((Unit)⊕(List D))):=match sa with
 | (.inl sa)=>(
  if ((a0 == a2) && ((a1 == a3) && true))=true then
   some (.inr (.inl ()))
  else
  if Qa (a2 - a0) then
  if Qa (a0+(VU (IntKind.wrap .i64 (0 - a4)) (Yw a4 (a2 - a0)))) then
  if Qa (a3 - a1) then
  if Qa (a1+(VU (IntKind.wrap .i64 (0 - a5)) (Yw a5 (a3 - a1)))) then
  some (.inl (.inr ((a0+(VU (IntKind.wrap .i64 (0 - a4)) (Yw a4 (a2 - a0)))),(a1+(VU (IntKind.wrap .i64 (0 - a5)) (Yw a5 (a3 - a1)))),[.agg [I a0,I a1],.agg [I (a0+(VU (IntKind.wrap .i64 (0 - a4)) (Yw a4 (a2 - a0)))),I (a1+(VU (IntKind.wrap .i64 (0 - a5)) (Yw a5 (a3 - a1))))]])))
  else none
  else none
  else none
  else none)
 | (.inr sa)=>(
  if ((sa.1 == a2) && ((sa.2.1 == a3) && true))=true then
   some (.inr (.inr sa.2.2))
  else
  if Qa (a2 - sa.1) then
  if Qa (sa.1+(VU (IntKind.wrap .i64 (0 - a4)) (Yw a4 (a2 - sa.1)))) then
  if Qa (a3 - sa.2.1) then
  if Qa (sa.2.1+(VU (IntKind.wrap .i64 (0 - a5)) (Yw a5 (a3 - sa.2.1)))) then
  if ZZ 16 ((sa.2.2).length+1) then
  some (.inl (.inr ((sa.1+(VU (IntKind.wrap .i64 (0 - a4)) (Yw a4 (a2 - sa.1)))),(sa.2.1+(VU (IntKind.wrap .i64 (0 - a5)) (Yw a5 (a3 - sa.2.1)))),(sa.2.2++([.agg [I (sa.1+(VU (IntKind.wrap .i64 (0 - a4)) (Yw a4 (a2 - sa.1)))),I (sa.2.1+(VU (IntKind.wrap .i64 (0 - a5)) (Yw a5 (a3 - sa.2.1))))]]:List D)))))
  else none
  else none
  else none
  else none
  else none)
noncomputable def XM (a0 a1 a2 a3 a4 a5:Int) (sa:(Unit)⊕(Int×Int×List D)):List (Nat×AV):=match sa with
 | (.inl sa)=>[(4,.ptr 1 0 0 0 0),(5,.ptr 2 0 0 0 0),(10,.ptr 34 0 0 0 0),(11,.own 39 0)]
 | (.inr sa)=>[(4,.ptr 1 0 0 0 0),(5,.ptr 2 0 0 0 0),(10,.ptr 34 0 0 0 0),(11,.own 39 0)]
noncomputable def XP (a0 a1 a2 a3 a4 a5:Int) (sa:(Unit)⊕(Int×Int×List D)):List (Nat×Blk):=match sa with
 | (.inl sa)=>[(1,.box (.d (.agg [I a2,I a3]))),(2,.box (.d (.agg [I a4,I a5]))),(34,.box (.d (.agg [I a0,I a1]))),(39,.virt 0 2 [.agg [I a0,I a1]])]
 | (.inr sa)=>[(1,.box (.d (.agg [I a2,I a3]))),(2,.box (.d (.agg [I a4,I a5]))),(34,.box (.d (.agg [I sa.1,I sa.2.1]))),(39,.row 0 2 sa.2.2)]
noncomputable def XG (a0 a1 a2 a3 a4 a5:Int) (e:(Unit)⊕(List D)):Ex:=match e with
 | (.inl e)=>(.exit 0)
 | (.inr e)=>(.exit 0)
noncomputable def GE (a0 a1 a2 a3 a4 a5:Int) (e:(Unit)⊕(List D)):List (Nat×AV):=match e with
 | (.inl e)=>[(11,.own 39 0)]
 | (.inr e)=>[(11,.own 39 0)]
noncomputable def GH (a0 a1 a2 a3 a4 a5:Int) (e:(Unit)⊕(List D)):List (Nat×Blk):=match e with
 | (.inl e)=>[(39,.virt 0 2 [.agg [I a0,I a1]])]
 | (.inr e)=>[(39,.row 0 2 e)]
theorem Uo {n:Nat} {a0 a1 a2 a3 a4 a5:Int} (sa:(Unit)⊕(Int×Int×List D)) (r) (h:Vi n a0 a1 a2 a3 a4 a5 sa=some r):Rd cx (Qu cx.P 25 0) 79 0 false (XM a0 a1 a2 a3 a4 a5) (XP a0 a1 a2 a3 a4 a5) (XG a0 a1 a2 a3 a4 a5) (GE a0 a1 a2 a3 a4 a5) (GH a0 a1 a2 a3 a4 a5) sa r:=by
 unfold Vi at h
 rcases sa with sa | sa
 ·by_cases ha1:((a0 == a2) && ((a1 == a3) && true))=true
  ·replace h:=Ql h ha1
   replace h:=Option.some.inj h
   subst h
   exact ⟨⟨100,40,[.br false],[],[11],[39],Qk (ob:=[(!((a0 == a2) && ((a1 == a3) && true)))=false]) (by kernel_rfl) ⟨(U7 ha1),trivial⟩⟩,nofun⟩
  ·replace h:=Qm h ha1
   obtain ⟨ha2,h⟩:=Qi h
   obtain ⟨ha3,h⟩:=Qi h
   obtain ⟨ha4,h⟩:=Qi h
   obtain ⟨ha5,h⟩:=Qi h
   replace h:=Option.some.inj h
   subst h
   exact ⟨100,40,[.br true,.no,.no,.no,.no,.no,.no,.no,.no],[],[4,5,10,11],[1,2,34,39],Qk (ob:=[Qa 2,Qa (a1+(VU (IntKind.wrap .i64 (0 - a5)) (Yw a5 (a3 - a1)))),Qa (a3 - a1),Qa 1,Qa (a0+(VU (IntKind.wrap .i64 (0 - a4)) (Yw a4 (a2 - a0)))),Qa (a2 - a0),(!((a0 == a2) && ((a1 == a3) && true)))=true]) (by kernel_rfl) ⟨(by unfold Qa;omega),ha5,ha4,(by unfold Qa;omega),ha3,ha2,(jV (QI ha1)),trivial⟩⟩
 ·by_cases ha1:((sa.1 == a2) && ((sa.2.1 == a3) && true))=true
  ·replace h:=Ql h ha1
   replace h:=Option.some.inj h
   subst h
   exact ⟨⟨100,40,[.br false],[],[11],[39],Qk (ob:=[(!((sa.1 == a2) && ((sa.2.1 == a3) && true)))=false]) (by kernel_rfl) ⟨(U7 ha1),trivial⟩⟩,nofun⟩
  ·replace h:=Qm h ha1
   obtain ⟨ha2,h⟩:=Qi h
   obtain ⟨ha3,h⟩:=Qi h
   obtain ⟨ha4,h⟩:=Qi h
   obtain ⟨ha5,h⟩:=Qi h
   obtain ⟨ha6,h⟩:=Qi h
   replace h:=Option.some.inj h
   subst h
   exact ⟨100,40,[.br true,.no,.no,.no,.no,.no,.no,.br true],[],[4,5,10,11],[1,2,34,39],Qk (ob:=[room cx 71 ((sa.2.2).length+1),Qa 2,Qa (sa.2.1+(VU (IntKind.wrap .i64 (0 - a5)) (Yw a5 (a3 - sa.2.1)))),Qa (a3 - sa.2.1),Qa 1,Qa (sa.1+(VU (IntKind.wrap .i64 (0 - a4)) (Yw a4 (a2 - sa.1)))),Qa (a2 - sa.1),(!((sa.1 == a2) && ((sa.2.1 == a3) && true)))=true]) (by kernel_rfl) ⟨(Zp (b:=16) (by kernel_rfl) (by decide) ha6),(by unfold Qa;omega),ha5,ha4,(by unfold Qa;omega),ha3,ha2,(jV (QI ha1)),trivial⟩⟩
def Yz (n:Nat) (a0 a1 a2 a3 a4 a5:Int):Option (List D×Int) :=
 (Zo n a0).bind fun t1 =>
 (Zo n a1).bind fun t2 =>
 (Zo n a2).bind fun t3 =>
 (Zo n a3).bind fun t4 =>
 (Qy n a4 1 100).bind fun t5 =>
 (Qy n a5 1 100).bind fun t6 =>
 (Qr n ([I t1,I t2,I t3,I t4,I t5,I t6])).bind fun t7 =>
 if t7=0 then
  (Q2 (Vi n a0 a1 a2 a3 a4 a5) n (.inl ())).bind fun t9=>match t9 with
   | (.inl t9)=>(
    some ([.agg [I a0,I a1]],0))
   | (.inr t9)=>(
    some (t9,0))
 else
 some ([],t7)
theorem zm {n:Nat} {a0 a1 a2 a3 a4 a5:Int} {r:List D×Int} (h:Yz n a0 a1 a2 a3 a4 a5=some r):Computes cx 25 [.agg [I a0,I a1],.agg [I a2,I a3],.agg [I a4,I a5]] (.tup [.lst false 2 r.1,I r.2]):=by
 unfold Yz at h
 obtain ⟨t1,h1,h⟩:=Qg h
 obtain ⟨t2,h2,h⟩:=Qg h
 obtain ⟨t3,h3,h⟩:=Qg h
 obtain ⟨t4,h4,h⟩:=Qg h
 obtain ⟨t5,h5,h⟩:=Qg h
 obtain ⟨t6,h6,h⟩:=Qg h
 obtain ⟨t7,h7,h⟩:=Qg h
 by_cases h8:t7=0
 ·replace h:=Ql h h8
  obtain ⟨t9,h9,h⟩:=Qg h
  rcases t9 with t9 | t9
  ·replace h:=Option.some.inj h
   subst h
   exact (run (n:=100) (f:=25) (args:=[.agg [I a0,I a1],.agg [I a2,I a3],.agg [I a4,I a5]]) (orc:=[.ret (I t1),.ret (I t2),.ret (I t3),.ret (I t4),.ret (I t5),.ret (I t6),.ret (I t7),.br false,.lp [11,0] [4,5,10,11] [1,2,34,39] (.exit 0) [(11,.own 39 0)] [(39,.virt 0 2 [.agg [I a0,I a1]])] 120]) (r:=.tup [.lst true 2 [.agg [I a0,I a1]],I 0]) (ob:=[QV cx (Qu cx.P 25 0) 79 0 false [(4,.ptr 1 0 0 0 0),(5,.ptr 2 0 0 0 0),(10,.ptr 34 0 0 0 0),(11,.own 39 0)] [(1,.box (.d (.agg [I a2,I a3]))),(2,.box (.d (.agg [I a4,I a5]))),(34,.box (.d (.agg [I a0,I a1]))),(39,.virt 0 2 [.agg [I a0,I a1]])] (.exit 0) [(11,.own 39 0)] [(39,.virt 0 2 [.agg [I a0,I a1]])],(t7 != 0)=false,Computes cx 29 [.lst true 1 [I t1,I t2,I t3,I t4,I t5,I t6]] (I t7),Computes cx 32 [I a5,I 1,I 100] (I t6),Computes cx 32 [I a4,I 1,I 100] (I t5),Computes cx 50 [I a3] (I t4),Computes cx 50 [I a2] (I t3),Computes cx 50 [I a1] (I t2),Computes cx 50 [I a0] (I t1)]) (by kernel_rfl) ⟨(Qv Uo h9),(nef h8),((Qj h7).le (.cons (.full _ _ _) (.nil)) (.refl _)),(Qb h6),(Qb h5),(QE h4),(QE h3),(QE h2),(QE h1),trivial⟩).le (LEs.refl _) (.tups (.cons (.full _ _ _) (.cons (.refl _) (.nil))))
  ·replace h:=Option.some.inj h
   subst h
   exact run (n:=100) (f:=25) (args:=[.agg [I a0,I a1],.agg [I a2,I a3],.agg [I a4,I a5]]) (orc:=[.ret (I t1),.ret (I t2),.ret (I t3),.ret (I t4),.ret (I t5),.ret (I t6),.ret (I t7),.br false,.lp [11,0] [4,5,10,11] [1,2,34,39] (.exit 0) [(11,.own 39 0)] [(39,.row 0 2 t9)] 120]) (r:=.tup [.lst false 2 t9,I 0]) (ob:=[QV cx (Qu cx.P 25 0) 79 0 false [(4,.ptr 1 0 0 0 0),(5,.ptr 2 0 0 0 0),(10,.ptr 34 0 0 0 0),(11,.own 39 0)] [(1,.box (.d (.agg [I a2,I a3]))),(2,.box (.d (.agg [I a4,I a5]))),(34,.box (.d (.agg [I a0,I a1]))),(39,.virt 0 2 [.agg [I a0,I a1]])] (.exit 0) [(11,.own 39 0)] [(39,.row 0 2 t9)],(t7 != 0)=false,Computes cx 29 [.lst true 1 [I t1,I t2,I t3,I t4,I t5,I t6]] (I t7),Computes cx 32 [I a5,I 1,I 100] (I t6),Computes cx 32 [I a4,I 1,I 100] (I t5),Computes cx 50 [I a3] (I t4),Computes cx 50 [I a2] (I t3),Computes cx 50 [I a1] (I t2),Computes cx 50 [I a0] (I t1)]) (by kernel_rfl) ⟨(Qv Uo h9),(nef h8),((Qj h7).le (.cons (.full _ _ _) (.nil)) (.refl _)),(Qb h6),(Qb h5),(QE h4),(QE h3),(QE h2),(QE h1),trivial⟩
 ·replace h:=Qm h h8
  replace h:=Option.some.inj h
  subst h
  exact (run (n:=100) (f:=25) (args:=[.agg [I a0,I a1],.agg [I a2,I a3],.agg [I a4,I a5]]) (orc:=[.ret (I t1),.ret (I t2),.ret (I t3),.ret (I t4),.ret (I t5),.ret (I t6),.ret (I t7),.br true]) (r:=.tup [.lst true 0 [],I t7]) (ob:=[(t7 != 0)=true,Computes cx 29 [.lst true 1 [I t1,I t2,I t3,I t4,I t5,I t6]] (I t7),Computes cx 32 [I a5,I 1,I 100] (I t6),Computes cx 32 [I a4,I 1,I 100] (I t5),Computes cx 50 [I a3] (I t4),Computes cx 50 [I a2] (I t3),Computes cx 50 [I a1] (I t2),Computes cx 50 [I a0] (I t1)]) (by kernel_rfl) ⟨(net h8),((Qj h7).le (.cons (.full _ _ _) (.nil)) (.refl _)),(Qb h6),(Qb h5),(QE h4),(QE h3),(QE h2),(QE h1),trivial⟩).le (LEs.refl _) (.tups (.cons (.nilF) (.cons (.refl _) (.nil))))
def VI (n:Nat)  : Option (Int) :=
 some 2
theorem EB {n:Nat}  {r:Int} (h:VI n =some r):Computes cx 92 [.v (.int .u64 3)] (I r):=by
 unfold VI at h
 replace h:=Option.some.inj h
 subst h
 exact run (n:=100) (f:=92) (args:=[.v (.int .u64 3)]) (orc:=[.no,.no,.no,.no]) (r:=I 2) (ob:=[Qa 2]) (by kernel_rfl) ⟨(by unfold Qa;omega),trivial⟩
def Yy (n:Nat)  : Option (Int) :=
 (VI n).bind fun t1 =>
 some t1
theorem Qo {n:Nat}  {r:Int} (h:Yy n =some r):Computes cx 72 [.v (.int .u64 3)] (I r):=by
 unfold Yy at h
 obtain ⟨t1,h1,h⟩:=Qg h
 replace h:=Option.some.inj h
 subst h
 exact run (n:=100) (f:=72) (args:=[.v (.int .u64 3)]) (orc:=[.no,.ret (I t1)]) (r:=I t1) (ob:=[Computes cx 92 [.v (.int .u64 3)] (I t1)]) (by kernel_rfl) ⟨(EB h1),trivial⟩
def Zb (n:Nat) (a0 a1 a2 a3:Int):Option (Int) :=
 if Qa (a0 - a2) then
 some (a0 - a2)
 else none
theorem Qe {n:Nat} {a0 a1 a2 a3:Int} {r:Int} (h:Zb n a0 a1 a2 a3=some r):Computes cx 52 [.agg [I a0,I a1],.agg [I a2,I a3]] (I r):=by
 unfold Zb at h
 obtain ⟨h1,h⟩:=Qi h
 replace h:=Option.some.inj h
 subst h
 exact run (n:=100) (f:=52) (args:=[.agg [I a0,I a1],.agg [I a2,I a3]]) (orc:=[]) (r:=I (a0 - a2)) (ob:=[Qa (a0 - a2)]) (by kernel_rfl) ⟨h1,trivial⟩
theorem Eo (a0:Int) (a1:Int) (a2:Int) (a3:Int) (t1:Int) (t3:Int) (t5:Int) (t7:Int) (t9:Int) (t10:Int) (t12:Int) (t14:Int):Zu true 100 cx 26 [.agg [I a0,I a1,I a2],I a3] [.no,.no,.ret (I t1),.br false,.no,.no,.no,.no,.ret (I t3),.br false,.no,.no,.no,.ret (I t5),.br false,.no,.no,.no,.ret (I t7),.br false,.br true,.ret (I t9),.br true,.no,.no,.br true,.no,.no,.no,.no,.no,.no,.no,.no,.ret (I t10),.br true,.no,.no,.no,.no,.no,.no,.no,.no,.no,.no,.no,.no,.no,.no,.no,.no,.no,.no,.no,.ret (I t12),.br true,.no,.no,.no,.no,.no,.no,.no,.no,.no,.no,.no,.no,.no,.no,.ret (I t14),.br true,.no,.no,.no,.no,.no,.no,.no,.no,.no,.no,.no,.no,.no,.no,.no,.no,.no,.no,.no,.no,.no,.br true,.br true,.no,.no]=some (.tup [I a1,I (-1),I 0],[(decide ((a0 - a1)≤a3))=true,(decide ((a1 - a2)≤a3))=true,Qa (a0 - a1),Qa (a1 - a2),Qa 3,Qa 0,Qa 0,Qa 0,(decide (t14 < 0))=true,Computes cx 52 [.agg [I a2,I 2],.agg [I a1,I 1]] (I t14),Qa 0,Qa 1,Qa 1,Qa 1,(decide (t12 < 0))=true,Computes cx 52 [.agg [I a2,I 2],.agg [I a0,I 0]] (I t12),Qa 1,Qa 2,Qa 0,Qa 0,Qa 0,(decide (t10 < 0))=true,Computes cx 52 [.agg [I a1,I 1],.agg [I a0,I 0]] (I t10),Qa 0,Qa 1,Qa 3,Computes cx 72 [.v (.int .u64 3)] (I t9),(t7 != 0)=false,Computes cx 32 [I a3,I 0,I 1000] (I t7),Qa 3,(t5 != 0)=false,Computes cx 32 [I a2,I (-1000),I 1000] (I t5),Qa 2,(t3 != 0)=false,Computes cx 32 [I a1,I (-1000),I 1000] (I t3),Qa 1,(t1 != 0)=false,Computes cx 32 [I a0,I (-1000),I 1000] (I t1)]):=by kernel_rfl
theorem En (a0:Int) (a1:Int) (a2:Int) (a3:Int) (t1:Int) (t3:Int) (t5:Int) (t7:Int) (t9:Int) (t10:Int) (t12:Int) (t14:Int):Zu true 100 cx 26 [.agg [I a0,I a1,I a2],I a3] [.no,.no,.ret (I t1),.br false,.no,.no,.no,.no,.ret (I t3),.br false,.no,.no,.no,.ret (I t5),.br false,.no,.no,.no,.ret (I t7),.br false,.br true,.ret (I t9),.br true,.no,.no,.br true,.no,.no,.no,.no,.no,.no,.no,.no,.ret (I t10),.br true,.no,.no,.no,.no,.no,.no,.no,.no,.no,.no,.no,.no,.no,.no,.no,.no,.no,.no,.no,.ret (I t12),.br true,.no,.no,.no,.no,.no,.no,.no,.no,.no,.no,.no,.no,.no,.no,.ret (I t14),.br true,.no,.no,.no,.no,.no,.no,.no,.no,.no,.no,.no,.no,.no,.no,.no,.no,.no,.no,.no,.no,.no,.br true,.br false,.br true,.no,.no,.no,.no]=some (.tup [I a1,I 0,I 0],[(decide ((a1 - a2)≤a3))=true,(decide ((a0 - a1)≤a3))=false,(decide ((a1 - a2)≤a3))=true,Qa (a0 - a1),Qa (a1 - a2),Qa 3,Qa 0,Qa 0,Qa 0,(decide (t14 < 0))=true,Computes cx 52 [.agg [I a2,I 2],.agg [I a1,I 1]] (I t14),Qa 0,Qa 1,Qa 1,Qa 1,(decide (t12 < 0))=true,Computes cx 52 [.agg [I a2,I 2],.agg [I a0,I 0]] (I t12),Qa 1,Qa 2,Qa 0,Qa 0,Qa 0,(decide (t10 < 0))=true,Computes cx 52 [.agg [I a1,I 1],.agg [I a0,I 0]] (I t10),Qa 0,Qa 1,Qa 3,Computes cx 72 [.v (.int .u64 3)] (I t9),(t7 != 0)=false,Computes cx 32 [I a3,I 0,I 1000] (I t7),Qa 3,(t5 != 0)=false,Computes cx 32 [I a2,I (-1000),I 1000] (I t5),Qa 2,(t3 != 0)=false,Computes cx 32 [I a1,I (-1000),I 1000] (I t3),Qa 1,(t1 != 0)=false,Computes cx 32 [I a0,I (-1000),I 1000] (I t1)]):=by kernel_rfl
theorem Em (a0:Int) (a1:Int) (a2:Int) (a3:Int) (t1:Int) (t3:Int) (t5:Int) (t7:Int) (t9:Int) (t10:Int) (t12:Int) (t14:Int):Zu true 100 cx 26 [.agg [I a0,I a1,I a2],I a3] [.no,.no,.ret (I t1),.br false,.no,.no,.no,.no,.ret (I t3),.br false,.no,.no,.no,.ret (I t5),.br false,.no,.no,.no,.ret (I t7),.br false,.br true,.ret (I t9),.br true,.no,.no,.br true,.no,.no,.no,.no,.no,.no,.no,.no,.ret (I t10),.br true,.no,.no,.no,.no,.no,.no,.no,.no,.no,.no,.no,.no,.no,.no,.no,.no,.no,.no,.no,.ret (I t12),.br true,.no,.no,.no,.no,.no,.no,.no,.no,.no,.no,.no,.no,.no,.no,.ret (I t14),.br true,.no,.no,.no,.no,.no,.no,.no,.no,.no,.no,.no,.no,.no,.no,.no,.no,.no,.no,.no,.no,.no,.br false,.no,.br false,.br true,.no,.no,.no,.no]=some (.tup [I a1,I 2,I 0],[(decide ((a0 - a1)≤a3))=true,(decide ((a1 - a2)≤a3))=false,(decide ((a1 - a2)≤a3))=false,Qa (a0 - a1),Qa (a1 - a2),Qa 3,Qa 0,Qa 0,Qa 0,(decide (t14 < 0))=true,Computes cx 52 [.agg [I a2,I 2],.agg [I a1,I 1]] (I t14),Qa 0,Qa 1,Qa 1,Qa 1,(decide (t12 < 0))=true,Computes cx 52 [.agg [I a2,I 2],.agg [I a0,I 0]] (I t12),Qa 1,Qa 2,Qa 0,Qa 0,Qa 0,(decide (t10 < 0))=true,Computes cx 52 [.agg [I a1,I 1],.agg [I a0,I 0]] (I t10),Qa 0,Qa 1,Qa 3,Computes cx 72 [.v (.int .u64 3)] (I t9),(t7 != 0)=false,Computes cx 32 [I a3,I 0,I 1000] (I t7),Qa 3,(t5 != 0)=false,Computes cx 32 [I a2,I (-1000),I 1000] (I t5),Qa 2,(t3 != 0)=false,Computes cx 32 [I a1,I (-1000),I 1000] (I t3),Qa 1,(t1 != 0)=false,Computes cx 32 [I a0,I (-1000),I 1000] (I t1)]):=by kernel_rfl
theorem El (a0:Int) (a1:Int) (a2:Int) (a3:Int) (t1:Int) (t3:Int) (t5:Int) (t7:Int) (t9:Int) (t10:Int) (t12:Int) (t14:Int):Zu true 100 cx 26 [.agg [I a0,I a1,I a2],I a3] [.no,.no,.ret (I t1),.br false,.no,.no,.no,.no,.ret (I t3),.br false,.no,.no,.no,.ret (I t5),.br false,.no,.no,.no,.ret (I t7),.br false,.br true,.ret (I t9),.br true,.no,.no,.br true,.no,.no,.no,.no,.no,.no,.no,.no,.ret (I t10),.br true,.no,.no,.no,.no,.no,.no,.no,.no,.no,.no,.no,.no,.no,.no,.no,.no,.no,.no,.no,.ret (I t12),.br true,.no,.no,.no,.no,.no,.no,.no,.no,.no,.no,.no,.no,.no,.no,.ret (I t14),.br true,.no,.no,.no,.no,.no,.no,.no,.no,.no,.no,.no,.no,.no,.no,.no,.no,.no,.no,.no,.no,.no,.br false,.no,.br false,.br false]=some (.tup [I 0,I 0,I 7],[(decide ((a0 - a1)≤a3))=false,(decide ((a1 - a2)≤a3))=false,(decide ((a1 - a2)≤a3))=false,Qa (a0 - a1),Qa (a1 - a2),Qa 3,Qa 0,Qa 0,Qa 0,(decide (t14 < 0))=true,Computes cx 52 [.agg [I a2,I 2],.agg [I a1,I 1]] (I t14),Qa 0,Qa 1,Qa 1,Qa 1,(decide (t12 < 0))=true,Computes cx 52 [.agg [I a2,I 2],.agg [I a0,I 0]] (I t12),Qa 1,Qa 2,Qa 0,Qa 0,Qa 0,(decide (t10 < 0))=true,Computes cx 52 [.agg [I a1,I 1],.agg [I a0,I 0]] (I t10),Qa 0,Qa 1,Qa 3,Computes cx 72 [.v (.int .u64 3)] (I t9),(t7 != 0)=false,Computes cx 32 [I a3,I 0,I 1000] (I t7),Qa 3,(t5 != 0)=false,Computes cx 32 [I a2,I (-1000),I 1000] (I t5),Qa 2,(t3 != 0)=false,Computes cx 32 [I a1,I (-1000),I 1000] (I t3),Qa 1,(t1 != 0)=false,Computes cx 32 [I a0,I (-1000),I 1000] (I t1)]):=by kernel_rfl
theorem Ek (a0:Int) (a1:Int) (a2:Int) (a3:Int) (t1:Int) (t3:Int) (t5:Int) (t7:Int) (t9:Int) (t10:Int) (t12:Int) (t14:Int):Zu true 100 cx 26 [.agg [I a0,I a1,I a2],I a3] [.no,.no,.ret (I t1),.br false,.no,.no,.no,.no,.ret (I t3),.br false,.no,.no,.no,.ret (I t5),.br false,.no,.no,.no,.ret (I t7),.br false,.br true,.ret (I t9),.br true,.no,.no,.br true,.no,.no,.no,.no,.no,.no,.no,.no,.ret (I t10),.br true,.no,.no,.no,.no,.no,.no,.no,.no,.no,.no,.no,.no,.no,.no,.no,.no,.no,.no,.no,.ret (I t12),.br true,.no,.no,.no,.no,.no,.no,.no,.no,.no,.no,.no,.no,.no,.no,.ret (I t14),.br false,.no,.no,.no,.no,.no,.no,.no,.no,.no,.no,.br true,.br true,.no,.no]=some (.tup [I a2,I (-1),I 0],[(decide ((a0 - a2)≤a3))=true,(decide ((a2 - a1)≤a3))=true,Qa (a0 - a2),Qa (a2 - a1),Qa 3,(decide (t14 < 0))=false,Computes cx 52 [.agg [I a2,I 2],.agg [I a1,I 1]] (I t14),Qa 0,Qa 1,Qa 1,Qa 1,(decide (t12 < 0))=true,Computes cx 52 [.agg [I a2,I 2],.agg [I a0,I 0]] (I t12),Qa 1,Qa 2,Qa 0,Qa 0,Qa 0,(decide (t10 < 0))=true,Computes cx 52 [.agg [I a1,I 1],.agg [I a0,I 0]] (I t10),Qa 0,Qa 1,Qa 3,Computes cx 72 [.v (.int .u64 3)] (I t9),(t7 != 0)=false,Computes cx 32 [I a3,I 0,I 1000] (I t7),Qa 3,(t5 != 0)=false,Computes cx 32 [I a2,I (-1000),I 1000] (I t5),Qa 2,(t3 != 0)=false,Computes cx 32 [I a1,I (-1000),I 1000] (I t3),Qa 1,(t1 != 0)=false,Computes cx 32 [I a0,I (-1000),I 1000] (I t1)]):=by kernel_rfl
theorem Ej (a0:Int) (a1:Int) (a2:Int) (a3:Int) (t1:Int) (t3:Int) (t5:Int) (t7:Int) (t9:Int) (t10:Int) (t12:Int) (t14:Int):Zu true 100 cx 26 [.agg [I a0,I a1,I a2],I a3] [.no,.no,.ret (I t1),.br false,.no,.no,.no,.no,.ret (I t3),.br false,.no,.no,.no,.ret (I t5),.br false,.no,.no,.no,.ret (I t7),.br false,.br true,.ret (I t9),.br true,.no,.no,.br true,.no,.no,.no,.no,.no,.no,.no,.no,.ret (I t10),.br true,.no,.no,.no,.no,.no,.no,.no,.no,.no,.no,.no,.no,.no,.no,.no,.no,.no,.no,.no,.ret (I t12),.br true,.no,.no,.no,.no,.no,.no,.no,.no,.no,.no,.no,.no,.no,.no,.ret (I t14),.br false,.no,.no,.no,.no,.no,.no,.no,.no,.no,.no,.br true,.br false,.br true,.no,.no,.no,.no]=some (.tup [I a2,I 0,I 0],[(decide ((a2 - a1)≤a3))=true,(decide ((a0 - a2)≤a3))=false,(decide ((a2 - a1)≤a3))=true,Qa (a0 - a2),Qa (a2 - a1),Qa 3,(decide (t14 < 0))=false,Computes cx 52 [.agg [I a2,I 2],.agg [I a1,I 1]] (I t14),Qa 0,Qa 1,Qa 1,Qa 1,(decide (t12 < 0))=true,Computes cx 52 [.agg [I a2,I 2],.agg [I a0,I 0]] (I t12),Qa 1,Qa 2,Qa 0,Qa 0,Qa 0,(decide (t10 < 0))=true,Computes cx 52 [.agg [I a1,I 1],.agg [I a0,I 0]] (I t10),Qa 0,Qa 1,Qa 3,Computes cx 72 [.v (.int .u64 3)] (I t9),(t7 != 0)=false,Computes cx 32 [I a3,I 0,I 1000] (I t7),Qa 3,(t5 != 0)=false,Computes cx 32 [I a2,I (-1000),I 1000] (I t5),Qa 2,(t3 != 0)=false,Computes cx 32 [I a1,I (-1000),I 1000] (I t3),Qa 1,(t1 != 0)=false,Computes cx 32 [I a0,I (-1000),I 1000] (I t1)]):=by kernel_rfl
theorem Ei (a0:Int) (a1:Int) (a2:Int) (a3:Int) (t1:Int) (t3:Int) (t5:Int) (t7:Int) (t9:Int) (t10:Int) (t12:Int) (t14:Int):Zu true 100 cx 26 [.agg [I a0,I a1,I a2],I a3] [.no,.no,.ret (I t1),.br false,.no,.no,.no,.no,.ret (I t3),.br false,.no,.no,.no,.ret (I t5),.br false,.no,.no,.no,.ret (I t7),.br false,.br true,.ret (I t9),.br true,.no,.no,.br true,.no,.no,.no,.no,.no,.no,.no,.no,.ret (I t10),.br true,.no,.no,.no,.no,.no,.no,.no,.no,.no,.no,.no,.no,.no,.no,.no,.no,.no,.no,.no,.ret (I t12),.br true,.no,.no,.no,.no,.no,.no,.no,.no,.no,.no,.no,.no,.no,.no,.ret (I t14),.br false,.no,.no,.no,.no,.no,.no,.no,.no,.no,.no,.br false,.no,.br false,.br true,.no,.no,.no,.no]=some (.tup [I a2,I 1,I 0],[(decide ((a0 - a2)≤a3))=true,(decide ((a2 - a1)≤a3))=false,(decide ((a2 - a1)≤a3))=false,Qa (a0 - a2),Qa (a2 - a1),Qa 3,(decide (t14 < 0))=false,Computes cx 52 [.agg [I a2,I 2],.agg [I a1,I 1]] (I t14),Qa 0,Qa 1,Qa 1,Qa 1,(decide (t12 < 0))=true,Computes cx 52 [.agg [I a2,I 2],.agg [I a0,I 0]] (I t12),Qa 1,Qa 2,Qa 0,Qa 0,Qa 0,(decide (t10 < 0))=true,Computes cx 52 [.agg [I a1,I 1],.agg [I a0,I 0]] (I t10),Qa 0,Qa 1,Qa 3,Computes cx 72 [.v (.int .u64 3)] (I t9),(t7 != 0)=false,Computes cx 32 [I a3,I 0,I 1000] (I t7),Qa 3,(t5 != 0)=false,Computes cx 32 [I a2,I (-1000),I 1000] (I t5),Qa 2,(t3 != 0)=false,Computes cx 32 [I a1,I (-1000),I 1000] (I t3),Qa 1,(t1 != 0)=false,Computes cx 32 [I a0,I (-1000),I 1000] (I t1)]):=by kernel_rfl
theorem Eh (a0:Int) (a1:Int) (a2:Int) (a3:Int) (t1:Int) (t3:Int) (t5:Int) (t7:Int) (t9:Int) (t10:Int) (t12:Int) (t14:Int):Zu true 100 cx 26 [.agg [I a0,I a1,I a2],I a3] [.no,.no,.ret (I t1),.br false,.no,.no,.no,.no,.ret (I t3),.br false,.no,.no,.no,.ret (I t5),.br false,.no,.no,.no,.ret (I t7),.br false,.br true,.ret (I t9),.br true,.no,.no,.br true,.no,.no,.no,.no,.no,.no,.no,.no,.ret (I t10),.br true,.no,.no,.no,.no,.no,.no,.no,.no,.no,.no,.no,.no,.no,.no,.no,.no,.no,.no,.no,.ret (I t12),.br true,.no,.no,.no,.no,.no,.no,.no,.no,.no,.no,.no,.no,.no,.no,.ret (I t14),.br false,.no,.no,.no,.no,.no,.no,.no,.no,.no,.no,.br false,.no,.br false,.br false]=some (.tup [I 0,I 0,I 7],[(decide ((a0 - a2)≤a3))=false,(decide ((a2 - a1)≤a3))=false,(decide ((a2 - a1)≤a3))=false,Qa (a0 - a2),Qa (a2 - a1),Qa 3,(decide (t14 < 0))=false,Computes cx 52 [.agg [I a2,I 2],.agg [I a1,I 1]] (I t14),Qa 0,Qa 1,Qa 1,Qa 1,(decide (t12 < 0))=true,Computes cx 52 [.agg [I a2,I 2],.agg [I a0,I 0]] (I t12),Qa 1,Qa 2,Qa 0,Qa 0,Qa 0,(decide (t10 < 0))=true,Computes cx 52 [.agg [I a1,I 1],.agg [I a0,I 0]] (I t10),Qa 0,Qa 1,Qa 3,Computes cx 72 [.v (.int .u64 3)] (I t9),(t7 != 0)=false,Computes cx 32 [I a3,I 0,I 1000] (I t7),Qa 3,(t5 != 0)=false,Computes cx 32 [I a2,I (-1000),I 1000] (I t5),Qa 2,(t3 != 0)=false,Computes cx 32 [I a1,I (-1000),I 1000] (I t3),Qa 1,(t1 != 0)=false,Computes cx 32 [I a0,I (-1000),I 1000] (I t1)]):=by kernel_rfl
theorem Eg (a0:Int) (a1:Int) (a2:Int) (a3:Int) (t1:Int) (t3:Int) (t5:Int) (t7:Int) (t9:Int) (t10:Int) (t12:Int):Zu true 100 cx 26 [.agg [I a0,I a1,I a2],I a3] [.no,.no,.ret (I t1),.br false,.no,.no,.no,.no,.ret (I t3),.br false,.no,.no,.no,.ret (I t5),.br false,.no,.no,.no,.ret (I t7),.br false,.br true,.ret (I t9),.br true,.no,.no,.br true,.no,.no,.no,.no,.no,.no,.no,.no,.ret (I t10),.br true,.no,.no,.no,.no,.no,.no,.no,.no,.no,.no,.no,.no,.no,.no,.no,.no,.no,.no,.no,.ret (I t12),.br false,.no,.no,.no,.no,.no,.no,.no,.no,.no,.no,.br true,.br true,.no,.no]=some (.tup [I a0,I (-1),I 0],[(decide ((a2 - a0)≤a3))=true,(decide ((a0 - a1)≤a3))=true,Qa (a2 - a0),Qa (a0 - a1),Qa 3,(decide (t12 < 0))=false,Computes cx 52 [.agg [I a2,I 2],.agg [I a0,I 0]] (I t12),Qa 1,Qa 2,Qa 0,Qa 0,Qa 0,(decide (t10 < 0))=true,Computes cx 52 [.agg [I a1,I 1],.agg [I a0,I 0]] (I t10),Qa 0,Qa 1,Qa 3,Computes cx 72 [.v (.int .u64 3)] (I t9),(t7 != 0)=false,Computes cx 32 [I a3,I 0,I 1000] (I t7),Qa 3,(t5 != 0)=false,Computes cx 32 [I a2,I (-1000),I 1000] (I t5),Qa 2,(t3 != 0)=false,Computes cx 32 [I a1,I (-1000),I 1000] (I t3),Qa 1,(t1 != 0)=false,Computes cx 32 [I a0,I (-1000),I 1000] (I t1)]):=by kernel_rfl
theorem Ef (a0:Int) (a1:Int) (a2:Int) (a3:Int) (t1:Int) (t3:Int) (t5:Int) (t7:Int) (t9:Int) (t10:Int) (t12:Int):Zu true 100 cx 26 [.agg [I a0,I a1,I a2],I a3] [.no,.no,.ret (I t1),.br false,.no,.no,.no,.no,.ret (I t3),.br false,.no,.no,.no,.ret (I t5),.br false,.no,.no,.no,.ret (I t7),.br false,.br true,.ret (I t9),.br true,.no,.no,.br true,.no,.no,.no,.no,.no,.no,.no,.no,.ret (I t10),.br true,.no,.no,.no,.no,.no,.no,.no,.no,.no,.no,.no,.no,.no,.no,.no,.no,.no,.no,.no,.ret (I t12),.br false,.no,.no,.no,.no,.no,.no,.no,.no,.no,.no,.br true,.br false,.br true,.no,.no,.no,.no]=some (.tup [I a0,I 2,I 0],[(decide ((a0 - a1)≤a3))=true,(decide ((a2 - a0)≤a3))=false,(decide ((a0 - a1)≤a3))=true,Qa (a2 - a0),Qa (a0 - a1),Qa 3,(decide (t12 < 0))=false,Computes cx 52 [.agg [I a2,I 2],.agg [I a0,I 0]] (I t12),Qa 1,Qa 2,Qa 0,Qa 0,Qa 0,(decide (t10 < 0))=true,Computes cx 52 [.agg [I a1,I 1],.agg [I a0,I 0]] (I t10),Qa 0,Qa 1,Qa 3,Computes cx 72 [.v (.int .u64 3)] (I t9),(t7 != 0)=false,Computes cx 32 [I a3,I 0,I 1000] (I t7),Qa 3,(t5 != 0)=false,Computes cx 32 [I a2,I (-1000),I 1000] (I t5),Qa 2,(t3 != 0)=false,Computes cx 32 [I a1,I (-1000),I 1000] (I t3),Qa 1,(t1 != 0)=false,Computes cx 32 [I a0,I (-1000),I 1000] (I t1)]):=by kernel_rfl
theorem XA (a0:Int) (a1:Int) (a2:Int) (a3:Int) (t1:Int) (t3:Int) (t5:Int) (t7:Int) (t9:Int) (t10:Int) (t12:Int):Zu true 100 cx 26 [.agg [I a0,I a1,I a2],I a3] [.no,.no,.ret (I t1),.br false,.no,.no,.no,.no,.ret (I t3),.br false,.no,.no,.no,.ret (I t5),.br false,.no,.no,.no,.ret (I t7),.br false,.br true,.ret (I t9),.br true,.no,.no,.br true,.no,.no,.no,.no,.no,.no,.no,.no,.ret (I t10),.br true,.no,.no,.no,.no,.no,.no,.no,.no,.no,.no,.no,.no,.no,.no,.no,.no,.no,.no,.no,.ret (I t12),.br false,.no,.no,.no,.no,.no,.no,.no,.no,.no,.no,.br false,.no,.br false,.br true,.no,.no,.no,.no]=some (.tup [I a0,I 1,I 0],[(decide ((a2 - a0)≤a3))=true,(decide ((a0 - a1)≤a3))=false,(decide ((a0 - a1)≤a3))=false,Qa (a2 - a0),Qa (a0 - a1),Qa 3,(decide (t12 < 0))=false,Computes cx 52 [.agg [I a2,I 2],.agg [I a0,I 0]] (I t12),Qa 1,Qa 2,Qa 0,Qa 0,Qa 0,(decide (t10 < 0))=true,Computes cx 52 [.agg [I a1,I 1],.agg [I a0,I 0]] (I t10),Qa 0,Qa 1,Qa 3,Computes cx 72 [.v (.int .u64 3)] (I t9),(t7 != 0)=false,Computes cx 32 [I a3,I 0,I 1000] (I t7),Qa 3,(t5 != 0)=false,Computes cx 32 [I a2,I (-1000),I 1000] (I t5),Qa 2,(t3 != 0)=false,Computes cx 32 [I a1,I (-1000),I 1000] (I t3),Qa 1,(t1 != 0)=false,Computes cx 32 [I a0,I (-1000),I 1000] (I t1)]):=by kernel_rfl
theorem Xz (a0:Int) (a1:Int) (a2:Int) (a3:Int) (t1:Int) (t3:Int) (t5:Int) (t7:Int) (t9:Int) (t10:Int) (t12:Int):Zu true 100 cx 26 [.agg [I a0,I a1,I a2],I a3] [.no,.no,.ret (I t1),.br false,.no,.no,.no,.no,.ret (I t3),.br false,.no,.no,.no,.ret (I t5),.br false,.no,.no,.no,.ret (I t7),.br false,.br true,.ret (I t9),.br true,.no,.no,.br true,.no,.no,.no,.no,.no,.no,.no,.no,.ret (I t10),.br true,.no,.no,.no,.no,.no,.no,.no,.no,.no,.no,.no,.no,.no,.no,.no,.no,.no,.no,.no,.ret (I t12),.br false,.no,.no,.no,.no,.no,.no,.no,.no,.no,.no,.br false,.no,.br false,.br false]=some (.tup [I 0,I 0,I 7],[(decide ((a2 - a0)≤a3))=false,(decide ((a0 - a1)≤a3))=false,(decide ((a0 - a1)≤a3))=false,Qa (a2 - a0),Qa (a0 - a1),Qa 3,(decide (t12 < 0))=false,Computes cx 52 [.agg [I a2,I 2],.agg [I a0,I 0]] (I t12),Qa 1,Qa 2,Qa 0,Qa 0,Qa 0,(decide (t10 < 0))=true,Computes cx 52 [.agg [I a1,I 1],.agg [I a0,I 0]] (I t10),Qa 0,Qa 1,Qa 3,Computes cx 72 [.v (.int .u64 3)] (I t9),(t7 != 0)=false,Computes cx 32 [I a3,I 0,I 1000] (I t7),Qa 3,(t5 != 0)=false,Computes cx 32 [I a2,I (-1000),I 1000] (I t5),Qa 2,(t3 != 0)=false,Computes cx 32 [I a1,I (-1000),I 1000] (I t3),Qa 1,(t1 != 0)=false,Computes cx 32 [I a0,I (-1000),I 1000] (I t1)]):=by kernel_rfl
theorem Xy (a0:Int) (a1:Int) (a2:Int) (a3:Int) (t1:Int) (t3:Int) (t5:Int) (t7:Int) (t9:Int) (t10:Int) (t12:Int) (t14:Int):Zu true 100 cx 26 [.agg [I a0,I a1,I a2],I a3] [.no,.no,.ret (I t1),.br false,.no,.no,.no,.no,.ret (I t3),.br false,.no,.no,.no,.ret (I t5),.br false,.no,.no,.no,.ret (I t7),.br false,.br true,.ret (I t9),.br true,.no,.no,.br true,.no,.no,.no,.no,.no,.no,.no,.no,.ret (I t10),.br false,.no,.no,.no,.no,.no,.no,.no,.no,.ret (I t12),.br true,.no,.no,.no,.no,.no,.no,.no,.no,.no,.no,.no,.no,.no,.no,.ret (I t14),.br true,.no,.no,.no,.no,.no,.no,.no,.no,.no,.no,.no,.no,.no,.no,.no,.no,.no,.no,.no,.no,.no,.br true,.br true,.no,.no]=some (.tup [I a0,I (-1),I 0],[(decide ((a1 - a0)≤a3))=true,(decide ((a0 - a2)≤a3))=true,Qa (a1 - a0),Qa (a0 - a2),Qa 3,Qa 0,Qa 0,Qa 0,(decide (t14 < 0))=true,Computes cx 52 [.agg [I a2,I 2],.agg [I a0,I 0]] (I t14),Qa 0,Qa 1,Qa 1,Qa 1,(decide (t12 < 0))=true,Computes cx 52 [.agg [I a2,I 2],.agg [I a1,I 1]] (I t12),Qa 1,Qa 2,(decide (t10 < 0))=false,Computes cx 52 [.agg [I a1,I 1],.agg [I a0,I 0]] (I t10),Qa 0,Qa 1,Qa 3,Computes cx 72 [.v (.int .u64 3)] (I t9),(t7 != 0)=false,Computes cx 32 [I a3,I 0,I 1000] (I t7),Qa 3,(t5 != 0)=false,Computes cx 32 [I a2,I (-1000),I 1000] (I t5),Qa 2,(t3 != 0)=false,Computes cx 32 [I a1,I (-1000),I 1000] (I t3),Qa 1,(t1 != 0)=false,Computes cx 32 [I a0,I (-1000),I 1000] (I t1)]):=by kernel_rfl
theorem Xx (a0:Int) (a1:Int) (a2:Int) (a3:Int) (t1:Int) (t3:Int) (t5:Int) (t7:Int) (t9:Int) (t10:Int) (t12:Int) (t14:Int):Zu true 100 cx 26 [.agg [I a0,I a1,I a2],I a3] [.no,.no,.ret (I t1),.br false,.no,.no,.no,.no,.ret (I t3),.br false,.no,.no,.no,.ret (I t5),.br false,.no,.no,.no,.ret (I t7),.br false,.br true,.ret (I t9),.br true,.no,.no,.br true,.no,.no,.no,.no,.no,.no,.no,.no,.ret (I t10),.br false,.no,.no,.no,.no,.no,.no,.no,.no,.ret (I t12),.br true,.no,.no,.no,.no,.no,.no,.no,.no,.no,.no,.no,.no,.no,.no,.ret (I t14),.br true,.no,.no,.no,.no,.no,.no,.no,.no,.no,.no,.no,.no,.no,.no,.no,.no,.no,.no,.no,.no,.no,.br true,.br false,.br true,.no,.no,.no,.no]=some (.tup [I a0,I 1,I 0],[(decide ((a0 - a2)≤a3))=true,(decide ((a1 - a0)≤a3))=false,(decide ((a0 - a2)≤a3))=true,Qa (a1 - a0),Qa (a0 - a2),Qa 3,Qa 0,Qa 0,Qa 0,(decide (t14 < 0))=true,Computes cx 52 [.agg [I a2,I 2],.agg [I a0,I 0]] (I t14),Qa 0,Qa 1,Qa 1,Qa 1,(decide (t12 < 0))=true,Computes cx 52 [.agg [I a2,I 2],.agg [I a1,I 1]] (I t12),Qa 1,Qa 2,(decide (t10 < 0))=false,Computes cx 52 [.agg [I a1,I 1],.agg [I a0,I 0]] (I t10),Qa 0,Qa 1,Qa 3,Computes cx 72 [.v (.int .u64 3)] (I t9),(t7 != 0)=false,Computes cx 32 [I a3,I 0,I 1000] (I t7),Qa 3,(t5 != 0)=false,Computes cx 32 [I a2,I (-1000),I 1000] (I t5),Qa 2,(t3 != 0)=false,Computes cx 32 [I a1,I (-1000),I 1000] (I t3),Qa 1,(t1 != 0)=false,Computes cx 32 [I a0,I (-1000),I 1000] (I t1)]):=by kernel_rfl
theorem Xw (a0:Int) (a1:Int) (a2:Int) (a3:Int) (t1:Int) (t3:Int) (t5:Int) (t7:Int) (t9:Int) (t10:Int) (t12:Int) (t14:Int):Zu true 100 cx 26 [.agg [I a0,I a1,I a2],I a3] [.no,.no,.ret (I t1),.br false,.no,.no,.no,.no,.ret (I t3),.br false,.no,.no,.no,.ret (I t5),.br false,.no,.no,.no,.ret (I t7),.br false,.br true,.ret (I t9),.br true,.no,.no,.br true,.no,.no,.no,.no,.no,.no,.no,.no,.ret (I t10),.br false,.no,.no,.no,.no,.no,.no,.no,.no,.ret (I t12),.br true,.no,.no,.no,.no,.no,.no,.no,.no,.no,.no,.no,.no,.no,.no,.ret (I t14),.br true,.no,.no,.no,.no,.no,.no,.no,.no,.no,.no,.no,.no,.no,.no,.no,.no,.no,.no,.no,.no,.no,.br false,.no,.br false,.br true,.no,.no,.no,.no]=some (.tup [I a0,I 2,I 0],[(decide ((a1 - a0)≤a3))=true,(decide ((a0 - a2)≤a3))=false,(decide ((a0 - a2)≤a3))=false,Qa (a1 - a0),Qa (a0 - a2),Qa 3,Qa 0,Qa 0,Qa 0,(decide (t14 < 0))=true,Computes cx 52 [.agg [I a2,I 2],.agg [I a0,I 0]] (I t14),Qa 0,Qa 1,Qa 1,Qa 1,(decide (t12 < 0))=true,Computes cx 52 [.agg [I a2,I 2],.agg [I a1,I 1]] (I t12),Qa 1,Qa 2,(decide (t10 < 0))=false,Computes cx 52 [.agg [I a1,I 1],.agg [I a0,I 0]] (I t10),Qa 0,Qa 1,Qa 3,Computes cx 72 [.v (.int .u64 3)] (I t9),(t7 != 0)=false,Computes cx 32 [I a3,I 0,I 1000] (I t7),Qa 3,(t5 != 0)=false,Computes cx 32 [I a2,I (-1000),I 1000] (I t5),Qa 2,(t3 != 0)=false,Computes cx 32 [I a1,I (-1000),I 1000] (I t3),Qa 1,(t1 != 0)=false,Computes cx 32 [I a0,I (-1000),I 1000] (I t1)]):=by kernel_rfl
theorem Xv (a0:Int) (a1:Int) (a2:Int) (a3:Int) (t1:Int) (t3:Int) (t5:Int) (t7:Int) (t9:Int) (t10:Int) (t12:Int) (t14:Int):Zu true 100 cx 26 [.agg [I a0,I a1,I a2],I a3] [.no,.no,.ret (I t1),.br false,.no,.no,.no,.no,.ret (I t3),.br false,.no,.no,.no,.ret (I t5),.br false,.no,.no,.no,.ret (I t7),.br false,.br true,.ret (I t9),.br true,.no,.no,.br true,.no,.no,.no,.no,.no,.no,.no,.no,.ret (I t10),.br false,.no,.no,.no,.no,.no,.no,.no,.no,.ret (I t12),.br true,.no,.no,.no,.no,.no,.no,.no,.no,.no,.no,.no,.no,.no,.no,.ret (I t14),.br true,.no,.no,.no,.no,.no,.no,.no,.no,.no,.no,.no,.no,.no,.no,.no,.no,.no,.no,.no,.no,.no,.br false,.no,.br false,.br false]=some (.tup [I 0,I 0,I 7],[(decide ((a1 - a0)≤a3))=false,(decide ((a0 - a2)≤a3))=false,(decide ((a0 - a2)≤a3))=false,Qa (a1 - a0),Qa (a0 - a2),Qa 3,Qa 0,Qa 0,Qa 0,(decide (t14 < 0))=true,Computes cx 52 [.agg [I a2,I 2],.agg [I a0,I 0]] (I t14),Qa 0,Qa 1,Qa 1,Qa 1,(decide (t12 < 0))=true,Computes cx 52 [.agg [I a2,I 2],.agg [I a1,I 1]] (I t12),Qa 1,Qa 2,(decide (t10 < 0))=false,Computes cx 52 [.agg [I a1,I 1],.agg [I a0,I 0]] (I t10),Qa 0,Qa 1,Qa 3,Computes cx 72 [.v (.int .u64 3)] (I t9),(t7 != 0)=false,Computes cx 32 [I a3,I 0,I 1000] (I t7),Qa 3,(t5 != 0)=false,Computes cx 32 [I a2,I (-1000),I 1000] (I t5),Qa 2,(t3 != 0)=false,Computes cx 32 [I a1,I (-1000),I 1000] (I t3),Qa 1,(t1 != 0)=false,Computes cx 32 [I a0,I (-1000),I 1000] (I t1)]):=by kernel_rfl
theorem Xu (a0:Int) (a1:Int) (a2:Int) (a3:Int) (t1:Int) (t3:Int) (t5:Int) (t7:Int) (t9:Int) (t10:Int) (t12:Int) (t14:Int):Zu true 100 cx 26 [.agg [I a0,I a1,I a2],I a3] [.no,.no,.ret (I t1),.br false,.no,.no,.no,.no,.ret (I t3),.br false,.no,.no,.no,.ret (I t5),.br false,.no,.no,.no,.ret (I t7),.br false,.br true,.ret (I t9),.br true,.no,.no,.br true,.no,.no,.no,.no,.no,.no,.no,.no,.ret (I t10),.br false,.no,.no,.no,.no,.no,.no,.no,.no,.ret (I t12),.br true,.no,.no,.no,.no,.no,.no,.no,.no,.no,.no,.no,.no,.no,.no,.ret (I t14),.br false,.no,.no,.no,.no,.no,.no,.no,.no,.no,.no,.br true,.br true,.no,.no]=some (.tup [I a2,I (-1),I 0],[(decide ((a1 - a2)≤a3))=true,(decide ((a2 - a0)≤a3))=true,Qa (a1 - a2),Qa (a2 - a0),Qa 3,(decide (t14 < 0))=false,Computes cx 52 [.agg [I a2,I 2],.agg [I a0,I 0]] (I t14),Qa 0,Qa 1,Qa 1,Qa 1,(decide (t12 < 0))=true,Computes cx 52 [.agg [I a2,I 2],.agg [I a1,I 1]] (I t12),Qa 1,Qa 2,(decide (t10 < 0))=false,Computes cx 52 [.agg [I a1,I 1],.agg [I a0,I 0]] (I t10),Qa 0,Qa 1,Qa 3,Computes cx 72 [.v (.int .u64 3)] (I t9),(t7 != 0)=false,Computes cx 32 [I a3,I 0,I 1000] (I t7),Qa 3,(t5 != 0)=false,Computes cx 32 [I a2,I (-1000),I 1000] (I t5),Qa 2,(t3 != 0)=false,Computes cx 32 [I a1,I (-1000),I 1000] (I t3),Qa 1,(t1 != 0)=false,Computes cx 32 [I a0,I (-1000),I 1000] (I t1)]):=by kernel_rfl
theorem Xt (a0:Int) (a1:Int) (a2:Int) (a3:Int) (t1:Int) (t3:Int) (t5:Int) (t7:Int) (t9:Int) (t10:Int) (t12:Int) (t14:Int):Zu true 100 cx 26 [.agg [I a0,I a1,I a2],I a3] [.no,.no,.ret (I t1),.br false,.no,.no,.no,.no,.ret (I t3),.br false,.no,.no,.no,.ret (I t5),.br false,.no,.no,.no,.ret (I t7),.br false,.br true,.ret (I t9),.br true,.no,.no,.br true,.no,.no,.no,.no,.no,.no,.no,.no,.ret (I t10),.br false,.no,.no,.no,.no,.no,.no,.no,.no,.ret (I t12),.br true,.no,.no,.no,.no,.no,.no,.no,.no,.no,.no,.no,.no,.no,.no,.ret (I t14),.br false,.no,.no,.no,.no,.no,.no,.no,.no,.no,.no,.br true,.br false,.br true,.no,.no,.no,.no]=some (.tup [I a2,I 1,I 0],[(decide ((a2 - a0)≤a3))=true,(decide ((a1 - a2)≤a3))=false,(decide ((a2 - a0)≤a3))=true,Qa (a1 - a2),Qa (a2 - a0),Qa 3,(decide (t14 < 0))=false,Computes cx 52 [.agg [I a2,I 2],.agg [I a0,I 0]] (I t14),Qa 0,Qa 1,Qa 1,Qa 1,(decide (t12 < 0))=true,Computes cx 52 [.agg [I a2,I 2],.agg [I a1,I 1]] (I t12),Qa 1,Qa 2,(decide (t10 < 0))=false,Computes cx 52 [.agg [I a1,I 1],.agg [I a0,I 0]] (I t10),Qa 0,Qa 1,Qa 3,Computes cx 72 [.v (.int .u64 3)] (I t9),(t7 != 0)=false,Computes cx 32 [I a3,I 0,I 1000] (I t7),Qa 3,(t5 != 0)=false,Computes cx 32 [I a2,I (-1000),I 1000] (I t5),Qa 2,(t3 != 0)=false,Computes cx 32 [I a1,I (-1000),I 1000] (I t3),Qa 1,(t1 != 0)=false,Computes cx 32 [I a0,I (-1000),I 1000] (I t1)]):=by kernel_rfl
theorem Xs (a0:Int) (a1:Int) (a2:Int) (a3:Int) (t1:Int) (t3:Int) (t5:Int) (t7:Int) (t9:Int) (t10:Int) (t12:Int) (t14:Int):Zu true 100 cx 26 [.agg [I a0,I a1,I a2],I a3] [.no,.no,.ret (I t1),.br false,.no,.no,.no,.no,.ret (I t3),.br false,.no,.no,.no,.ret (I t5),.br false,.no,.no,.no,.ret (I t7),.br false,.br true,.ret (I t9),.br true,.no,.no,.br true,.no,.no,.no,.no,.no,.no,.no,.no,.ret (I t10),.br false,.no,.no,.no,.no,.no,.no,.no,.no,.ret (I t12),.br true,.no,.no,.no,.no,.no,.no,.no,.no,.no,.no,.no,.no,.no,.no,.ret (I t14),.br false,.no,.no,.no,.no,.no,.no,.no,.no,.no,.no,.br false,.no,.br false,.br true,.no,.no,.no,.no]=some (.tup [I a2,I 0,I 0],[(decide ((a1 - a2)≤a3))=true,(decide ((a2 - a0)≤a3))=false,(decide ((a2 - a0)≤a3))=false,Qa (a1 - a2),Qa (a2 - a0),Qa 3,(decide (t14 < 0))=false,Computes cx 52 [.agg [I a2,I 2],.agg [I a0,I 0]] (I t14),Qa 0,Qa 1,Qa 1,Qa 1,(decide (t12 < 0))=true,Computes cx 52 [.agg [I a2,I 2],.agg [I a1,I 1]] (I t12),Qa 1,Qa 2,(decide (t10 < 0))=false,Computes cx 52 [.agg [I a1,I 1],.agg [I a0,I 0]] (I t10),Qa 0,Qa 1,Qa 3,Computes cx 72 [.v (.int .u64 3)] (I t9),(t7 != 0)=false,Computes cx 32 [I a3,I 0,I 1000] (I t7),Qa 3,(t5 != 0)=false,Computes cx 32 [I a2,I (-1000),I 1000] (I t5),Qa 2,(t3 != 0)=false,Computes cx 32 [I a1,I (-1000),I 1000] (I t3),Qa 1,(t1 != 0)=false,Computes cx 32 [I a0,I (-1000),I 1000] (I t1)]):=by kernel_rfl
theorem Xr (a0:Int) (a1:Int) (a2:Int) (a3:Int) (t1:Int) (t3:Int) (t5:Int) (t7:Int) (t9:Int) (t10:Int) (t12:Int) (t14:Int):Zu true 100 cx 26 [.agg [I a0,I a1,I a2],I a3] [.no,.no,.ret (I t1),.br false,.no,.no,.no,.no,.ret (I t3),.br false,.no,.no,.no,.ret (I t5),.br false,.no,.no,.no,.ret (I t7),.br false,.br true,.ret (I t9),.br true,.no,.no,.br true,.no,.no,.no,.no,.no,.no,.no,.no,.ret (I t10),.br false,.no,.no,.no,.no,.no,.no,.no,.no,.ret (I t12),.br true,.no,.no,.no,.no,.no,.no,.no,.no,.no,.no,.no,.no,.no,.no,.ret (I t14),.br false,.no,.no,.no,.no,.no,.no,.no,.no,.no,.no,.br false,.no,.br false,.br false]=some (.tup [I 0,I 0,I 7],[(decide ((a1 - a2)≤a3))=false,(decide ((a2 - a0)≤a3))=false,(decide ((a2 - a0)≤a3))=false,Qa (a1 - a2),Qa (a2 - a0),Qa 3,(decide (t14 < 0))=false,Computes cx 52 [.agg [I a2,I 2],.agg [I a0,I 0]] (I t14),Qa 0,Qa 1,Qa 1,Qa 1,(decide (t12 < 0))=true,Computes cx 52 [.agg [I a2,I 2],.agg [I a1,I 1]] (I t12),Qa 1,Qa 2,(decide (t10 < 0))=false,Computes cx 52 [.agg [I a1,I 1],.agg [I a0,I 0]] (I t10),Qa 0,Qa 1,Qa 3,Computes cx 72 [.v (.int .u64 3)] (I t9),(t7 != 0)=false,Computes cx 32 [I a3,I 0,I 1000] (I t7),Qa 3,(t5 != 0)=false,Computes cx 32 [I a2,I (-1000),I 1000] (I t5),Qa 2,(t3 != 0)=false,Computes cx 32 [I a1,I (-1000),I 1000] (I t3),Qa 1,(t1 != 0)=false,Computes cx 32 [I a0,I (-1000),I 1000] (I t1)]):=by kernel_rfl
theorem Xq (a0:Int) (a1:Int) (a2:Int) (a3:Int) (t1:Int) (t3:Int) (t5:Int) (t7:Int) (t9:Int) (t10:Int) (t12:Int):Zu true 100 cx 26 [.agg [I a0,I a1,I a2],I a3] [.no,.no,.ret (I t1),.br false,.no,.no,.no,.no,.ret (I t3),.br false,.no,.no,.no,.ret (I t5),.br false,.no,.no,.no,.ret (I t7),.br false,.br true,.ret (I t9),.br true,.no,.no,.br true,.no,.no,.no,.no,.no,.no,.no,.no,.ret (I t10),.br false,.no,.no,.no,.no,.no,.no,.no,.no,.ret (I t12),.br false,.no,.no,.no,.no,.no,.no,.no,.no,.no,.no,.br true,.br true,.no,.no]=some (.tup [I a1,I (-1),I 0],[(decide ((a2 - a1)≤a3))=true,(decide ((a1 - a0)≤a3))=true,Qa (a2 - a1),Qa (a1 - a0),Qa 3,(decide (t12 < 0))=false,Computes cx 52 [.agg [I a2,I 2],.agg [I a1,I 1]] (I t12),Qa 1,Qa 2,(decide (t10 < 0))=false,Computes cx 52 [.agg [I a1,I 1],.agg [I a0,I 0]] (I t10),Qa 0,Qa 1,Qa 3,Computes cx 72 [.v (.int .u64 3)] (I t9),(t7 != 0)=false,Computes cx 32 [I a3,I 0,I 1000] (I t7),Qa 3,(t5 != 0)=false,Computes cx 32 [I a2,I (-1000),I 1000] (I t5),Qa 2,(t3 != 0)=false,Computes cx 32 [I a1,I (-1000),I 1000] (I t3),Qa 1,(t1 != 0)=false,Computes cx 32 [I a0,I (-1000),I 1000] (I t1)]):=by kernel_rfl
theorem Xp (a0:Int) (a1:Int) (a2:Int) (a3:Int) (t1:Int) (t3:Int) (t5:Int) (t7:Int) (t9:Int) (t10:Int) (t12:Int):Zu true 100 cx 26 [.agg [I a0,I a1,I a2],I a3] [.no,.no,.ret (I t1),.br false,.no,.no,.no,.no,.ret (I t3),.br false,.no,.no,.no,.ret (I t5),.br false,.no,.no,.no,.ret (I t7),.br false,.br true,.ret (I t9),.br true,.no,.no,.br true,.no,.no,.no,.no,.no,.no,.no,.no,.ret (I t10),.br false,.no,.no,.no,.no,.no,.no,.no,.no,.ret (I t12),.br false,.no,.no,.no,.no,.no,.no,.no,.no,.no,.no,.br true,.br false,.br true,.no,.no,.no,.no]=some (.tup [I a1,I 2,I 0],[(decide ((a1 - a0)≤a3))=true,(decide ((a2 - a1)≤a3))=false,(decide ((a1 - a0)≤a3))=true,Qa (a2 - a1),Qa (a1 - a0),Qa 3,(decide (t12 < 0))=false,Computes cx 52 [.agg [I a2,I 2],.agg [I a1,I 1]] (I t12),Qa 1,Qa 2,(decide (t10 < 0))=false,Computes cx 52 [.agg [I a1,I 1],.agg [I a0,I 0]] (I t10),Qa 0,Qa 1,Qa 3,Computes cx 72 [.v (.int .u64 3)] (I t9),(t7 != 0)=false,Computes cx 32 [I a3,I 0,I 1000] (I t7),Qa 3,(t5 != 0)=false,Computes cx 32 [I a2,I (-1000),I 1000] (I t5),Qa 2,(t3 != 0)=false,Computes cx 32 [I a1,I (-1000),I 1000] (I t3),Qa 1,(t1 != 0)=false,Computes cx 32 [I a0,I (-1000),I 1000] (I t1)]):=by kernel_rfl
theorem Xo (a0:Int) (a1:Int) (a2:Int) (a3:Int) (t1:Int) (t3:Int) (t5:Int) (t7:Int) (t9:Int) (t10:Int) (t12:Int):Zu true 100 cx 26 [.agg [I a0,I a1,I a2],I a3] [.no,.no,.ret (I t1),.br false,.no,.no,.no,.no,.ret (I t3),.br false,.no,.no,.no,.ret (I t5),.br false,.no,.no,.no,.ret (I t7),.br false,.br true,.ret (I t9),.br true,.no,.no,.br true,.no,.no,.no,.no,.no,.no,.no,.no,.ret (I t10),.br false,.no,.no,.no,.no,.no,.no,.no,.no,.ret (I t12),.br false,.no,.no,.no,.no,.no,.no,.no,.no,.no,.no,.br false,.no,.br false,.br true,.no,.no,.no,.no]=some (.tup [I a1,I 0,I 0],[(decide ((a2 - a1)≤a3))=true,(decide ((a1 - a0)≤a3))=false,(decide ((a1 - a0)≤a3))=false,Qa (a2 - a1),Qa (a1 - a0),Qa 3,(decide (t12 < 0))=false,Computes cx 52 [.agg [I a2,I 2],.agg [I a1,I 1]] (I t12),Qa 1,Qa 2,(decide (t10 < 0))=false,Computes cx 52 [.agg [I a1,I 1],.agg [I a0,I 0]] (I t10),Qa 0,Qa 1,Qa 3,Computes cx 72 [.v (.int .u64 3)] (I t9),(t7 != 0)=false,Computes cx 32 [I a3,I 0,I 1000] (I t7),Qa 3,(t5 != 0)=false,Computes cx 32 [I a2,I (-1000),I 1000] (I t5),Qa 2,(t3 != 0)=false,Computes cx 32 [I a1,I (-1000),I 1000] (I t3),Qa 1,(t1 != 0)=false,Computes cx 32 [I a0,I (-1000),I 1000] (I t1)]):=by kernel_rfl
theorem Xn (a0:Int) (a1:Int) (a2:Int) (a3:Int) (t1:Int) (t3:Int) (t5:Int) (t7:Int) (t9:Int) (t10:Int) (t12:Int):Zu true 100 cx 26 [.agg [I a0,I a1,I a2],I a3] [.no,.no,.ret (I t1),.br false,.no,.no,.no,.no,.ret (I t3),.br false,.no,.no,.no,.ret (I t5),.br false,.no,.no,.no,.ret (I t7),.br false,.br true,.ret (I t9),.br true,.no,.no,.br true,.no,.no,.no,.no,.no,.no,.no,.no,.ret (I t10),.br false,.no,.no,.no,.no,.no,.no,.no,.no,.ret (I t12),.br false,.no,.no,.no,.no,.no,.no,.no,.no,.no,.no,.br false,.no,.br false,.br false]=some (.tup [I 0,I 0,I 7],[(decide ((a2 - a1)≤a3))=false,(decide ((a1 - a0)≤a3))=false,(decide ((a1 - a0)≤a3))=false,Qa (a2 - a1),Qa (a1 - a0),Qa 3,(decide (t12 < 0))=false,Computes cx 52 [.agg [I a2,I 2],.agg [I a1,I 1]] (I t12),Qa 1,Qa 2,(decide (t10 < 0))=false,Computes cx 52 [.agg [I a1,I 1],.agg [I a0,I 0]] (I t10),Qa 0,Qa 1,Qa 3,Computes cx 72 [.v (.int .u64 3)] (I t9),(t7 != 0)=false,Computes cx 32 [I a3,I 0,I 1000] (I t7),Qa 3,(t5 != 0)=false,Computes cx 32 [I a2,I (-1000),I 1000] (I t5),Qa 2,(t3 != 0)=false,Computes cx 32 [I a1,I (-1000),I 1000] (I t3),Qa 1,(t1 != 0)=false,Computes cx 32 [I a0,I (-1000),I 1000] (I t1)]):=by kernel_rfl
theorem Xm (a0:Int) (a1:Int) (a2:Int) (a3:Int) (t1:Int) (t3:Int) (t5:Int) (t7:Int):Zu true 100 cx 26 [.agg [I a0,I a1,I a2],I a3] [.no,.no,.ret (I t1),.br false,.no,.no,.no,.no,.ret (I t3),.br false,.no,.no,.no,.ret (I t5),.br false,.no,.no,.no,.ret (I t7),.br true]=some (.tup [I 0,I 0,I t7],[(t7 != 0)=true,Computes cx 32 [I a3,I 0,I 1000] (I t7),Qa 3,(t5 != 0)=false,Computes cx 32 [I a2,I (-1000),I 1000] (I t5),Qa 2,(t3 != 0)=false,Computes cx 32 [I a1,I (-1000),I 1000] (I t3),Qa 1,(t1 != 0)=false,Computes cx 32 [I a0,I (-1000),I 1000] (I t1)]):=by kernel_rfl
theorem Xl (a0:Int) (a1:Int) (a2:Int) (a3:Int) (t1:Int) (t3:Int) (t5:Int):Zu true 100 cx 26 [.agg [I a0,I a1,I a2],I a3] [.no,.no,.ret (I t1),.br false,.no,.no,.no,.no,.ret (I t3),.br false,.no,.no,.no,.ret (I t5),.br true]=some (.tup [I 0,I 0,I t5],[(t5 != 0)=true,Computes cx 32 [I a2,I (-1000),I 1000] (I t5),Qa 2,(t3 != 0)=false,Computes cx 32 [I a1,I (-1000),I 1000] (I t3),Qa 1,(t1 != 0)=false,Computes cx 32 [I a0,I (-1000),I 1000] (I t1)]):=by kernel_rfl
theorem Xk (a0:Int) (a1:Int) (a2:Int) (a3:Int) (t1:Int) (t3:Int):Zu true 100 cx 26 [.agg [I a0,I a1,I a2],I a3] [.no,.no,.ret (I t1),.br false,.no,.no,.no,.no,.ret (I t3),.br true]=some (.tup [I 0,I 0,I t3],[(t3 != 0)=true,Computes cx 32 [I a1,I (-1000),I 1000] (I t3),Qa 1,(t1 != 0)=false,Computes cx 32 [I a0,I (-1000),I 1000] (I t1)]):=by kernel_rfl
theorem Xj (a0:Int) (a1:Int) (a2:Int) (a3:Int) (t1:Int):Zu true 100 cx 26 [.agg [I a0,I a1,I a2],I a3] [.no,.no,.ret (I t1),.br true]=some (.tup [I 0,I 0,I t1],[(t1 != 0)=true,Computes cx 32 [I a0,I (-1000),I 1000] (I t1)]):=by kernel_rfl
def Wn (n:Nat) (a0 a1 a2 a3:Int):Option (Int×Int×Int) :=
 (Qy n a0 (-1000) 1000).bind fun t1 =>
 if t1=0 then
  (Qy n a1 (-1000) 1000).bind fun t3 =>
  if t3=0 then
   (Qy n a2 (-1000) 1000).bind fun t5 =>
   if t5=0 then
    (Qy n a3 0 1000).bind fun t7 =>
    if t7=0 then
     (Yy n).bind fun t9 =>
     (Zb n a1 1 a0 0).bind fun t10 =>
     if t10 < 0 then
      (Zb n a2 2 a0 0).bind fun t12 =>
      if t12 < 0 then
       (Zb n a2 2 a1 1).bind fun t14 =>
       if t14 < 0 then
        if Qa (a1 - a2) then
        if Qa (a0 - a1) then
        if (a1 - a2)≤a3 then
         if (a0 - a1)≤a3 then
          some (a1,(-1),0)
         else
         some (a1,0,0)
        else
        if (a0 - a1)≤a3 then
         some (a1,2,0)
        else
        some (0,0,7)
        else none
        else none
       else
       if Qa (a2 - a1) then
       if Qa (a0 - a2) then
       if (a2 - a1)≤a3 then
        if (a0 - a2)≤a3 then
         some (a2,(-1),0)
        else
        some (a2,0,0)
       else
       if (a0 - a2)≤a3 then
        some (a2,1,0)
       else
       some (0,0,7)
       else none
       else none
      else
      if Qa (a0 - a1) then
      if Qa (a2 - a0) then
      if (a0 - a1)≤a3 then
       if (a2 - a0)≤a3 then
        some (a0,(-1),0)
       else
       some (a0,2,0)
      else
      if (a2 - a0)≤a3 then
       some (a0,1,0)
      else
      some (0,0,7)
      else none
      else none
     else
     (Zb n a2 2 a1 1).bind fun t12 =>
     if t12 < 0 then
      (Zb n a2 2 a0 0).bind fun t14 =>
      if t14 < 0 then
       if Qa (a0 - a2) then
       if Qa (a1 - a0) then
       if (a0 - a2)≤a3 then
        if (a1 - a0)≤a3 then
         some (a0,(-1),0)
        else
        some (a0,1,0)
       else
       if (a1 - a0)≤a3 then
        some (a0,2,0)
       else
       some (0,0,7)
       else none
       else none
      else
      if Qa (a2 - a0) then
      if Qa (a1 - a2) then
      if (a2 - a0)≤a3 then
       if (a1 - a2)≤a3 then
        some (a2,(-1),0)
       else
       some (a2,1,0)
      else
      if (a1 - a2)≤a3 then
       some (a2,0,0)
      else
      some (0,0,7)
      else none
      else none
     else
     if Qa (a1 - a0) then
     if Qa (a2 - a1) then
     if (a1 - a0)≤a3 then
      if (a2 - a1)≤a3 then
       some (a1,(-1),0)
      else
      some (a1,2,0)
     else
     if (a2 - a1)≤a3 then
      some (a1,0,0)
     else
     some (0,0,7)
     else none
     else none
    else
    some (0,0,t7)
   else
   some (0,0,t5)
  else
  some (0,0,t3)
 else
 some (0,0,t1)
theorem Yx {n:Nat} {a0 a1 a2 a3:Int} {r:Int×Int×Int} (h:Wn n a0 a1 a2 a3=some r):Computes cx 26 [.agg [I a0,I a1,I a2],I a3] (.tup [I r.1,I r.2.1,I r.2.2]):=by
 unfold Wn at h
 obtain ⟨t1,h1,h⟩:=Qg h
 by_cases h2:t1=0
 ·replace h:=Ql h h2
  obtain ⟨t3,h3,h⟩:=Qg h
  by_cases h4:t3=0
  ·replace h:=Ql h h4
   obtain ⟨t5,h5,h⟩:=Qg h
   by_cases h6:t5=0
   ·replace h:=Ql h h6
    obtain ⟨t7,h7,h⟩:=Qg h
    by_cases h8:t7=0
    ·replace h:=Ql h h8
     obtain ⟨t9,h9,h⟩:=Qg h
     obtain ⟨t10,h10,h⟩:=Qg h
     by_cases h11:t10 < 0
     ·replace h:=Ql h h11
      obtain ⟨t12,h12,h⟩:=Qg h
      by_cases h13:t12 < 0
      ·replace h:=Ql h h13
       obtain ⟨t14,h14,h⟩:=Qg h
       by_cases h15:t14 < 0
       ·replace h:=Ql h h15
        obtain ⟨h16,h⟩:=Qi h
        obtain ⟨h17,h⟩:=Qi h
        by_cases h18:(a1 - a2)≤a3
        ·replace h:=Ql h h18
         by_cases h19:(a0 - a1)≤a3
         ·replace h:=Ql h h19
          replace h:=Option.some.inj h
          subst h
          exact run (n:=100) (f:=26) (args:=[.agg [I a0,I a1,I a2],I a3]) (orc:=[.no,.no,.ret (I t1),.br false,.no,.no,.no,.no,.ret (I t3),.br false,.no,.no,.no,.ret (I t5),.br false,.no,.no,.no,.ret (I t7),.br false,.br true,.ret (I t9),.br true,.no,.no,.br true,.no,.no,.no,.no,.no,.no,.no,.no,.ret (I t10),.br true,.no,.no,.no,.no,.no,.no,.no,.no,.no,.no,.no,.no,.no,.no,.no,.no,.no,.no,.no,.ret (I t12),.br true,.no,.no,.no,.no,.no,.no,.no,.no,.no,.no,.no,.no,.no,.no,.ret (I t14),.br true,.no,.no,.no,.no,.no,.no,.no,.no,.no,.no,.no,.no,.no,.no,.no,.no,.no,.no,.no,.no,.no,.br true,.br true,.no,.no]) (r:=.tup [I a1,I (-1),I 0]) (ob:=[(decide ((a0 - a1)≤a3))=true,(decide ((a1 - a2)≤a3))=true,Qa (a0 - a1),Qa (a1 - a2),Qa 3,Qa 0,Qa 0,Qa 0,(decide (t14 < 0))=true,Computes cx 52 [.agg [I a2,I 2],.agg [I a1,I 1]] (I t14),Qa 0,Qa 1,Qa 1,Qa 1,(decide (t12 < 0))=true,Computes cx 52 [.agg [I a2,I 2],.agg [I a0,I 0]] (I t12),Qa 1,Qa 2,Qa 0,Qa 0,Qa 0,(decide (t10 < 0))=true,Computes cx 52 [.agg [I a1,I 1],.agg [I a0,I 0]] (I t10),Qa 0,Qa 1,Qa 3,Computes cx 72 [.v (.int .u64 3)] (I t9),(t7 != 0)=false,Computes cx 32 [I a3,I 0,I 1000] (I t7),Qa 3,(t5 != 0)=false,Computes cx 32 [I a2,I (-1000),I 1000] (I t5),Qa 2,(t3 != 0)=false,Computes cx 32 [I a1,I (-1000),I 1000] (I t3),Qa 1,(t1 != 0)=false,Computes cx 32 [I a0,I (-1000),I 1000] (I t1)]) (Eo a0 a1 a2 a3 t1 t3 t5 t7 t9 t10 t12 t14) ⟨(decide_eq_true h19),(decide_eq_true h18),h17,h16,(by unfold Qa;omega),(by unfold Qa;omega),(by unfold Qa;omega),(by unfold Qa;omega),(decide_eq_true h15),(Qe h14),(by unfold Qa;omega),(by unfold Qa;omega),(by unfold Qa;omega),(by unfold Qa;omega),(decide_eq_true h13),(Qe h12),(by unfold Qa;omega),(by unfold Qa;omega),(by unfold Qa;omega),(by unfold Qa;omega),(by unfold Qa;omega),(decide_eq_true h11),(Qe h10),(by unfold Qa;omega),(by unfold Qa;omega),(by unfold Qa;omega),(Qo h9),(nef h8),(Qb h7),(by unfold Qa;omega),(nef h6),(Qb h5),(by unfold Qa;omega),(nef h4),(Qb h3),(by unfold Qa;omega),(nef h2),(Qb h1),trivial⟩
         ·replace h:=Qm h h19
          replace h:=Option.some.inj h
          subst h
          exact run (n:=100) (f:=26) (args:=[.agg [I a0,I a1,I a2],I a3]) (orc:=[.no,.no,.ret (I t1),.br false,.no,.no,.no,.no,.ret (I t3),.br false,.no,.no,.no,.ret (I t5),.br false,.no,.no,.no,.ret (I t7),.br false,.br true,.ret (I t9),.br true,.no,.no,.br true,.no,.no,.no,.no,.no,.no,.no,.no,.ret (I t10),.br true,.no,.no,.no,.no,.no,.no,.no,.no,.no,.no,.no,.no,.no,.no,.no,.no,.no,.no,.no,.ret (I t12),.br true,.no,.no,.no,.no,.no,.no,.no,.no,.no,.no,.no,.no,.no,.no,.ret (I t14),.br true,.no,.no,.no,.no,.no,.no,.no,.no,.no,.no,.no,.no,.no,.no,.no,.no,.no,.no,.no,.no,.no,.br true,.br false,.br true,.no,.no,.no,.no]) (r:=.tup [I a1,I 0,I 0]) (ob:=[(decide ((a1 - a2)≤a3))=true,(decide ((a0 - a1)≤a3))=false,(decide ((a1 - a2)≤a3))=true,Qa (a0 - a1),Qa (a1 - a2),Qa 3,Qa 0,Qa 0,Qa 0,(decide (t14 < 0))=true,Computes cx 52 [.agg [I a2,I 2],.agg [I a1,I 1]] (I t14),Qa 0,Qa 1,Qa 1,Qa 1,(decide (t12 < 0))=true,Computes cx 52 [.agg [I a2,I 2],.agg [I a0,I 0]] (I t12),Qa 1,Qa 2,Qa 0,Qa 0,Qa 0,(decide (t10 < 0))=true,Computes cx 52 [.agg [I a1,I 1],.agg [I a0,I 0]] (I t10),Qa 0,Qa 1,Qa 3,Computes cx 72 [.v (.int .u64 3)] (I t9),(t7 != 0)=false,Computes cx 32 [I a3,I 0,I 1000] (I t7),Qa 3,(t5 != 0)=false,Computes cx 32 [I a2,I (-1000),I 1000] (I t5),Qa 2,(t3 != 0)=false,Computes cx 32 [I a1,I (-1000),I 1000] (I t3),Qa 1,(t1 != 0)=false,Computes cx 32 [I a0,I (-1000),I 1000] (I t1)]) (En a0 a1 a2 a3 t1 t3 t5 t7 t9 t10 t12 t14) ⟨(decide_eq_true h18),(decide_eq_false h19),(decide_eq_true h18),h17,h16,(by unfold Qa;omega),(by unfold Qa;omega),(by unfold Qa;omega),(by unfold Qa;omega),(decide_eq_true h15),(Qe h14),(by unfold Qa;omega),(by unfold Qa;omega),(by unfold Qa;omega),(by unfold Qa;omega),(decide_eq_true h13),(Qe h12),(by unfold Qa;omega),(by unfold Qa;omega),(by unfold Qa;omega),(by unfold Qa;omega),(by unfold Qa;omega),(decide_eq_true h11),(Qe h10),(by unfold Qa;omega),(by unfold Qa;omega),(by unfold Qa;omega),(Qo h9),(nef h8),(Qb h7),(by unfold Qa;omega),(nef h6),(Qb h5),(by unfold Qa;omega),(nef h4),(Qb h3),(by unfold Qa;omega),(nef h2),(Qb h1),trivial⟩
        ·replace h:=Qm h h18
         by_cases h19:(a0 - a1)≤a3
         ·replace h:=Ql h h19
          replace h:=Option.some.inj h
          subst h
          exact run (n:=100) (f:=26) (args:=[.agg [I a0,I a1,I a2],I a3]) (orc:=[.no,.no,.ret (I t1),.br false,.no,.no,.no,.no,.ret (I t3),.br false,.no,.no,.no,.ret (I t5),.br false,.no,.no,.no,.ret (I t7),.br false,.br true,.ret (I t9),.br true,.no,.no,.br true,.no,.no,.no,.no,.no,.no,.no,.no,.ret (I t10),.br true,.no,.no,.no,.no,.no,.no,.no,.no,.no,.no,.no,.no,.no,.no,.no,.no,.no,.no,.no,.ret (I t12),.br true,.no,.no,.no,.no,.no,.no,.no,.no,.no,.no,.no,.no,.no,.no,.ret (I t14),.br true,.no,.no,.no,.no,.no,.no,.no,.no,.no,.no,.no,.no,.no,.no,.no,.no,.no,.no,.no,.no,.no,.br false,.no,.br false,.br true,.no,.no,.no,.no]) (r:=.tup [I a1,I 2,I 0]) (ob:=[(decide ((a0 - a1)≤a3))=true,(decide ((a1 - a2)≤a3))=false,(decide ((a1 - a2)≤a3))=false,Qa (a0 - a1),Qa (a1 - a2),Qa 3,Qa 0,Qa 0,Qa 0,(decide (t14 < 0))=true,Computes cx 52 [.agg [I a2,I 2],.agg [I a1,I 1]] (I t14),Qa 0,Qa 1,Qa 1,Qa 1,(decide (t12 < 0))=true,Computes cx 52 [.agg [I a2,I 2],.agg [I a0,I 0]] (I t12),Qa 1,Qa 2,Qa 0,Qa 0,Qa 0,(decide (t10 < 0))=true,Computes cx 52 [.agg [I a1,I 1],.agg [I a0,I 0]] (I t10),Qa 0,Qa 1,Qa 3,Computes cx 72 [.v (.int .u64 3)] (I t9),(t7 != 0)=false,Computes cx 32 [I a3,I 0,I 1000] (I t7),Qa 3,(t5 != 0)=false,Computes cx 32 [I a2,I (-1000),I 1000] (I t5),Qa 2,(t3 != 0)=false,Computes cx 32 [I a1,I (-1000),I 1000] (I t3),Qa 1,(t1 != 0)=false,Computes cx 32 [I a0,I (-1000),I 1000] (I t1)]) (Em a0 a1 a2 a3 t1 t3 t5 t7 t9 t10 t12 t14) ⟨(decide_eq_true h19),(decide_eq_false h18),(decide_eq_false h18),h17,h16,(by unfold Qa;omega),(by unfold Qa;omega),(by unfold Qa;omega),(by unfold Qa;omega),(decide_eq_true h15),(Qe h14),(by unfold Qa;omega),(by unfold Qa;omega),(by unfold Qa;omega),(by unfold Qa;omega),(decide_eq_true h13),(Qe h12),(by unfold Qa;omega),(by unfold Qa;omega),(by unfold Qa;omega),(by unfold Qa;omega),(by unfold Qa;omega),(decide_eq_true h11),(Qe h10),(by unfold Qa;omega),(by unfold Qa;omega),(by unfold Qa;omega),(Qo h9),(nef h8),(Qb h7),(by unfold Qa;omega),(nef h6),(Qb h5),(by unfold Qa;omega),(nef h4),(Qb h3),(by unfold Qa;omega),(nef h2),(Qb h1),trivial⟩
         ·replace h:=Qm h h19
          replace h:=Option.some.inj h
          subst h
          exact run (n:=100) (f:=26) (args:=[.agg [I a0,I a1,I a2],I a3]) (orc:=[.no,.no,.ret (I t1),.br false,.no,.no,.no,.no,.ret (I t3),.br false,.no,.no,.no,.ret (I t5),.br false,.no,.no,.no,.ret (I t7),.br false,.br true,.ret (I t9),.br true,.no,.no,.br true,.no,.no,.no,.no,.no,.no,.no,.no,.ret (I t10),.br true,.no,.no,.no,.no,.no,.no,.no,.no,.no,.no,.no,.no,.no,.no,.no,.no,.no,.no,.no,.ret (I t12),.br true,.no,.no,.no,.no,.no,.no,.no,.no,.no,.no,.no,.no,.no,.no,.ret (I t14),.br true,.no,.no,.no,.no,.no,.no,.no,.no,.no,.no,.no,.no,.no,.no,.no,.no,.no,.no,.no,.no,.no,.br false,.no,.br false,.br false]) (r:=.tup [I 0,I 0,I 7]) (ob:=[(decide ((a0 - a1)≤a3))=false,(decide ((a1 - a2)≤a3))=false,(decide ((a1 - a2)≤a3))=false,Qa (a0 - a1),Qa (a1 - a2),Qa 3,Qa 0,Qa 0,Qa 0,(decide (t14 < 0))=true,Computes cx 52 [.agg [I a2,I 2],.agg [I a1,I 1]] (I t14),Qa 0,Qa 1,Qa 1,Qa 1,(decide (t12 < 0))=true,Computes cx 52 [.agg [I a2,I 2],.agg [I a0,I 0]] (I t12),Qa 1,Qa 2,Qa 0,Qa 0,Qa 0,(decide (t10 < 0))=true,Computes cx 52 [.agg [I a1,I 1],.agg [I a0,I 0]] (I t10),Qa 0,Qa 1,Qa 3,Computes cx 72 [.v (.int .u64 3)] (I t9),(t7 != 0)=false,Computes cx 32 [I a3,I 0,I 1000] (I t7),Qa 3,(t5 != 0)=false,Computes cx 32 [I a2,I (-1000),I 1000] (I t5),Qa 2,(t3 != 0)=false,Computes cx 32 [I a1,I (-1000),I 1000] (I t3),Qa 1,(t1 != 0)=false,Computes cx 32 [I a0,I (-1000),I 1000] (I t1)]) (El a0 a1 a2 a3 t1 t3 t5 t7 t9 t10 t12 t14) ⟨(decide_eq_false h19),(decide_eq_false h18),(decide_eq_false h18),h17,h16,(by unfold Qa;omega),(by unfold Qa;omega),(by unfold Qa;omega),(by unfold Qa;omega),(decide_eq_true h15),(Qe h14),(by unfold Qa;omega),(by unfold Qa;omega),(by unfold Qa;omega),(by unfold Qa;omega),(decide_eq_true h13),(Qe h12),(by unfold Qa;omega),(by unfold Qa;omega),(by unfold Qa;omega),(by unfold Qa;omega),(by unfold Qa;omega),(decide_eq_true h11),(Qe h10),(by unfold Qa;omega),(by unfold Qa;omega),(by unfold Qa;omega),(Qo h9),(nef h8),(Qb h7),(by unfold Qa;omega),(nef h6),(Qb h5),(by unfold Qa;omega),(nef h4),(Qb h3),(by unfold Qa;omega),(nef h2),(Qb h1),trivial⟩
       ·replace h:=Qm h h15
        obtain ⟨h16,h⟩:=Qi h
        obtain ⟨h17,h⟩:=Qi h
        by_cases h18:(a2 - a1)≤a3
        ·replace h:=Ql h h18
         by_cases h19:(a0 - a2)≤a3
         ·replace h:=Ql h h19
          replace h:=Option.some.inj h
          subst h
          exact run (n:=100) (f:=26) (args:=[.agg [I a0,I a1,I a2],I a3]) (orc:=[.no,.no,.ret (I t1),.br false,.no,.no,.no,.no,.ret (I t3),.br false,.no,.no,.no,.ret (I t5),.br false,.no,.no,.no,.ret (I t7),.br false,.br true,.ret (I t9),.br true,.no,.no,.br true,.no,.no,.no,.no,.no,.no,.no,.no,.ret (I t10),.br true,.no,.no,.no,.no,.no,.no,.no,.no,.no,.no,.no,.no,.no,.no,.no,.no,.no,.no,.no,.ret (I t12),.br true,.no,.no,.no,.no,.no,.no,.no,.no,.no,.no,.no,.no,.no,.no,.ret (I t14),.br false,.no,.no,.no,.no,.no,.no,.no,.no,.no,.no,.br true,.br true,.no,.no]) (r:=.tup [I a2,I (-1),I 0]) (ob:=[(decide ((a0 - a2)≤a3))=true,(decide ((a2 - a1)≤a3))=true,Qa (a0 - a2),Qa (a2 - a1),Qa 3,(decide (t14 < 0))=false,Computes cx 52 [.agg [I a2,I 2],.agg [I a1,I 1]] (I t14),Qa 0,Qa 1,Qa 1,Qa 1,(decide (t12 < 0))=true,Computes cx 52 [.agg [I a2,I 2],.agg [I a0,I 0]] (I t12),Qa 1,Qa 2,Qa 0,Qa 0,Qa 0,(decide (t10 < 0))=true,Computes cx 52 [.agg [I a1,I 1],.agg [I a0,I 0]] (I t10),Qa 0,Qa 1,Qa 3,Computes cx 72 [.v (.int .u64 3)] (I t9),(t7 != 0)=false,Computes cx 32 [I a3,I 0,I 1000] (I t7),Qa 3,(t5 != 0)=false,Computes cx 32 [I a2,I (-1000),I 1000] (I t5),Qa 2,(t3 != 0)=false,Computes cx 32 [I a1,I (-1000),I 1000] (I t3),Qa 1,(t1 != 0)=false,Computes cx 32 [I a0,I (-1000),I 1000] (I t1)]) (Ek a0 a1 a2 a3 t1 t3 t5 t7 t9 t10 t12 t14) ⟨(decide_eq_true h19),(decide_eq_true h18),h17,h16,(by unfold Qa;omega),(decide_eq_false h15),(Qe h14),(by unfold Qa;omega),(by unfold Qa;omega),(by unfold Qa;omega),(by unfold Qa;omega),(decide_eq_true h13),(Qe h12),(by unfold Qa;omega),(by unfold Qa;omega),(by unfold Qa;omega),(by unfold Qa;omega),(by unfold Qa;omega),(decide_eq_true h11),(Qe h10),(by unfold Qa;omega),(by unfold Qa;omega),(by unfold Qa;omega),(Qo h9),(nef h8),(Qb h7),(by unfold Qa;omega),(nef h6),(Qb h5),(by unfold Qa;omega),(nef h4),(Qb h3),(by unfold Qa;omega),(nef h2),(Qb h1),trivial⟩
         ·replace h:=Qm h h19
          replace h:=Option.some.inj h
          subst h
          exact run (n:=100) (f:=26) (args:=[.agg [I a0,I a1,I a2],I a3]) (orc:=[.no,.no,.ret (I t1),.br false,.no,.no,.no,.no,.ret (I t3),.br false,.no,.no,.no,.ret (I t5),.br false,.no,.no,.no,.ret (I t7),.br false,.br true,.ret (I t9),.br true,.no,.no,.br true,.no,.no,.no,.no,.no,.no,.no,.no,.ret (I t10),.br true,.no,.no,.no,.no,.no,.no,.no,.no,.no,.no,.no,.no,.no,.no,.no,.no,.no,.no,.no,.ret (I t12),.br true,.no,.no,.no,.no,.no,.no,.no,.no,.no,.no,.no,.no,.no,.no,.ret (I t14),.br false,.no,.no,.no,.no,.no,.no,.no,.no,.no,.no,.br true,.br false,.br true,.no,.no,.no,.no]) (r:=.tup [I a2,I 0,I 0]) (ob:=[(decide ((a2 - a1)≤a3))=true,(decide ((a0 - a2)≤a3))=false,(decide ((a2 - a1)≤a3))=true,Qa (a0 - a2),Qa (a2 - a1),Qa 3,(decide (t14 < 0))=false,Computes cx 52 [.agg [I a2,I 2],.agg [I a1,I 1]] (I t14),Qa 0,Qa 1,Qa 1,Qa 1,(decide (t12 < 0))=true,Computes cx 52 [.agg [I a2,I 2],.agg [I a0,I 0]] (I t12),Qa 1,Qa 2,Qa 0,Qa 0,Qa 0,(decide (t10 < 0))=true,Computes cx 52 [.agg [I a1,I 1],.agg [I a0,I 0]] (I t10),Qa 0,Qa 1,Qa 3,Computes cx 72 [.v (.int .u64 3)] (I t9),(t7 != 0)=false,Computes cx 32 [I a3,I 0,I 1000] (I t7),Qa 3,(t5 != 0)=false,Computes cx 32 [I a2,I (-1000),I 1000] (I t5),Qa 2,(t3 != 0)=false,Computes cx 32 [I a1,I (-1000),I 1000] (I t3),Qa 1,(t1 != 0)=false,Computes cx 32 [I a0,I (-1000),I 1000] (I t1)]) (Ej a0 a1 a2 a3 t1 t3 t5 t7 t9 t10 t12 t14) ⟨(decide_eq_true h18),(decide_eq_false h19),(decide_eq_true h18),h17,h16,(by unfold Qa;omega),(decide_eq_false h15),(Qe h14),(by unfold Qa;omega),(by unfold Qa;omega),(by unfold Qa;omega),(by unfold Qa;omega),(decide_eq_true h13),(Qe h12),(by unfold Qa;omega),(by unfold Qa;omega),(by unfold Qa;omega),(by unfold Qa;omega),(by unfold Qa;omega),(decide_eq_true h11),(Qe h10),(by unfold Qa;omega),(by unfold Qa;omega),(by unfold Qa;omega),(Qo h9),(nef h8),(Qb h7),(by unfold Qa;omega),(nef h6),(Qb h5),(by unfold Qa;omega),(nef h4),(Qb h3),(by unfold Qa;omega),(nef h2),(Qb h1),trivial⟩
        ·replace h:=Qm h h18
         by_cases h19:(a0 - a2)≤a3
         ·replace h:=Ql h h19
          replace h:=Option.some.inj h
          subst h
          exact run (n:=100) (f:=26) (args:=[.agg [I a0,I a1,I a2],I a3]) (orc:=[.no,.no,.ret (I t1),.br false,.no,.no,.no,.no,.ret (I t3),.br false,.no,.no,.no,.ret (I t5),.br false,.no,.no,.no,.ret (I t7),.br false,.br true,.ret (I t9),.br true,.no,.no,.br true,.no,.no,.no,.no,.no,.no,.no,.no,.ret (I t10),.br true,.no,.no,.no,.no,.no,.no,.no,.no,.no,.no,.no,.no,.no,.no,.no,.no,.no,.no,.no,.ret (I t12),.br true,.no,.no,.no,.no,.no,.no,.no,.no,.no,.no,.no,.no,.no,.no,.ret (I t14),.br false,.no,.no,.no,.no,.no,.no,.no,.no,.no,.no,.br false,.no,.br false,.br true,.no,.no,.no,.no]) (r:=.tup [I a2,I 1,I 0]) (ob:=[(decide ((a0 - a2)≤a3))=true,(decide ((a2 - a1)≤a3))=false,(decide ((a2 - a1)≤a3))=false,Qa (a0 - a2),Qa (a2 - a1),Qa 3,(decide (t14 < 0))=false,Computes cx 52 [.agg [I a2,I 2],.agg [I a1,I 1]] (I t14),Qa 0,Qa 1,Qa 1,Qa 1,(decide (t12 < 0))=true,Computes cx 52 [.agg [I a2,I 2],.agg [I a0,I 0]] (I t12),Qa 1,Qa 2,Qa 0,Qa 0,Qa 0,(decide (t10 < 0))=true,Computes cx 52 [.agg [I a1,I 1],.agg [I a0,I 0]] (I t10),Qa 0,Qa 1,Qa 3,Computes cx 72 [.v (.int .u64 3)] (I t9),(t7 != 0)=false,Computes cx 32 [I a3,I 0,I 1000] (I t7),Qa 3,(t5 != 0)=false,Computes cx 32 [I a2,I (-1000),I 1000] (I t5),Qa 2,(t3 != 0)=false,Computes cx 32 [I a1,I (-1000),I 1000] (I t3),Qa 1,(t1 != 0)=false,Computes cx 32 [I a0,I (-1000),I 1000] (I t1)]) (Ei a0 a1 a2 a3 t1 t3 t5 t7 t9 t10 t12 t14) ⟨(decide_eq_true h19),(decide_eq_false h18),(decide_eq_false h18),h17,h16,(by unfold Qa;omega),(decide_eq_false h15),(Qe h14),(by unfold Qa;omega),(by unfold Qa;omega),(by unfold Qa;omega),(by unfold Qa;omega),(decide_eq_true h13),(Qe h12),(by unfold Qa;omega),(by unfold Qa;omega),(by unfold Qa;omega),(by unfold Qa;omega),(by unfold Qa;omega),(decide_eq_true h11),(Qe h10),(by unfold Qa;omega),(by unfold Qa;omega),(by unfold Qa;omega),(Qo h9),(nef h8),(Qb h7),(by unfold Qa;omega),(nef h6),(Qb h5),(by unfold Qa;omega),(nef h4),(Qb h3),(by unfold Qa;omega),(nef h2),(Qb h1),trivial⟩
         ·replace h:=Qm h h19
          replace h:=Option.some.inj h
          subst h
          exact run (n:=100) (f:=26) (args:=[.agg [I a0,I a1,I a2],I a3]) (orc:=[.no,.no,.ret (I t1),.br false,.no,.no,.no,.no,.ret (I t3),.br false,.no,.no,.no,.ret (I t5),.br false,.no,.no,.no,.ret (I t7),.br false,.br true,.ret (I t9),.br true,.no,.no,.br true,.no,.no,.no,.no,.no,.no,.no,.no,.ret (I t10),.br true,.no,.no,.no,.no,.no,.no,.no,.no,.no,.no,.no,.no,.no,.no,.no,.no,.no,.no,.no,.ret (I t12),.br true,.no,.no,.no,.no,.no,.no,.no,.no,.no,.no,.no,.no,.no,.no,.ret (I t14),.br false,.no,.no,.no,.no,.no,.no,.no,.no,.no,.no,.br false,.no,.br false,.br false]) (r:=.tup [I 0,I 0,I 7]) (ob:=[(decide ((a0 - a2)≤a3))=false,(decide ((a2 - a1)≤a3))=false,(decide ((a2 - a1)≤a3))=false,Qa (a0 - a2),Qa (a2 - a1),Qa 3,(decide (t14 < 0))=false,Computes cx 52 [.agg [I a2,I 2],.agg [I a1,I 1]] (I t14),Qa 0,Qa 1,Qa 1,Qa 1,(decide (t12 < 0))=true,Computes cx 52 [.agg [I a2,I 2],.agg [I a0,I 0]] (I t12),Qa 1,Qa 2,Qa 0,Qa 0,Qa 0,(decide (t10 < 0))=true,Computes cx 52 [.agg [I a1,I 1],.agg [I a0,I 0]] (I t10),Qa 0,Qa 1,Qa 3,Computes cx 72 [.v (.int .u64 3)] (I t9),(t7 != 0)=false,Computes cx 32 [I a3,I 0,I 1000] (I t7),Qa 3,(t5 != 0)=false,Computes cx 32 [I a2,I (-1000),I 1000] (I t5),Qa 2,(t3 != 0)=false,Computes cx 32 [I a1,I (-1000),I 1000] (I t3),Qa 1,(t1 != 0)=false,Computes cx 32 [I a0,I (-1000),I 1000] (I t1)]) (Eh a0 a1 a2 a3 t1 t3 t5 t7 t9 t10 t12 t14) ⟨(decide_eq_false h19),(decide_eq_false h18),(decide_eq_false h18),h17,h16,(by unfold Qa;omega),(decide_eq_false h15),(Qe h14),(by unfold Qa;omega),(by unfold Qa;omega),(by unfold Qa;omega),(by unfold Qa;omega),(decide_eq_true h13),(Qe h12),(by unfold Qa;omega),(by unfold Qa;omega),(by unfold Qa;omega),(by unfold Qa;omega),(by unfold Qa;omega),(decide_eq_true h11),(Qe h10),(by unfold Qa;omega),(by unfold Qa;omega),(by unfold Qa;omega),(Qo h9),(nef h8),(Qb h7),(by unfold Qa;omega),(nef h6),(Qb h5),(by unfold Qa;omega),(nef h4),(Qb h3),(by unfold Qa;omega),(nef h2),(Qb h1),trivial⟩
      ·replace h:=Qm h h13
       obtain ⟨h14,h⟩:=Qi h
       obtain ⟨h15,h⟩:=Qi h
       by_cases h16:(a0 - a1)≤a3
       ·replace h:=Ql h h16
        by_cases h17:(a2 - a0)≤a3
        ·replace h:=Ql h h17
         replace h:=Option.some.inj h
         subst h
         exact run (n:=100) (f:=26) (args:=[.agg [I a0,I a1,I a2],I a3]) (orc:=[.no,.no,.ret (I t1),.br false,.no,.no,.no,.no,.ret (I t3),.br false,.no,.no,.no,.ret (I t5),.br false,.no,.no,.no,.ret (I t7),.br false,.br true,.ret (I t9),.br true,.no,.no,.br true,.no,.no,.no,.no,.no,.no,.no,.no,.ret (I t10),.br true,.no,.no,.no,.no,.no,.no,.no,.no,.no,.no,.no,.no,.no,.no,.no,.no,.no,.no,.no,.ret (I t12),.br false,.no,.no,.no,.no,.no,.no,.no,.no,.no,.no,.br true,.br true,.no,.no]) (r:=.tup [I a0,I (-1),I 0]) (ob:=[(decide ((a2 - a0)≤a3))=true,(decide ((a0 - a1)≤a3))=true,Qa (a2 - a0),Qa (a0 - a1),Qa 3,(decide (t12 < 0))=false,Computes cx 52 [.agg [I a2,I 2],.agg [I a0,I 0]] (I t12),Qa 1,Qa 2,Qa 0,Qa 0,Qa 0,(decide (t10 < 0))=true,Computes cx 52 [.agg [I a1,I 1],.agg [I a0,I 0]] (I t10),Qa 0,Qa 1,Qa 3,Computes cx 72 [.v (.int .u64 3)] (I t9),(t7 != 0)=false,Computes cx 32 [I a3,I 0,I 1000] (I t7),Qa 3,(t5 != 0)=false,Computes cx 32 [I a2,I (-1000),I 1000] (I t5),Qa 2,(t3 != 0)=false,Computes cx 32 [I a1,I (-1000),I 1000] (I t3),Qa 1,(t1 != 0)=false,Computes cx 32 [I a0,I (-1000),I 1000] (I t1)]) (Eg a0 a1 a2 a3 t1 t3 t5 t7 t9 t10 t12) ⟨(decide_eq_true h17),(decide_eq_true h16),h15,h14,(by unfold Qa;omega),(decide_eq_false h13),(Qe h12),(by unfold Qa;omega),(by unfold Qa;omega),(by unfold Qa;omega),(by unfold Qa;omega),(by unfold Qa;omega),(decide_eq_true h11),(Qe h10),(by unfold Qa;omega),(by unfold Qa;omega),(by unfold Qa;omega),(Qo h9),(nef h8),(Qb h7),(by unfold Qa;omega),(nef h6),(Qb h5),(by unfold Qa;omega),(nef h4),(Qb h3),(by unfold Qa;omega),(nef h2),(Qb h1),trivial⟩
        ·replace h:=Qm h h17
         replace h:=Option.some.inj h
         subst h
         exact run (n:=100) (f:=26) (args:=[.agg [I a0,I a1,I a2],I a3]) (orc:=[.no,.no,.ret (I t1),.br false,.no,.no,.no,.no,.ret (I t3),.br false,.no,.no,.no,.ret (I t5),.br false,.no,.no,.no,.ret (I t7),.br false,.br true,.ret (I t9),.br true,.no,.no,.br true,.no,.no,.no,.no,.no,.no,.no,.no,.ret (I t10),.br true,.no,.no,.no,.no,.no,.no,.no,.no,.no,.no,.no,.no,.no,.no,.no,.no,.no,.no,.no,.ret (I t12),.br false,.no,.no,.no,.no,.no,.no,.no,.no,.no,.no,.br true,.br false,.br true,.no,.no,.no,.no]) (r:=.tup [I a0,I 2,I 0]) (ob:=[(decide ((a0 - a1)≤a3))=true,(decide ((a2 - a0)≤a3))=false,(decide ((a0 - a1)≤a3))=true,Qa (a2 - a0),Qa (a0 - a1),Qa 3,(decide (t12 < 0))=false,Computes cx 52 [.agg [I a2,I 2],.agg [I a0,I 0]] (I t12),Qa 1,Qa 2,Qa 0,Qa 0,Qa 0,(decide (t10 < 0))=true,Computes cx 52 [.agg [I a1,I 1],.agg [I a0,I 0]] (I t10),Qa 0,Qa 1,Qa 3,Computes cx 72 [.v (.int .u64 3)] (I t9),(t7 != 0)=false,Computes cx 32 [I a3,I 0,I 1000] (I t7),Qa 3,(t5 != 0)=false,Computes cx 32 [I a2,I (-1000),I 1000] (I t5),Qa 2,(t3 != 0)=false,Computes cx 32 [I a1,I (-1000),I 1000] (I t3),Qa 1,(t1 != 0)=false,Computes cx 32 [I a0,I (-1000),I 1000] (I t1)]) (Ef a0 a1 a2 a3 t1 t3 t5 t7 t9 t10 t12) ⟨(decide_eq_true h16),(decide_eq_false h17),(decide_eq_true h16),h15,h14,(by unfold Qa;omega),(decide_eq_false h13),(Qe h12),(by unfold Qa;omega),(by unfold Qa;omega),(by unfold Qa;omega),(by unfold Qa;omega),(by unfold Qa;omega),(decide_eq_true h11),(Qe h10),(by unfold Qa;omega),(by unfold Qa;omega),(by unfold Qa;omega),(Qo h9),(nef h8),(Qb h7),(by unfold Qa;omega),(nef h6),(Qb h5),(by unfold Qa;omega),(nef h4),(Qb h3),(by unfold Qa;omega),(nef h2),(Qb h1),trivial⟩
       ·replace h:=Qm h h16
        by_cases h17:(a2 - a0)≤a3
        ·replace h:=Ql h h17
         replace h:=Option.some.inj h
         subst h
         exact run (n:=100) (f:=26) (args:=[.agg [I a0,I a1,I a2],I a3]) (orc:=[.no,.no,.ret (I t1),.br false,.no,.no,.no,.no,.ret (I t3),.br false,.no,.no,.no,.ret (I t5),.br false,.no,.no,.no,.ret (I t7),.br false,.br true,.ret (I t9),.br true,.no,.no,.br true,.no,.no,.no,.no,.no,.no,.no,.no,.ret (I t10),.br true,.no,.no,.no,.no,.no,.no,.no,.no,.no,.no,.no,.no,.no,.no,.no,.no,.no,.no,.no,.ret (I t12),.br false,.no,.no,.no,.no,.no,.no,.no,.no,.no,.no,.br false,.no,.br false,.br true,.no,.no,.no,.no]) (r:=.tup [I a0,I 1,I 0]) (ob:=[(decide ((a2 - a0)≤a3))=true,(decide ((a0 - a1)≤a3))=false,(decide ((a0 - a1)≤a3))=false,Qa (a2 - a0),Qa (a0 - a1),Qa 3,(decide (t12 < 0))=false,Computes cx 52 [.agg [I a2,I 2],.agg [I a0,I 0]] (I t12),Qa 1,Qa 2,Qa 0,Qa 0,Qa 0,(decide (t10 < 0))=true,Computes cx 52 [.agg [I a1,I 1],.agg [I a0,I 0]] (I t10),Qa 0,Qa 1,Qa 3,Computes cx 72 [.v (.int .u64 3)] (I t9),(t7 != 0)=false,Computes cx 32 [I a3,I 0,I 1000] (I t7),Qa 3,(t5 != 0)=false,Computes cx 32 [I a2,I (-1000),I 1000] (I t5),Qa 2,(t3 != 0)=false,Computes cx 32 [I a1,I (-1000),I 1000] (I t3),Qa 1,(t1 != 0)=false,Computes cx 32 [I a0,I (-1000),I 1000] (I t1)]) (XA a0 a1 a2 a3 t1 t3 t5 t7 t9 t10 t12) ⟨(decide_eq_true h17),(decide_eq_false h16),(decide_eq_false h16),h15,h14,(by unfold Qa;omega),(decide_eq_false h13),(Qe h12),(by unfold Qa;omega),(by unfold Qa;omega),(by unfold Qa;omega),(by unfold Qa;omega),(by unfold Qa;omega),(decide_eq_true h11),(Qe h10),(by unfold Qa;omega),(by unfold Qa;omega),(by unfold Qa;omega),(Qo h9),(nef h8),(Qb h7),(by unfold Qa;omega),(nef h6),(Qb h5),(by unfold Qa;omega),(nef h4),(Qb h3),(by unfold Qa;omega),(nef h2),(Qb h1),trivial⟩
        ·replace h:=Qm h h17
         replace h:=Option.some.inj h
         subst h
         exact run (n:=100) (f:=26) (args:=[.agg [I a0,I a1,I a2],I a3]) (orc:=[.no,.no,.ret (I t1),.br false,.no,.no,.no,.no,.ret (I t3),.br false,.no,.no,.no,.ret (I t5),.br false,.no,.no,.no,.ret (I t7),.br false,.br true,.ret (I t9),.br true,.no,.no,.br true,.no,.no,.no,.no,.no,.no,.no,.no,.ret (I t10),.br true,.no,.no,.no,.no,.no,.no,.no,.no,.no,.no,.no,.no,.no,.no,.no,.no,.no,.no,.no,.ret (I t12),.br false,.no,.no,.no,.no,.no,.no,.no,.no,.no,.no,.br false,.no,.br false,.br false]) (r:=.tup [I 0,I 0,I 7]) (ob:=[(decide ((a2 - a0)≤a3))=false,(decide ((a0 - a1)≤a3))=false,(decide ((a0 - a1)≤a3))=false,Qa (a2 - a0),Qa (a0 - a1),Qa 3,(decide (t12 < 0))=false,Computes cx 52 [.agg [I a2,I 2],.agg [I a0,I 0]] (I t12),Qa 1,Qa 2,Qa 0,Qa 0,Qa 0,(decide (t10 < 0))=true,Computes cx 52 [.agg [I a1,I 1],.agg [I a0,I 0]] (I t10),Qa 0,Qa 1,Qa 3,Computes cx 72 [.v (.int .u64 3)] (I t9),(t7 != 0)=false,Computes cx 32 [I a3,I 0,I 1000] (I t7),Qa 3,(t5 != 0)=false,Computes cx 32 [I a2,I (-1000),I 1000] (I t5),Qa 2,(t3 != 0)=false,Computes cx 32 [I a1,I (-1000),I 1000] (I t3),Qa 1,(t1 != 0)=false,Computes cx 32 [I a0,I (-1000),I 1000] (I t1)]) (Xz a0 a1 a2 a3 t1 t3 t5 t7 t9 t10 t12) ⟨(decide_eq_false h17),(decide_eq_false h16),(decide_eq_false h16),h15,h14,(by unfold Qa;omega),(decide_eq_false h13),(Qe h12),(by unfold Qa;omega),(by unfold Qa;omega),(by unfold Qa;omega),(by unfold Qa;omega),(by unfold Qa;omega),(decide_eq_true h11),(Qe h10),(by unfold Qa;omega),(by unfold Qa;omega),(by unfold Qa;omega),(Qo h9),(nef h8),(Qb h7),(by unfold Qa;omega),(nef h6),(Qb h5),(by unfold Qa;omega),(nef h4),(Qb h3),(by unfold Qa;omega),(nef h2),(Qb h1),trivial⟩
     ·replace h:=Qm h h11
      obtain ⟨t12,h12,h⟩:=Qg h
      by_cases h13:t12 < 0
      ·replace h:=Ql h h13
       obtain ⟨t14,h14,h⟩:=Qg h
       by_cases h15:t14 < 0
       ·replace h:=Ql h h15
        obtain ⟨h16,h⟩:=Qi h
        obtain ⟨h17,h⟩:=Qi h
        by_cases h18:(a0 - a2)≤a3
        ·replace h:=Ql h h18
         by_cases h19:(a1 - a0)≤a3
         ·replace h:=Ql h h19
          replace h:=Option.some.inj h
          subst h
          exact run (n:=100) (f:=26) (args:=[.agg [I a0,I a1,I a2],I a3]) (orc:=[.no,.no,.ret (I t1),.br false,.no,.no,.no,.no,.ret (I t3),.br false,.no,.no,.no,.ret (I t5),.br false,.no,.no,.no,.ret (I t7),.br false,.br true,.ret (I t9),.br true,.no,.no,.br true,.no,.no,.no,.no,.no,.no,.no,.no,.ret (I t10),.br false,.no,.no,.no,.no,.no,.no,.no,.no,.ret (I t12),.br true,.no,.no,.no,.no,.no,.no,.no,.no,.no,.no,.no,.no,.no,.no,.ret (I t14),.br true,.no,.no,.no,.no,.no,.no,.no,.no,.no,.no,.no,.no,.no,.no,.no,.no,.no,.no,.no,.no,.no,.br true,.br true,.no,.no]) (r:=.tup [I a0,I (-1),I 0]) (ob:=[(decide ((a1 - a0)≤a3))=true,(decide ((a0 - a2)≤a3))=true,Qa (a1 - a0),Qa (a0 - a2),Qa 3,Qa 0,Qa 0,Qa 0,(decide (t14 < 0))=true,Computes cx 52 [.agg [I a2,I 2],.agg [I a0,I 0]] (I t14),Qa 0,Qa 1,Qa 1,Qa 1,(decide (t12 < 0))=true,Computes cx 52 [.agg [I a2,I 2],.agg [I a1,I 1]] (I t12),Qa 1,Qa 2,(decide (t10 < 0))=false,Computes cx 52 [.agg [I a1,I 1],.agg [I a0,I 0]] (I t10),Qa 0,Qa 1,Qa 3,Computes cx 72 [.v (.int .u64 3)] (I t9),(t7 != 0)=false,Computes cx 32 [I a3,I 0,I 1000] (I t7),Qa 3,(t5 != 0)=false,Computes cx 32 [I a2,I (-1000),I 1000] (I t5),Qa 2,(t3 != 0)=false,Computes cx 32 [I a1,I (-1000),I 1000] (I t3),Qa 1,(t1 != 0)=false,Computes cx 32 [I a0,I (-1000),I 1000] (I t1)]) (Xy a0 a1 a2 a3 t1 t3 t5 t7 t9 t10 t12 t14) ⟨(decide_eq_true h19),(decide_eq_true h18),h17,h16,(by unfold Qa;omega),(by unfold Qa;omega),(by unfold Qa;omega),(by unfold Qa;omega),(decide_eq_true h15),(Qe h14),(by unfold Qa;omega),(by unfold Qa;omega),(by unfold Qa;omega),(by unfold Qa;omega),(decide_eq_true h13),(Qe h12),(by unfold Qa;omega),(by unfold Qa;omega),(decide_eq_false h11),(Qe h10),(by unfold Qa;omega),(by unfold Qa;omega),(by unfold Qa;omega),(Qo h9),(nef h8),(Qb h7),(by unfold Qa;omega),(nef h6),(Qb h5),(by unfold Qa;omega),(nef h4),(Qb h3),(by unfold Qa;omega),(nef h2),(Qb h1),trivial⟩
         ·replace h:=Qm h h19
          replace h:=Option.some.inj h
          subst h
          exact run (n:=100) (f:=26) (args:=[.agg [I a0,I a1,I a2],I a3]) (orc:=[.no,.no,.ret (I t1),.br false,.no,.no,.no,.no,.ret (I t3),.br false,.no,.no,.no,.ret (I t5),.br false,.no,.no,.no,.ret (I t7),.br false,.br true,.ret (I t9),.br true,.no,.no,.br true,.no,.no,.no,.no,.no,.no,.no,.no,.ret (I t10),.br false,.no,.no,.no,.no,.no,.no,.no,.no,.ret (I t12),.br true,.no,.no,.no,.no,.no,.no,.no,.no,.no,.no,.no,.no,.no,.no,.ret (I t14),.br true,.no,.no,.no,.no,.no,.no,.no,.no,.no,.no,.no,.no,.no,.no,.no,.no,.no,.no,.no,.no,.no,.br true,.br false,.br true,.no,.no,.no,.no]) (r:=.tup [I a0,I 1,I 0]) (ob:=[(decide ((a0 - a2)≤a3))=true,(decide ((a1 - a0)≤a3))=false,(decide ((a0 - a2)≤a3))=true,Qa (a1 - a0),Qa (a0 - a2),Qa 3,Qa 0,Qa 0,Qa 0,(decide (t14 < 0))=true,Computes cx 52 [.agg [I a2,I 2],.agg [I a0,I 0]] (I t14),Qa 0,Qa 1,Qa 1,Qa 1,(decide (t12 < 0))=true,Computes cx 52 [.agg [I a2,I 2],.agg [I a1,I 1]] (I t12),Qa 1,Qa 2,(decide (t10 < 0))=false,Computes cx 52 [.agg [I a1,I 1],.agg [I a0,I 0]] (I t10),Qa 0,Qa 1,Qa 3,Computes cx 72 [.v (.int .u64 3)] (I t9),(t7 != 0)=false,Computes cx 32 [I a3,I 0,I 1000] (I t7),Qa 3,(t5 != 0)=false,Computes cx 32 [I a2,I (-1000),I 1000] (I t5),Qa 2,(t3 != 0)=false,Computes cx 32 [I a1,I (-1000),I 1000] (I t3),Qa 1,(t1 != 0)=false,Computes cx 32 [I a0,I (-1000),I 1000] (I t1)]) (Xx a0 a1 a2 a3 t1 t3 t5 t7 t9 t10 t12 t14) ⟨(decide_eq_true h18),(decide_eq_false h19),(decide_eq_true h18),h17,h16,(by unfold Qa;omega),(by unfold Qa;omega),(by unfold Qa;omega),(by unfold Qa;omega),(decide_eq_true h15),(Qe h14),(by unfold Qa;omega),(by unfold Qa;omega),(by unfold Qa;omega),(by unfold Qa;omega),(decide_eq_true h13),(Qe h12),(by unfold Qa;omega),(by unfold Qa;omega),(decide_eq_false h11),(Qe h10),(by unfold Qa;omega),(by unfold Qa;omega),(by unfold Qa;omega),(Qo h9),(nef h8),(Qb h7),(by unfold Qa;omega),(nef h6),(Qb h5),(by unfold Qa;omega),(nef h4),(Qb h3),(by unfold Qa;omega),(nef h2),(Qb h1),trivial⟩
        ·replace h:=Qm h h18
         by_cases h19:(a1 - a0)≤a3
         ·replace h:=Ql h h19
          replace h:=Option.some.inj h
          subst h
          exact run (n:=100) (f:=26) (args:=[.agg [I a0,I a1,I a2],I a3]) (orc:=[.no,.no,.ret (I t1),.br false,.no,.no,.no,.no,.ret (I t3),.br false,.no,.no,.no,.ret (I t5),.br false,.no,.no,.no,.ret (I t7),.br false,.br true,.ret (I t9),.br true,.no,.no,.br true,.no,.no,.no,.no,.no,.no,.no,.no,.ret (I t10),.br false,.no,.no,.no,.no,.no,.no,.no,.no,.ret (I t12),.br true,.no,.no,.no,.no,.no,.no,.no,.no,.no,.no,.no,.no,.no,.no,.ret (I t14),.br true,.no,.no,.no,.no,.no,.no,.no,.no,.no,.no,.no,.no,.no,.no,.no,.no,.no,.no,.no,.no,.no,.br false,.no,.br false,.br true,.no,.no,.no,.no]) (r:=.tup [I a0,I 2,I 0]) (ob:=[(decide ((a1 - a0)≤a3))=true,(decide ((a0 - a2)≤a3))=false,(decide ((a0 - a2)≤a3))=false,Qa (a1 - a0),Qa (a0 - a2),Qa 3,Qa 0,Qa 0,Qa 0,(decide (t14 < 0))=true,Computes cx 52 [.agg [I a2,I 2],.agg [I a0,I 0]] (I t14),Qa 0,Qa 1,Qa 1,Qa 1,(decide (t12 < 0))=true,Computes cx 52 [.agg [I a2,I 2],.agg [I a1,I 1]] (I t12),Qa 1,Qa 2,(decide (t10 < 0))=false,Computes cx 52 [.agg [I a1,I 1],.agg [I a0,I 0]] (I t10),Qa 0,Qa 1,Qa 3,Computes cx 72 [.v (.int .u64 3)] (I t9),(t7 != 0)=false,Computes cx 32 [I a3,I 0,I 1000] (I t7),Qa 3,(t5 != 0)=false,Computes cx 32 [I a2,I (-1000),I 1000] (I t5),Qa 2,(t3 != 0)=false,Computes cx 32 [I a1,I (-1000),I 1000] (I t3),Qa 1,(t1 != 0)=false,Computes cx 32 [I a0,I (-1000),I 1000] (I t1)]) (Xw a0 a1 a2 a3 t1 t3 t5 t7 t9 t10 t12 t14) ⟨(decide_eq_true h19),(decide_eq_false h18),(decide_eq_false h18),h17,h16,(by unfold Qa;omega),(by unfold Qa;omega),(by unfold Qa;omega),(by unfold Qa;omega),(decide_eq_true h15),(Qe h14),(by unfold Qa;omega),(by unfold Qa;omega),(by unfold Qa;omega),(by unfold Qa;omega),(decide_eq_true h13),(Qe h12),(by unfold Qa;omega),(by unfold Qa;omega),(decide_eq_false h11),(Qe h10),(by unfold Qa;omega),(by unfold Qa;omega),(by unfold Qa;omega),(Qo h9),(nef h8),(Qb h7),(by unfold Qa;omega),(nef h6),(Qb h5),(by unfold Qa;omega),(nef h4),(Qb h3),(by unfold Qa;omega),(nef h2),(Qb h1),trivial⟩
         ·replace h:=Qm h h19
          replace h:=Option.some.inj h
          subst h
          exact run (n:=100) (f:=26) (args:=[.agg [I a0,I a1,I a2],I a3]) (orc:=[.no,.no,.ret (I t1),.br false,.no,.no,.no,.no,.ret (I t3),.br false,.no,.no,.no,.ret (I t5),.br false,.no,.no,.no,.ret (I t7),.br false,.br true,.ret (I t9),.br true,.no,.no,.br true,.no,.no,.no,.no,.no,.no,.no,.no,.ret (I t10),.br false,.no,.no,.no,.no,.no,.no,.no,.no,.ret (I t12),.br true,.no,.no,.no,.no,.no,.no,.no,.no,.no,.no,.no,.no,.no,.no,.ret (I t14),.br true,.no,.no,.no,.no,.no,.no,.no,.no,.no,.no,.no,.no,.no,.no,.no,.no,.no,.no,.no,.no,.no,.br false,.no,.br false,.br false]) (r:=.tup [I 0,I 0,I 7]) (ob:=[(decide ((a1 - a0)≤a3))=false,(decide ((a0 - a2)≤a3))=false,(decide ((a0 - a2)≤a3))=false,Qa (a1 - a0),Qa (a0 - a2),Qa 3,Qa 0,Qa 0,Qa 0,(decide (t14 < 0))=true,Computes cx 52 [.agg [I a2,I 2],.agg [I a0,I 0]] (I t14),Qa 0,Qa 1,Qa 1,Qa 1,(decide (t12 < 0))=true,Computes cx 52 [.agg [I a2,I 2],.agg [I a1,I 1]] (I t12),Qa 1,Qa 2,(decide (t10 < 0))=false,Computes cx 52 [.agg [I a1,I 1],.agg [I a0,I 0]] (I t10),Qa 0,Qa 1,Qa 3,Computes cx 72 [.v (.int .u64 3)] (I t9),(t7 != 0)=false,Computes cx 32 [I a3,I 0,I 1000] (I t7),Qa 3,(t5 != 0)=false,Computes cx 32 [I a2,I (-1000),I 1000] (I t5),Qa 2,(t3 != 0)=false,Computes cx 32 [I a1,I (-1000),I 1000] (I t3),Qa 1,(t1 != 0)=false,Computes cx 32 [I a0,I (-1000),I 1000] (I t1)]) (Xv a0 a1 a2 a3 t1 t3 t5 t7 t9 t10 t12 t14) ⟨(decide_eq_false h19),(decide_eq_false h18),(decide_eq_false h18),h17,h16,(by unfold Qa;omega),(by unfold Qa;omega),(by unfold Qa;omega),(by unfold Qa;omega),(decide_eq_true h15),(Qe h14),(by unfold Qa;omega),(by unfold Qa;omega),(by unfold Qa;omega),(by unfold Qa;omega),(decide_eq_true h13),(Qe h12),(by unfold Qa;omega),(by unfold Qa;omega),(decide_eq_false h11),(Qe h10),(by unfold Qa;omega),(by unfold Qa;omega),(by unfold Qa;omega),(Qo h9),(nef h8),(Qb h7),(by unfold Qa;omega),(nef h6),(Qb h5),(by unfold Qa;omega),(nef h4),(Qb h3),(by unfold Qa;omega),(nef h2),(Qb h1),trivial⟩
       ·replace h:=Qm h h15
        obtain ⟨h16,h⟩:=Qi h
        obtain ⟨h17,h⟩:=Qi h
        by_cases h18:(a2 - a0)≤a3
        ·replace h:=Ql h h18
         by_cases h19:(a1 - a2)≤a3
         ·replace h:=Ql h h19
          replace h:=Option.some.inj h
          subst h
          exact run (n:=100) (f:=26) (args:=[.agg [I a0,I a1,I a2],I a3]) (orc:=[.no,.no,.ret (I t1),.br false,.no,.no,.no,.no,.ret (I t3),.br false,.no,.no,.no,.ret (I t5),.br false,.no,.no,.no,.ret (I t7),.br false,.br true,.ret (I t9),.br true,.no,.no,.br true,.no,.no,.no,.no,.no,.no,.no,.no,.ret (I t10),.br false,.no,.no,.no,.no,.no,.no,.no,.no,.ret (I t12),.br true,.no,.no,.no,.no,.no,.no,.no,.no,.no,.no,.no,.no,.no,.no,.ret (I t14),.br false,.no,.no,.no,.no,.no,.no,.no,.no,.no,.no,.br true,.br true,.no,.no]) (r:=.tup [I a2,I (-1),I 0]) (ob:=[(decide ((a1 - a2)≤a3))=true,(decide ((a2 - a0)≤a3))=true,Qa (a1 - a2),Qa (a2 - a0),Qa 3,(decide (t14 < 0))=false,Computes cx 52 [.agg [I a2,I 2],.agg [I a0,I 0]] (I t14),Qa 0,Qa 1,Qa 1,Qa 1,(decide (t12 < 0))=true,Computes cx 52 [.agg [I a2,I 2],.agg [I a1,I 1]] (I t12),Qa 1,Qa 2,(decide (t10 < 0))=false,Computes cx 52 [.agg [I a1,I 1],.agg [I a0,I 0]] (I t10),Qa 0,Qa 1,Qa 3,Computes cx 72 [.v (.int .u64 3)] (I t9),(t7 != 0)=false,Computes cx 32 [I a3,I 0,I 1000] (I t7),Qa 3,(t5 != 0)=false,Computes cx 32 [I a2,I (-1000),I 1000] (I t5),Qa 2,(t3 != 0)=false,Computes cx 32 [I a1,I (-1000),I 1000] (I t3),Qa 1,(t1 != 0)=false,Computes cx 32 [I a0,I (-1000),I 1000] (I t1)]) (Xu a0 a1 a2 a3 t1 t3 t5 t7 t9 t10 t12 t14) ⟨(decide_eq_true h19),(decide_eq_true h18),h17,h16,(by unfold Qa;omega),(decide_eq_false h15),(Qe h14),(by unfold Qa;omega),(by unfold Qa;omega),(by unfold Qa;omega),(by unfold Qa;omega),(decide_eq_true h13),(Qe h12),(by unfold Qa;omega),(by unfold Qa;omega),(decide_eq_false h11),(Qe h10),(by unfold Qa;omega),(by unfold Qa;omega),(by unfold Qa;omega),(Qo h9),(nef h8),(Qb h7),(by unfold Qa;omega),(nef h6),(Qb h5),(by unfold Qa;omega),(nef h4),(Qb h3),(by unfold Qa;omega),(nef h2),(Qb h1),trivial⟩
         ·replace h:=Qm h h19
          replace h:=Option.some.inj h
          subst h
          exact run (n:=100) (f:=26) (args:=[.agg [I a0,I a1,I a2],I a3]) (orc:=[.no,.no,.ret (I t1),.br false,.no,.no,.no,.no,.ret (I t3),.br false,.no,.no,.no,.ret (I t5),.br false,.no,.no,.no,.ret (I t7),.br false,.br true,.ret (I t9),.br true,.no,.no,.br true,.no,.no,.no,.no,.no,.no,.no,.no,.ret (I t10),.br false,.no,.no,.no,.no,.no,.no,.no,.no,.ret (I t12),.br true,.no,.no,.no,.no,.no,.no,.no,.no,.no,.no,.no,.no,.no,.no,.ret (I t14),.br false,.no,.no,.no,.no,.no,.no,.no,.no,.no,.no,.br true,.br false,.br true,.no,.no,.no,.no]) (r:=.tup [I a2,I 1,I 0]) (ob:=[(decide ((a2 - a0)≤a3))=true,(decide ((a1 - a2)≤a3))=false,(decide ((a2 - a0)≤a3))=true,Qa (a1 - a2),Qa (a2 - a0),Qa 3,(decide (t14 < 0))=false,Computes cx 52 [.agg [I a2,I 2],.agg [I a0,I 0]] (I t14),Qa 0,Qa 1,Qa 1,Qa 1,(decide (t12 < 0))=true,Computes cx 52 [.agg [I a2,I 2],.agg [I a1,I 1]] (I t12),Qa 1,Qa 2,(decide (t10 < 0))=false,Computes cx 52 [.agg [I a1,I 1],.agg [I a0,I 0]] (I t10),Qa 0,Qa 1,Qa 3,Computes cx 72 [.v (.int .u64 3)] (I t9),(t7 != 0)=false,Computes cx 32 [I a3,I 0,I 1000] (I t7),Qa 3,(t5 != 0)=false,Computes cx 32 [I a2,I (-1000),I 1000] (I t5),Qa 2,(t3 != 0)=false,Computes cx 32 [I a1,I (-1000),I 1000] (I t3),Qa 1,(t1 != 0)=false,Computes cx 32 [I a0,I (-1000),I 1000] (I t1)]) (Xt a0 a1 a2 a3 t1 t3 t5 t7 t9 t10 t12 t14) ⟨(decide_eq_true h18),(decide_eq_false h19),(decide_eq_true h18),h17,h16,(by unfold Qa;omega),(decide_eq_false h15),(Qe h14),(by unfold Qa;omega),(by unfold Qa;omega),(by unfold Qa;omega),(by unfold Qa;omega),(decide_eq_true h13),(Qe h12),(by unfold Qa;omega),(by unfold Qa;omega),(decide_eq_false h11),(Qe h10),(by unfold Qa;omega),(by unfold Qa;omega),(by unfold Qa;omega),(Qo h9),(nef h8),(Qb h7),(by unfold Qa;omega),(nef h6),(Qb h5),(by unfold Qa;omega),(nef h4),(Qb h3),(by unfold Qa;omega),(nef h2),(Qb h1),trivial⟩
        ·replace h:=Qm h h18
         by_cases h19:(a1 - a2)≤a3
         ·replace h:=Ql h h19
          replace h:=Option.some.inj h
          subst h
          exact run (n:=100) (f:=26) (args:=[.agg [I a0,I a1,I a2],I a3]) (orc:=[.no,.no,.ret (I t1),.br false,.no,.no,.no,.no,.ret (I t3),.br false,.no,.no,.no,.ret (I t5),.br false,.no,.no,.no,.ret (I t7),.br false,.br true,.ret (I t9),.br true,.no,.no,.br true,.no,.no,.no,.no,.no,.no,.no,.no,.ret (I t10),.br false,.no,.no,.no,.no,.no,.no,.no,.no,.ret (I t12),.br true,.no,.no,.no,.no,.no,.no,.no,.no,.no,.no,.no,.no,.no,.no,.ret (I t14),.br false,.no,.no,.no,.no,.no,.no,.no,.no,.no,.no,.br false,.no,.br false,.br true,.no,.no,.no,.no]) (r:=.tup [I a2,I 0,I 0]) (ob:=[(decide ((a1 - a2)≤a3))=true,(decide ((a2 - a0)≤a3))=false,(decide ((a2 - a0)≤a3))=false,Qa (a1 - a2),Qa (a2 - a0),Qa 3,(decide (t14 < 0))=false,Computes cx 52 [.agg [I a2,I 2],.agg [I a0,I 0]] (I t14),Qa 0,Qa 1,Qa 1,Qa 1,(decide (t12 < 0))=true,Computes cx 52 [.agg [I a2,I 2],.agg [I a1,I 1]] (I t12),Qa 1,Qa 2,(decide (t10 < 0))=false,Computes cx 52 [.agg [I a1,I 1],.agg [I a0,I 0]] (I t10),Qa 0,Qa 1,Qa 3,Computes cx 72 [.v (.int .u64 3)] (I t9),(t7 != 0)=false,Computes cx 32 [I a3,I 0,I 1000] (I t7),Qa 3,(t5 != 0)=false,Computes cx 32 [I a2,I (-1000),I 1000] (I t5),Qa 2,(t3 != 0)=false,Computes cx 32 [I a1,I (-1000),I 1000] (I t3),Qa 1,(t1 != 0)=false,Computes cx 32 [I a0,I (-1000),I 1000] (I t1)]) (Xs a0 a1 a2 a3 t1 t3 t5 t7 t9 t10 t12 t14) ⟨(decide_eq_true h19),(decide_eq_false h18),(decide_eq_false h18),h17,h16,(by unfold Qa;omega),(decide_eq_false h15),(Qe h14),(by unfold Qa;omega),(by unfold Qa;omega),(by unfold Qa;omega),(by unfold Qa;omega),(decide_eq_true h13),(Qe h12),(by unfold Qa;omega),(by unfold Qa;omega),(decide_eq_false h11),(Qe h10),(by unfold Qa;omega),(by unfold Qa;omega),(by unfold Qa;omega),(Qo h9),(nef h8),(Qb h7),(by unfold Qa;omega),(nef h6),(Qb h5),(by unfold Qa;omega),(nef h4),(Qb h3),(by unfold Qa;omega),(nef h2),(Qb h1),trivial⟩
         ·replace h:=Qm h h19
          replace h:=Option.some.inj h
          subst h
          exact run (n:=100) (f:=26) (args:=[.agg [I a0,I a1,I a2],I a3]) (orc:=[.no,.no,.ret (I t1),.br false,.no,.no,.no,.no,.ret (I t3),.br false,.no,.no,.no,.ret (I t5),.br false,.no,.no,.no,.ret (I t7),.br false,.br true,.ret (I t9),.br true,.no,.no,.br true,.no,.no,.no,.no,.no,.no,.no,.no,.ret (I t10),.br false,.no,.no,.no,.no,.no,.no,.no,.no,.ret (I t12),.br true,.no,.no,.no,.no,.no,.no,.no,.no,.no,.no,.no,.no,.no,.no,.ret (I t14),.br false,.no,.no,.no,.no,.no,.no,.no,.no,.no,.no,.br false,.no,.br false,.br false]) (r:=.tup [I 0,I 0,I 7]) (ob:=[(decide ((a1 - a2)≤a3))=false,(decide ((a2 - a0)≤a3))=false,(decide ((a2 - a0)≤a3))=false,Qa (a1 - a2),Qa (a2 - a0),Qa 3,(decide (t14 < 0))=false,Computes cx 52 [.agg [I a2,I 2],.agg [I a0,I 0]] (I t14),Qa 0,Qa 1,Qa 1,Qa 1,(decide (t12 < 0))=true,Computes cx 52 [.agg [I a2,I 2],.agg [I a1,I 1]] (I t12),Qa 1,Qa 2,(decide (t10 < 0))=false,Computes cx 52 [.agg [I a1,I 1],.agg [I a0,I 0]] (I t10),Qa 0,Qa 1,Qa 3,Computes cx 72 [.v (.int .u64 3)] (I t9),(t7 != 0)=false,Computes cx 32 [I a3,I 0,I 1000] (I t7),Qa 3,(t5 != 0)=false,Computes cx 32 [I a2,I (-1000),I 1000] (I t5),Qa 2,(t3 != 0)=false,Computes cx 32 [I a1,I (-1000),I 1000] (I t3),Qa 1,(t1 != 0)=false,Computes cx 32 [I a0,I (-1000),I 1000] (I t1)]) (Xr a0 a1 a2 a3 t1 t3 t5 t7 t9 t10 t12 t14) ⟨(decide_eq_false h19),(decide_eq_false h18),(decide_eq_false h18),h17,h16,(by unfold Qa;omega),(decide_eq_false h15),(Qe h14),(by unfold Qa;omega),(by unfold Qa;omega),(by unfold Qa;omega),(by unfold Qa;omega),(decide_eq_true h13),(Qe h12),(by unfold Qa;omega),(by unfold Qa;omega),(decide_eq_false h11),(Qe h10),(by unfold Qa;omega),(by unfold Qa;omega),(by unfold Qa;omega),(Qo h9),(nef h8),(Qb h7),(by unfold Qa;omega),(nef h6),(Qb h5),(by unfold Qa;omega),(nef h4),(Qb h3),(by unfold Qa;omega),(nef h2),(Qb h1),trivial⟩
      ·replace h:=Qm h h13
       obtain ⟨h14,h⟩:=Qi h
       obtain ⟨h15,h⟩:=Qi h
       by_cases h16:(a1 - a0)≤a3
       ·replace h:=Ql h h16
        by_cases h17:(a2 - a1)≤a3
        ·replace h:=Ql h h17
         replace h:=Option.some.inj h
         subst h
         exact run (n:=100) (f:=26) (args:=[.agg [I a0,I a1,I a2],I a3]) (orc:=[.no,.no,.ret (I t1),.br false,.no,.no,.no,.no,.ret (I t3),.br false,.no,.no,.no,.ret (I t5),.br false,.no,.no,.no,.ret (I t7),.br false,.br true,.ret (I t9),.br true,.no,.no,.br true,.no,.no,.no,.no,.no,.no,.no,.no,.ret (I t10),.br false,.no,.no,.no,.no,.no,.no,.no,.no,.ret (I t12),.br false,.no,.no,.no,.no,.no,.no,.no,.no,.no,.no,.br true,.br true,.no,.no]) (r:=.tup [I a1,I (-1),I 0]) (ob:=[(decide ((a2 - a1)≤a3))=true,(decide ((a1 - a0)≤a3))=true,Qa (a2 - a1),Qa (a1 - a0),Qa 3,(decide (t12 < 0))=false,Computes cx 52 [.agg [I a2,I 2],.agg [I a1,I 1]] (I t12),Qa 1,Qa 2,(decide (t10 < 0))=false,Computes cx 52 [.agg [I a1,I 1],.agg [I a0,I 0]] (I t10),Qa 0,Qa 1,Qa 3,Computes cx 72 [.v (.int .u64 3)] (I t9),(t7 != 0)=false,Computes cx 32 [I a3,I 0,I 1000] (I t7),Qa 3,(t5 != 0)=false,Computes cx 32 [I a2,I (-1000),I 1000] (I t5),Qa 2,(t3 != 0)=false,Computes cx 32 [I a1,I (-1000),I 1000] (I t3),Qa 1,(t1 != 0)=false,Computes cx 32 [I a0,I (-1000),I 1000] (I t1)]) (Xq a0 a1 a2 a3 t1 t3 t5 t7 t9 t10 t12) ⟨(decide_eq_true h17),(decide_eq_true h16),h15,h14,(by unfold Qa;omega),(decide_eq_false h13),(Qe h12),(by unfold Qa;omega),(by unfold Qa;omega),(decide_eq_false h11),(Qe h10),(by unfold Qa;omega),(by unfold Qa;omega),(by unfold Qa;omega),(Qo h9),(nef h8),(Qb h7),(by unfold Qa;omega),(nef h6),(Qb h5),(by unfold Qa;omega),(nef h4),(Qb h3),(by unfold Qa;omega),(nef h2),(Qb h1),trivial⟩
        ·replace h:=Qm h h17
         replace h:=Option.some.inj h
         subst h
         exact run (n:=100) (f:=26) (args:=[.agg [I a0,I a1,I a2],I a3]) (orc:=[.no,.no,.ret (I t1),.br false,.no,.no,.no,.no,.ret (I t3),.br false,.no,.no,.no,.ret (I t5),.br false,.no,.no,.no,.ret (I t7),.br false,.br true,.ret (I t9),.br true,.no,.no,.br true,.no,.no,.no,.no,.no,.no,.no,.no,.ret (I t10),.br false,.no,.no,.no,.no,.no,.no,.no,.no,.ret (I t12),.br false,.no,.no,.no,.no,.no,.no,.no,.no,.no,.no,.br true,.br false,.br true,.no,.no,.no,.no]) (r:=.tup [I a1,I 2,I 0]) (ob:=[(decide ((a1 - a0)≤a3))=true,(decide ((a2 - a1)≤a3))=false,(decide ((a1 - a0)≤a3))=true,Qa (a2 - a1),Qa (a1 - a0),Qa 3,(decide (t12 < 0))=false,Computes cx 52 [.agg [I a2,I 2],.agg [I a1,I 1]] (I t12),Qa 1,Qa 2,(decide (t10 < 0))=false,Computes cx 52 [.agg [I a1,I 1],.agg [I a0,I 0]] (I t10),Qa 0,Qa 1,Qa 3,Computes cx 72 [.v (.int .u64 3)] (I t9),(t7 != 0)=false,Computes cx 32 [I a3,I 0,I 1000] (I t7),Qa 3,(t5 != 0)=false,Computes cx 32 [I a2,I (-1000),I 1000] (I t5),Qa 2,(t3 != 0)=false,Computes cx 32 [I a1,I (-1000),I 1000] (I t3),Qa 1,(t1 != 0)=false,Computes cx 32 [I a0,I (-1000),I 1000] (I t1)]) (Xp a0 a1 a2 a3 t1 t3 t5 t7 t9 t10 t12) ⟨(decide_eq_true h16),(decide_eq_false h17),(decide_eq_true h16),h15,h14,(by unfold Qa;omega),(decide_eq_false h13),(Qe h12),(by unfold Qa;omega),(by unfold Qa;omega),(decide_eq_false h11),(Qe h10),(by unfold Qa;omega),(by unfold Qa;omega),(by unfold Qa;omega),(Qo h9),(nef h8),(Qb h7),(by unfold Qa;omega),(nef h6),(Qb h5),(by unfold Qa;omega),(nef h4),(Qb h3),(by unfold Qa;omega),(nef h2),(Qb h1),trivial⟩
       ·replace h:=Qm h h16
        by_cases h17:(a2 - a1)≤a3
        ·replace h:=Ql h h17
         replace h:=Option.some.inj h
         subst h
         exact run (n:=100) (f:=26) (args:=[.agg [I a0,I a1,I a2],I a3]) (orc:=[.no,.no,.ret (I t1),.br false,.no,.no,.no,.no,.ret (I t3),.br false,.no,.no,.no,.ret (I t5),.br false,.no,.no,.no,.ret (I t7),.br false,.br true,.ret (I t9),.br true,.no,.no,.br true,.no,.no,.no,.no,.no,.no,.no,.no,.ret (I t10),.br false,.no,.no,.no,.no,.no,.no,.no,.no,.ret (I t12),.br false,.no,.no,.no,.no,.no,.no,.no,.no,.no,.no,.br false,.no,.br false,.br true,.no,.no,.no,.no]) (r:=.tup [I a1,I 0,I 0]) (ob:=[(decide ((a2 - a1)≤a3))=true,(decide ((a1 - a0)≤a3))=false,(decide ((a1 - a0)≤a3))=false,Qa (a2 - a1),Qa (a1 - a0),Qa 3,(decide (t12 < 0))=false,Computes cx 52 [.agg [I a2,I 2],.agg [I a1,I 1]] (I t12),Qa 1,Qa 2,(decide (t10 < 0))=false,Computes cx 52 [.agg [I a1,I 1],.agg [I a0,I 0]] (I t10),Qa 0,Qa 1,Qa 3,Computes cx 72 [.v (.int .u64 3)] (I t9),(t7 != 0)=false,Computes cx 32 [I a3,I 0,I 1000] (I t7),Qa 3,(t5 != 0)=false,Computes cx 32 [I a2,I (-1000),I 1000] (I t5),Qa 2,(t3 != 0)=false,Computes cx 32 [I a1,I (-1000),I 1000] (I t3),Qa 1,(t1 != 0)=false,Computes cx 32 [I a0,I (-1000),I 1000] (I t1)]) (Xo a0 a1 a2 a3 t1 t3 t5 t7 t9 t10 t12) ⟨(decide_eq_true h17),(decide_eq_false h16),(decide_eq_false h16),h15,h14,(by unfold Qa;omega),(decide_eq_false h13),(Qe h12),(by unfold Qa;omega),(by unfold Qa;omega),(decide_eq_false h11),(Qe h10),(by unfold Qa;omega),(by unfold Qa;omega),(by unfold Qa;omega),(Qo h9),(nef h8),(Qb h7),(by unfold Qa;omega),(nef h6),(Qb h5),(by unfold Qa;omega),(nef h4),(Qb h3),(by unfold Qa;omega),(nef h2),(Qb h1),trivial⟩
        ·replace h:=Qm h h17
         replace h:=Option.some.inj h
         subst h
         exact run (n:=100) (f:=26) (args:=[.agg [I a0,I a1,I a2],I a3]) (orc:=[.no,.no,.ret (I t1),.br false,.no,.no,.no,.no,.ret (I t3),.br false,.no,.no,.no,.ret (I t5),.br false,.no,.no,.no,.ret (I t7),.br false,.br true,.ret (I t9),.br true,.no,.no,.br true,.no,.no,.no,.no,.no,.no,.no,.no,.ret (I t10),.br false,.no,.no,.no,.no,.no,.no,.no,.no,.ret (I t12),.br false,.no,.no,.no,.no,.no,.no,.no,.no,.no,.no,.br false,.no,.br false,.br false]) (r:=.tup [I 0,I 0,I 7]) (ob:=[(decide ((a2 - a1)≤a3))=false,(decide ((a1 - a0)≤a3))=false,(decide ((a1 - a0)≤a3))=false,Qa (a2 - a1),Qa (a1 - a0),Qa 3,(decide (t12 < 0))=false,Computes cx 52 [.agg [I a2,I 2],.agg [I a1,I 1]] (I t12),Qa 1,Qa 2,(decide (t10 < 0))=false,Computes cx 52 [.agg [I a1,I 1],.agg [I a0,I 0]] (I t10),Qa 0,Qa 1,Qa 3,Computes cx 72 [.v (.int .u64 3)] (I t9),(t7 != 0)=false,Computes cx 32 [I a3,I 0,I 1000] (I t7),Qa 3,(t5 != 0)=false,Computes cx 32 [I a2,I (-1000),I 1000] (I t5),Qa 2,(t3 != 0)=false,Computes cx 32 [I a1,I (-1000),I 1000] (I t3),Qa 1,(t1 != 0)=false,Computes cx 32 [I a0,I (-1000),I 1000] (I t1)]) (Xn a0 a1 a2 a3 t1 t3 t5 t7 t9 t10 t12) ⟨(decide_eq_false h17),(decide_eq_false h16),(decide_eq_false h16),h15,h14,(by unfold Qa;omega),(decide_eq_false h13),(Qe h12),(by unfold Qa;omega),(by unfold Qa;omega),(decide_eq_false h11),(Qe h10),(by unfold Qa;omega),(by unfold Qa;omega),(by unfold Qa;omega),(Qo h9),(nef h8),(Qb h7),(by unfold Qa;omega),(nef h6),(Qb h5),(by unfold Qa;omega),(nef h4),(Qb h3),(by unfold Qa;omega),(nef h2),(Qb h1),trivial⟩
    ·replace h:=Qm h h8
     replace h:=Option.some.inj h
     subst h
     exact run (n:=100) (f:=26) (args:=[.agg [I a0,I a1,I a2],I a3]) (orc:=[.no,.no,.ret (I t1),.br false,.no,.no,.no,.no,.ret (I t3),.br false,.no,.no,.no,.ret (I t5),.br false,.no,.no,.no,.ret (I t7),.br true]) (r:=.tup [I 0,I 0,I t7]) (ob:=[(t7 != 0)=true,Computes cx 32 [I a3,I 0,I 1000] (I t7),Qa 3,(t5 != 0)=false,Computes cx 32 [I a2,I (-1000),I 1000] (I t5),Qa 2,(t3 != 0)=false,Computes cx 32 [I a1,I (-1000),I 1000] (I t3),Qa 1,(t1 != 0)=false,Computes cx 32 [I a0,I (-1000),I 1000] (I t1)]) (Xm a0 a1 a2 a3 t1 t3 t5 t7) ⟨(net h8),(Qb h7),(by unfold Qa;omega),(nef h6),(Qb h5),(by unfold Qa;omega),(nef h4),(Qb h3),(by unfold Qa;omega),(nef h2),(Qb h1),trivial⟩
   ·replace h:=Qm h h6
    replace h:=Option.some.inj h
    subst h
    exact run (n:=100) (f:=26) (args:=[.agg [I a0,I a1,I a2],I a3]) (orc:=[.no,.no,.ret (I t1),.br false,.no,.no,.no,.no,.ret (I t3),.br false,.no,.no,.no,.ret (I t5),.br true]) (r:=.tup [I 0,I 0,I t5]) (ob:=[(t5 != 0)=true,Computes cx 32 [I a2,I (-1000),I 1000] (I t5),Qa 2,(t3 != 0)=false,Computes cx 32 [I a1,I (-1000),I 1000] (I t3),Qa 1,(t1 != 0)=false,Computes cx 32 [I a0,I (-1000),I 1000] (I t1)]) (Xl a0 a1 a2 a3 t1 t3 t5) ⟨(net h6),(Qb h5),(by unfold Qa;omega),(nef h4),(Qb h3),(by unfold Qa;omega),(nef h2),(Qb h1),trivial⟩
  ·replace h:=Qm h h4
   replace h:=Option.some.inj h
   subst h
   exact run (n:=100) (f:=26) (args:=[.agg [I a0,I a1,I a2],I a3]) (orc:=[.no,.no,.ret (I t1),.br false,.no,.no,.no,.no,.ret (I t3),.br true]) (r:=.tup [I 0,I 0,I t3]) (ob:=[(t3 != 0)=true,Computes cx 32 [I a1,I (-1000),I 1000] (I t3),Qa 1,(t1 != 0)=false,Computes cx 32 [I a0,I (-1000),I 1000] (I t1)]) (Xk a0 a1 a2 a3 t1 t3) ⟨(net h4),(Qb h3),(by unfold Qa;omega),(nef h2),(Qb h1),trivial⟩
 ·replace h:=Qm h h2
  replace h:=Option.some.inj h
  subst h
  exact run (n:=100) (f:=26) (args:=[.agg [I a0,I a1,I a2],I a3]) (orc:=[.no,.no,.ret (I t1),.br true]) (r:=.tup [I 0,I 0,I t1]) (ob:=[(t1 != 0)=true,Computes cx 32 [I a0,I (-1000),I 1000] (I t1)]) (Xj a0 a1 a2 a3 t1) ⟨(net h2),(Qb h1),trivial⟩
def F_light_when (n:Nat) (a0:Bool) (a1:Int):Option (Int) :=
 if a0=true then
  some a1
 else
 some 0
theorem c_light_when {n:Nat} {a0:Bool} {a1:Int} {r:Int} (h:F_light_when n a0 a1=some r):Computes cx 57 [B a0,I a1] (I r):=by
 unfold F_light_when at h
 by_cases h1:a0=true
 ·replace h:=Ql h h1
  replace h:=Option.some.inj h
  subst h
  exact run (n:=100) (f:=57) (args:=[B a0,I a1]) (orc:=[.br true]) (r:=I a1) (ob:=[a0=true]) (by kernel_rfl) ⟨h1,trivial⟩
 ·replace h:=Qm h h1
  replace h:=Option.some.inj h
  subst h
  exact run (n:=100) (f:=57) (args:=[B a0,I a1]) (orc:=[.br false]) (r:=I 0) (ob:=[a0=false]) (by kernel_rfl) ⟨(QI h1),trivial⟩
def Z9 (n:Nat) (a0:List D) (sa:(Int)):Option (((Int))⊕((Int)⊕(Unit))) :=
 if sa < ((a0).length:Int) then
  (el XV a0 sa).bind fun ta2 =>
  if ta2=0 then
   if Qa (sa+1) then
   some (.inl (sa+1))
   else none
  else
  some (.inr (.inl ta2))
 else
 some (.inr (.inr ()))
noncomputable def qz (a0:List D) (sa:(Int)):List (Nat×AV):=[(5,.d (.lst false 1 a0)),(6,.d (I ((a0).length:Int))),(7,.d (I sa))]
noncomputable def qH (a0:List D) (sa:(Int)):List (Nat×Blk):=[]
noncomputable def qt (a0:List D) (e:(Int)⊕(Unit)):Ex:=match e with
 | (.inl e)=>.ret
 | (.inr e)=>(.exit 0)
noncomputable def EI (a0:List D) (e:(Int)⊕(Unit)):List (Nat×AV):=match e with
 | (.inl e)=>[(2,.d (I e))]
 | (.inr e)=>[]
noncomputable def EO (a0:List D) (e:(Int)⊕(Unit)):List (Nat×Blk):=match e with
 | (.inl e)=>[]
 | (.inr e)=>[]
theorem Ko {n:Nat} {a0:List D} (sa:(Int)) (r) (h:Z9 n a0 sa=some r):Rd cx (Qu cx.P 56 0) 15 0 false (qz a0) (qH a0) (qt a0) (EI a0) (EO a0) sa r:=by
 unfold Z9 at h
 by_cases ha1:sa < ((a0).length:Int)
 ·replace h:=Ql h ha1
  obtain ⟨ta2,ha2,h⟩:=Qg h
  by_cases ha3:ta2=0
  ·replace h:=Ql h ha3
   obtain ⟨ha4,h⟩:=Qi h
   replace h:=Option.some.inj h
   subst h
   exact ⟨100,4,[.br true,.el (I ta2),.br false],[],[5,6,7],[],Qk (ob:=[Qa (sa+1),(ta2 != 0)=false,(0:Int)≤sa,nth (a0) (Int.toNat sa)=some (I ta2),(decide (sa < ((a0).length:Int)))=true]) (by kernel_rfl) ⟨ha4,(nef ha3),(Qs QG ha2).1,(Qs QG ha2).2,(decide_eq_true ha1),trivial⟩⟩
  ·replace h:=Qm h ha3
   replace h:=Option.some.inj h
   subst h
   exact ⟨⟨100,4,[.br true,.el (I ta2),.br true],[],[2],[],Qk (ob:=[(ta2 != 0)=true,(0:Int)≤sa,nth (a0) (Int.toNat sa)=some (I ta2),(decide (sa < ((a0).length:Int)))=true]) (by kernel_rfl) ⟨(net ha3),(Qs QG ha2).1,(Qs QG ha2).2,(decide_eq_true ha1),trivial⟩⟩,nofun⟩
 ·replace h:=Qm h ha1
  replace h:=Option.some.inj h
  subst h
  exact ⟨⟨100,4,[.br false],[],[],[],Qk (ob:=[(decide (sa < ((a0).length:Int)))=false]) (by kernel_rfl) ⟨(decide_eq_false ha1),trivial⟩⟩,nofun⟩
def W9 (n:Nat) (a0:List D):Option (Int) :=
 (Q2 (Z9 n a0) n 0).bind fun t1=>match t1 with
  | (.inl t1)=>(
   some t1)
  | (.inr t1)=>(
   some 0)
theorem wI {n:Nat} {a0:List D} {r:Int} (h:W9 n a0=some r):Computes cx 56 [.lst false 1 a0] (I r):=by
 unfold W9 at h
 obtain ⟨t1,h1,h⟩:=Qg h
 rcases t1 with t1 | t1
 ·replace h:=Option.some.inj h
  subst h
  exact run (n:=100) (f:=56) (args:=[.lst false 1 a0]) (orc:=[.lp [] [5,6,7] [] .ret [(2,.d (I t1))] [] 23]) (r:=I t1) (ob:=[QV cx (Qu cx.P 56 0) 15 0 false [(5,.d (.lst false 1 a0)),(6,.d (I ((a0).length:Int))),(7,.d (I 0))] [] .ret [(2,.d (I t1))] []]) (by kernel_rfl) ⟨(Qv Ko h1),trivial⟩
 ·replace h:=Option.some.inj h
  subst h
  exact run (n:=100) (f:=56) (args:=[.lst false 1 a0]) (orc:=[.lp [] [5,6,7] [] (.exit 0) [] [] 23]) (r:=I 0) (ob:=[QV cx (Qu cx.P 56 0) 15 0 false [(5,.d (.lst false 1 a0)),(6,.d (I ((a0).length:Int))),(7,.d (I 0))] [] (.exit 0) [] []]) (by kernel_rfl) ⟨(Qv Ko h1),trivial⟩
def Ze (x:Nat):D:=.v (.float .f32 x)
def Gn (d:D):Option (Nat):=yQ .f32 d
theorem Q9 {d:D} {x:Nat} (h:Gn d=some x):d=Ze x:=Qah h
def QT (n:Nat) (a0:Nat):Option (Int) :=
 (V0 n a0).bind fun t1 =>
 (F_light_when n t1 1).bind fun t2 =>
 (Zf n a0 1149239296).bind fun t3 =>
 (W9 n ([I t2,I t3])).bind fun t4 =>
 some t4
theorem Zk {n:Nat} {a0:Nat} {r:Int} (h:QT n a0=some r):Computes cx 31 [.v (.float .f32 a0)] (I r):=by
 unfold QT at h
 obtain ⟨t1,h1,h⟩:=Qg h
 obtain ⟨t2,h2,h⟩:=Qg h
 obtain ⟨t3,h3,h⟩:=Qg h
 obtain ⟨t4,h4,h⟩:=Qg h
 replace h:=Option.some.inj h
 subst h
 exact run (n:=100) (f:=31) (args:=[.v (.float .f32 a0)]) (orc:=[.ret (B t1),.ret (I t2),.ret (I t3),.ret (I t4)]) (r:=I t4) (ob:=[Computes cx 56 [.lst true 1 [I t2,I t3]] (I t4),Computes cx 59 [.v (.float .f32 a0),.v (.float .f32 1149239296)] (I t3),Computes cx 57 [B t1,I 1] (I t2),Computes cx 58 [.v (.float .f32 a0)] (B t1)]) (by kernel_rfl) ⟨((wI h4).le (.cons (.full _ _ _) (.nil)) (.refl _)),(wm h3),(c_light_when h2),(qg h1),trivial⟩
def QU (n:Nat) (a0:List D) (sa:(Int×List D)):Option (((Int×List D))⊕((List D))) :=
 if sa.1 < ((a0).length:Int) then
  (el Gn a0 sa.1).bind fun ta2 =>
  (QT n ta2).bind fun ta3 =>
  if ZZ 8 ((sa.2).length+1) then
  if Qa (sa.1+1) then
  some (.inl ((sa.1+1),(sa.2++([I ta3]:List D))))
  else none
  else none
 else
 some (.inr sa.2)
noncomputable def Jr (a0:List D) (sa:(Int×List D)):List (Nat×AV):=[(1,.d (.fn (.func 31) [] [])),(5,.own 5 0),(8,.d (.lst false 1 a0)),(9,.d (I ((a0).length:Int))),(10,.d (I sa.1))]
noncomputable def JA (a0:List D) (sa:(Int×List D)):List (Nat×Blk):=[(5,.row 0 1 sa.2)]
noncomputable def Je (a0:List D) (e:(List D)):Ex:=(.exit 0)
noncomputable def KR (a0:List D) (e:(List D)):List (Nat×AV):=[(5,.own 5 0)]
noncomputable def KW (a0:List D) (e:(List D)):List (Nat×Blk):=[(5,.row 0 1 e)]
theorem Jw {n:Nat} {a0:List D} (sa:(Int×List D)) (r) (h:QU n a0 sa=some r):Rd cx (Qu cx.P 30 0) 22 0 false (Jr a0) (JA a0) (Je a0) (KR a0) (KW a0) sa r:=by
 unfold QU at h
 by_cases ha1:sa.1 < ((a0).length:Int)
 ·replace h:=Ql h ha1
  obtain ⟨ta2,ha2,h⟩:=Qg h
  obtain ⟨ta3,ha3,h⟩:=Qg h
  obtain ⟨ha4,h⟩:=Qi h
  obtain ⟨ha5,h⟩:=Qi h
  replace h:=Option.some.inj h
  subst h
  exact ⟨100,6,[.br true,.el (.v (.float .f32 ta2)),.ret (I ta3),.br true],[],[1,5,8,9,10],[5],Qk (ob:=[Qa (sa.1+1),room cx 27 ((sa.2).length+1),Computes cx 31 [.v (.float .f32 ta2)] (I ta3),(0:Int)≤sa.1,nth (a0) (Int.toNat sa.1)=some (.v (.float .f32 ta2)),(decide (sa.1 < ((a0).length:Int)))=true]) (by kernel_rfl) ⟨ha5,(Zp (b:=8) (by kernel_rfl) (by decide) ha4),(Zk ha3),(Qs Q9 ha2).1,(Qs Q9 ha2).2,(decide_eq_true ha1),trivial⟩⟩
 ·replace h:=Qm h ha1
  replace h:=Option.some.inj h
  subst h
  exact ⟨⟨100,6,[.br false],[],[5],[5],Qk (ob:=[(decide (sa.1 < ((a0).length:Int)))=false]) (by kernel_rfl) ⟨(decide_eq_false ha1),trivial⟩⟩,nofun⟩
def Zn (n:Nat) (a0:List D):Option (List D) :=
 (Q2 (QU n a0) n (0,[])).bind fun t1 =>
 some t1
theorem Wg {n:Nat} {a0:List D} {r:List D} (h:Zn n a0=some r):Computes cx 30 [.lst false 1 a0,.fn (.func 31) [] []] (.lst false 1 r):=by
 unfold Zn at h
 obtain ⟨t1,h1,h⟩:=Qg h
 replace h:=Option.some.inj h
 subst h
 exact run (n:=100) (f:=30) (args:=[.lst false 1 a0,.fn (.func 31) [] []]) (orc:=[.lp [5,1] [1,5,8,9,10] [5] (.exit 0) [(5,.own 5 0)] [(5,.row 0 1 t1)] 30]) (r:=.lst false 1 t1) (ob:=[QV cx (Qu cx.P 30 0) 22 0 false [(1,.d (.fn (.func 31) [] [])),(5,.own 5 0),(8,.d (.lst false 1 a0)),(9,.d (I ((a0).length:Int))),(10,.d (I 0))] [(5,.row 0 1 [])] (.exit 0) [(5,.own 5 0)] [(5,.row 0 1 t1)]]) (by kernel_rfl) ⟨(Qv Jw h1),trivial⟩
def QR (n:Nat) (a0:List D) (a1:Nat) (a2:Int) (sa:(Int×Int×List D)):Option (((Int×Int×List D))⊕((List D))) :=
 if sa.2.1 < (((a0++([.v (.float .f32 a1)]:List D)):List D).length:Int) then
  if 0≤sa.2.1∧sa.2.1 < (((a0++([.v (.float .f32 a1)]:List D)):List D).length:Int) then
  ((nth ((a0++([.v (.float .f32 a1)]:List D)):List D) (Int.toNat sa.2.1)).bind Gn).bind fun ta3 =>
  if ((FloatKind.format .f32).order ta3 a1 == some .gt)=true then
   if Qa (sa.2.1+1) then
   some (.inl (sa.1,(sa.2.1+1),sa.2.2))
   else none
  else
  if Qa (sa.2.1 - sa.1) then
  if (sa.2.1 - sa.1) ≥ a2 then
   if ZZ 16 ((sa.2.2).length+1) then
   if Qa (sa.2.1+1) then
   some (.inl ((sa.2.1+1),(sa.2.1+1),(sa.2.2++([.agg [I sa.1,I sa.2.1]]:List D))))
   else none
   else none
  else
  if Qa (sa.2.1+1) then
  some (.inl ((sa.2.1+1),(sa.2.1+1),sa.2.2))
  else none
  else none
  else none
 else
 some (.inr sa.2.2)
noncomputable def KZ (a0:List D) (a1:Nat) (a2:Int) (sa:(Int×Int×List D)):List (Nat×AV):=[(1,.d (.v (.float .f32 a1))),(2,.d (I a2)),(9,.own 33 0),(10,.d (I sa.1)),(32,.own 31 0),(33,.d (I (((a0++([.v (.float .f32 a1)]:List D)):List D).length:Int))),(34,.d (I sa.2.1))]
noncomputable def K4 (a0:List D) (a1:Nat) (a2:Int) (sa:(Int×Int×List D)):List (Nat×Blk):=[(31,.row 0 1 (a0++([.v (.float .f32 a1)]:List D))),(33,.row 0 2 sa.2.2)]
noncomputable def KO (a0:List D) (a1:Nat) (a2:Int) (e:(List D)):Ex:=(.exit 0)
noncomputable def Kk (a0:List D) (a1:Nat) (a2:Int) (e:(List D)):List (Nat×AV):=[(9,.own 33 0)]
noncomputable def Kl (a0:List D) (a1:Nat) (a2:Int) (e:(List D)):List (Nat×Blk):=[(33,.row 0 2 e)]
theorem K0 {n:Nat} {a0:List D} {a1:Nat} {a2:Int} (sa:(Int×Int×List D)) (r) (h:QR n a0 a1 a2 sa=some r):Rd cx (Qu cx.P 6 0) 57 0 false (KZ a0 a1 a2) (K4 a0 a1 a2) (KO a0 a1 a2) (Kk a0 a1 a2) (Kl a0 a1 a2) sa r:=by
 unfold QR at h
 by_cases ha1:sa.2.1 < (((a0++([.v (.float .f32 a1)]:List D)):List D).length:Int)
 ·replace h:=Ql h ha1
  obtain ⟨ha2,h⟩:=Qi h
  obtain ⟨ta3,ha3,h⟩:=Qg h
  by_cases ha4:((FloatKind.format .f32).order ta3 a1 == some .gt)=true
  ·replace h:=Ql h ha4
   obtain ⟨ha5,h⟩:=Qi h
   replace h:=Option.some.inj h
   subst h
   exact ⟨100,34,[.br true,.br true,.el (.v (.float .f32 ta3)),.br true],[],[1,2,9,10,32,33,34],[31,33],Qk (ob:=[Qa (sa.2.1+1),((FloatKind.format .f32).order ta3 a1 == some .gt)=true,nth ((a0++([.v (.float .f32 a1)]:List D)):List D) (Int.toNat sa.2.1)=some (.v (.float .f32 ta3)),0≤sa.2.1∧sa.2.1 < (((a0++([.v (.float .f32 a1)]:List D)):List D).length:Int),(decide (sa.2.1 < (((a0++([.v (.float .f32 a1)]:List D)):List D).length:Int)))=true]) (by kernel_rfl) ⟨ha5,ha4,UR Q9 ha3,ha2,(decide_eq_true ha1),trivial⟩⟩
  ·replace h:=Qm h ha4
   obtain ⟨ha5,h⟩:=Qi h
   by_cases ha6:(sa.2.1 - sa.1) ≥ a2
   ·replace h:=Ql h ha6
    obtain ⟨ha7,h⟩:=Qi h
    obtain ⟨ha8,h⟩:=Qi h
    replace h:=Option.some.inj h
    subst h
    exact ⟨100,34,[.br true,.br true,.el (.v (.float .f32 ta3)),.br false,.br true,.br true],[],[1,2,9,10,32,33,34],[31,33],Qk (ob:=[Qa (sa.2.1+1),Qa (sa.2.1+1),room cx 79 ((sa.2.2).length+1),(decide ((sa.2.1 - sa.1) ≥ a2))=true,Qa (sa.2.1 - sa.1),((FloatKind.format .f32).order ta3 a1 == some .gt)=false,nth ((a0++([.v (.float .f32 a1)]:List D)):List D) (Int.toNat sa.2.1)=some (.v (.float .f32 ta3)),0≤sa.2.1∧sa.2.1 < (((a0++([.v (.float .f32 a1)]:List D)):List D).length:Int),(decide (sa.2.1 < (((a0++([.v (.float .f32 a1)]:List D)):List D).length:Int)))=true]) (by kernel_rfl) ⟨ha8,ha8,(Zp (b:=16) (by kernel_rfl) (by decide) ha7),(decide_eq_true ha6),ha5,(QI ha4),UR Q9 ha3,ha2,(decide_eq_true ha1),trivial⟩⟩
   ·replace h:=Qm h ha6
    obtain ⟨ha7,h⟩:=Qi h
    replace h:=Option.some.inj h
    subst h
    exact ⟨100,34,[.br true,.br true,.el (.v (.float .f32 ta3)),.br false,.br false],[],[1,2,9,10,32,33,34],[31,33],Qk (ob:=[Qa (sa.2.1+1),Qa (sa.2.1+1),(decide ((sa.2.1 - sa.1) ≥ a2))=false,Qa (sa.2.1 - sa.1),((FloatKind.format .f32).order ta3 a1 == some .gt)=false,nth ((a0++([.v (.float .f32 a1)]:List D)):List D) (Int.toNat sa.2.1)=some (.v (.float .f32 ta3)),0≤sa.2.1∧sa.2.1 < (((a0++([.v (.float .f32 a1)]:List D)):List D).length:Int),(decide (sa.2.1 < (((a0++([.v (.float .f32 a1)]:List D)):List D).length:Int)))=true]) (by kernel_rfl) ⟨ha7,ha7,(decide_eq_false ha6),ha5,(QI ha4),UR Q9 ha3,ha2,(decide_eq_true ha1),trivial⟩⟩
 ·replace h:=Qm h ha1
  replace h:=Option.some.inj h
  subst h
  exact ⟨⟨100,34,[.br false],[],[9],[33],Qk (ob:=[(decide (sa.2.1 < (((a0++([.v (.float .f32 a1)]:List D)):List D).length:Int)))=false]) (by kernel_rfl) ⟨(decide_eq_false ha1),trivial⟩⟩,nofun⟩
def QS (n:Nat) (a0:List D) (a1:Nat) (a2:Int):Option (List D×Int) :=
 if ((a0).length:Int) > 4096 then
  some ([],5)
 else
 (Zn n a0).bind fun t2 =>
 (Qr n t2).bind fun t3 =>
 (QT n a1).bind fun t4 =>
 (Qy n a2 1 4096).bind fun t5 =>
 (Qr n ([I t3,I t4,I t5])).bind fun t6 =>
 if t6=0 then
  if Zl a0=true then
   none
  else
  if ZZ 4 (0+(a0).length) then
  if ZZ 4 ((a0).length+1) then
  (Q2 (QR n a0 a1 a2) n (0,0,[])).bind fun t11 =>
  some (t11,0)
  else none
  else none
 else
 some ([],t6)
theorem WY {n:Nat} {a0:List D} {a1:Nat} {a2:Int} {r:List D×Int} (h:QS n a0 a1 a2=some r):Computes cx 6 [.lst false 1 a0,.v (.float .f32 a1),I a2] (.tup [.lst false 2 r.1,I r.2]):=by
 unfold QS at h
 by_cases h1:((a0).length:Int) > 4096
 ·replace h:=Ql h h1
  replace h:=Option.some.inj h
  subst h
  exact (run (n:=100) (f:=6) (args:=[.lst false 1 a0,.v (.float .f32 a1),I a2]) (orc:=[.br true]) (r:=.tup [.lst true 0 [],I 5]) (ob:=[(decide (((a0).length:Int) > 4096))=true]) (by kernel_rfl) ⟨(decide_eq_true h1),trivial⟩).le (LEs.refl _) (.tups (.cons (.nilF) (.cons (.refl _) (.nil))))
 ·replace h:=Qm h h1
  obtain ⟨t2,h2,h⟩:=Qg h
  obtain ⟨t3,h3,h⟩:=Qg h
  obtain ⟨t4,h4,h⟩:=Qg h
  obtain ⟨t5,h5,h⟩:=Qg h
  obtain ⟨t6,h6,h⟩:=Qg h
  by_cases h7:t6=0
  ·replace h:=Ql h h7
   by_cases h8:Zl a0=true
   ·replace h:=Ql h h8
    cases h
   ·replace h:=Qm h h8
    obtain ⟨h9,h⟩:=Qi h
    obtain ⟨h10,h⟩:=Qi h
    obtain ⟨t11,h11,h⟩:=Qg h
    replace h:=Option.some.inj h
    subst h
    exact run (n:=100) (f:=6) (args:=[.lst false 1 a0,.v (.float .f32 a1),I a2]) (orc:=[.br false,.ret (.lst false 1 t2),.ret (I t3),.ret (I t4),.ret (I t5),.ret (I t6),.br false,.br true,.no,.br true,.br false,.br true,.lp [9,2] [1,2,9,10,32,33,34] [31,33] (.exit 0) [(9,.own 33 0)] [(33,.row 0 2 t11)] 71]) (r:=.tup [.lst false 2 t11,I 0]) (ob:=[QV cx (Qu cx.P 6 0) 57 0 false [(1,.d (.v (.float .f32 a1))),(2,.d (I a2)),(9,.own 33 0),(10,.d (I 0)),(32,.own 31 0),(33,.d (I (((a0++([.v (.float .f32 a1)]:List D)):List D).length:Int))),(34,.d (I 0))] [(31,.row 0 1 (a0++([.v (.float .f32 a1)]:List D))),(33,.row 0 2 [])] (.exit 0) [(9,.own 33 0)] [(33,.row 0 2 t11)],room cx 23 ((a0).length+1),Zl a0=false,room cx 23 (0+(a0).length),a0≠[],(t6 != 0)=false,Computes cx 29 [.lst true 1 [I t3,I t4,I t5]] (I t6),Computes cx 32 [I a2,I 1,I 4096] (I t5),Computes cx 31 [.v (.float .f32 a1)] (I t4),Computes cx 29 [.lst false 1 t2] (I t3),Computes cx 30 [.lst false 1 a0,.fn (.func 31) [] []] (.lst false 1 t2),(decide (((a0).length:Int) > 4096))=false]) (by kernel_rfl) ⟨(Qv K0 h11),(Zp (b:=4) (by kernel_rfl) (by decide) h10),(QI h8),(Zp (b:=4) (by kernel_rfl) (by decide) h9),(by intro e;rw [e] at h8;exact h8 rfl),(nef h7),((Qj h6).le (.cons (.full _ _ _) (.nil)) (.refl _)),(Qb h5),(Zk h4),(Qj h3),(Wg h2),(decide_eq_false h1),trivial⟩
  ·replace h:=Qm h h7
   replace h:=Option.some.inj h
   subst h
   exact (run (n:=100) (f:=6) (args:=[.lst false 1 a0,.v (.float .f32 a1),I a2]) (orc:=[.br false,.ret (.lst false 1 t2),.ret (I t3),.ret (I t4),.ret (I t5),.ret (I t6),.br true]) (r:=.tup [.lst true 0 [],I t6]) (ob:=[(t6 != 0)=true,Computes cx 29 [.lst true 1 [I t3,I t4,I t5]] (I t6),Computes cx 32 [I a2,I 1,I 4096] (I t5),Computes cx 31 [.v (.float .f32 a1)] (I t4),Computes cx 29 [.lst false 1 t2] (I t3),Computes cx 30 [.lst false 1 a0,.fn (.func 31) [] []] (.lst false 1 t2),(decide (((a0).length:Int) > 4096))=false]) (by kernel_rfl) ⟨(net h7),((Qj h6).le (.cons (.full _ _ _) (.nil)) (.refl _)),(Qb h5),(Zk h4),(Qj h3),(Wg h2),(decide_eq_false h1),trivial⟩).le (LEs.refl _) (.tups (.cons (.nilF) (.cons (.refl _) (.nil))))
def Wr (n:Nat) (a0:List D) (sa:(Int×List D)):Option (((Int×List D))⊕((List D))) :=
 if sa.1 < ((a0).length:Int) then
  (el XV a0 sa.1).bind fun ta2 =>
  (Ur n ta2).bind fun ta3 =>
  if ZZ 16 ((sa.2).length+1) then
  if Qa (sa.1+1) then
  some (.inl ((sa.1+1),(sa.2++([.v (.string ta3)]:List D))))
  else none
  else none
 else
 some (.inr sa.2)
noncomputable def Jp (a0:List D) (sa:(Int×List D)):List (Nat×AV):=[(1,.d (.fn (.func 77) [] [])),(5,.own 5 0),(8,.d (.lst false 1 a0)),(9,.d (I ((a0).length:Int))),(10,.d (I sa.1))]
noncomputable def Jy (a0:List D) (sa:(Int×List D)):List (Nat×Blk):=[(5,.row 0 1 sa.2)]
noncomputable def Jc (a0:List D) (e:(List D)):Ex:=(.exit 0)
noncomputable def KP (a0:List D) (e:(List D)):List (Nat×AV):=[(5,.own 5 0)]
noncomputable def KU (a0:List D) (e:(List D)):List (Nat×Blk):=[(5,.row 0 1 e)]
theorem Ju {n:Nat} {a0:List D} (sa:(Int×List D)) (r) (h:Wr n a0 sa=some r):Rd cx (Qu cx.P 76 0) 22 0 false (Jp a0) (Jy a0) (Jc a0) (KP a0) (KU a0) sa r:=by
 unfold Wr at h
 by_cases ha1:sa.1 < ((a0).length:Int)
 ·replace h:=Ql h ha1
  obtain ⟨ta2,ha2,h⟩:=Qg h
  obtain ⟨ta3,ha3,h⟩:=Qg h
  obtain ⟨ha4,h⟩:=Qi h
  obtain ⟨ha5,h⟩:=Qi h
  replace h:=Option.some.inj h
  subst h
  exact ⟨100,6,[.br true,.el (I ta2),.ret (.v (.string ta3)),.br true],[],[1,5,8,9,10],[5],Qk (ob:=[Qa (sa.1+1),room cx 9 ((sa.2).length+1),Computes cx 77 [I ta2] (.v (.string ta3)),(0:Int)≤sa.1,nth (a0) (Int.toNat sa.1)=some (I ta2),(decide (sa.1 < ((a0).length:Int)))=true]) (by kernel_rfl) ⟨ha5,(Zp (b:=16) (by kernel_rfl) (by decide) ha4),(wk ha3),(Qs QG ha2).1,(Qs QG ha2).2,(decide_eq_true ha1),trivial⟩⟩
 ·replace h:=Qm h ha1
  replace h:=Option.some.inj h
  subst h
  exact ⟨⟨100,6,[.br false],[],[5],[5],Qk (ob:=[(decide (sa.1 < ((a0).length:Int)))=false]) (by kernel_rfl) ⟨(decide_eq_false ha1),trivial⟩⟩,nofun⟩
def Vf (n:Nat) (a0:List D):Option (List D) :=
 (Q2 (Wr n a0) n (0,[])).bind fun t1 =>
 some t1
theorem Um {n:Nat} {a0:List D} {r:List D} (h:Vf n a0=some r):Computes cx 76 [.lst false 1 a0,.fn (.func 77) [] []] (.lst false 1 r):=by
 unfold Vf at h
 obtain ⟨t1,h1,h⟩:=Qg h
 replace h:=Option.some.inj h
 subst h
 exact run (n:=100) (f:=76) (args:=[.lst false 1 a0,.fn (.func 77) [] []]) (orc:=[.lp [5,1] [1,5,8,9,10] [5] (.exit 0) [(5,.own 5 0)] [(5,.row 0 1 t1)] 30]) (r:=.lst false 1 t1) (ob:=[QV cx (Qu cx.P 76 0) 22 0 false [(1,.d (.fn (.func 77) [] [])),(5,.own 5 0),(8,.d (.lst false 1 a0)),(9,.d (I ((a0).length:Int))),(10,.d (I 0))] [(5,.row 0 1 [])] (.exit 0) [(5,.own 5 0)] [(5,.row 0 1 t1)]]) (by kernel_rfl) ⟨(Qv Ju h1),trivial⟩
def VO (n:Nat) (a0 a1 a2:Int):Option (ByteArray) :=
 (Vf n ([I a0,I a1,I a2])).bind fun t1 =>
 if ZZ 16 (1+(t1).length) then
 if Zl t1=true then
  (WH n ([.v (.string ⟨#[98,97,110,100]⟩)]) (⟨#[32]⟩)).bind fun t4 =>
  if t4.size+(⟨#[10]⟩:ByteArray).size≤9223372036854775807 then
  some (t4++(⟨#[10]⟩:ByteArray))
  else none
 else
 (WH n (.v (.string ⟨#[98,97,110,100]⟩)::t1) (⟨#[32]⟩)).bind fun t4 =>
 if t4.size+(⟨#[10]⟩:ByteArray).size≤9223372036854775807 then
 some (t4++(⟨#[10]⟩:ByteArray))
 else none
 else none
theorem ED {n:Nat} {a0 a1 a2:Int} {r:ByteArray} (h:VO n a0 a1 a2=some r):Computes cx 55 [.agg [I a0,I a1,I a2]] (.v (.string r)):=by
 unfold VO at h
 obtain ⟨t1,h1,h⟩:=Qg h
 obtain ⟨h2,h⟩:=Qi h
 by_cases h3:Zl t1=true
 ·replace h:=Ql h h3
  obtain ⟨t4,h4,h⟩:=Qg h
  obtain ⟨h5,h⟩:=Qi h
  replace h:=Option.some.inj h
  subst h
  exact run (n:=100) (f:=55) (args:=[.agg [I a0,I a1,I a2]]) (orc:=[.ret (.lst false 1 t1),.br true,.br true,.ret (.v (.string t4))]) (r:=.v (.string (t4++(⟨#[10]⟩:ByteArray)))) (ob:=[t4.size+(⟨#[10]⟩:ByteArray).size≤9223372036854775807,Computes cx 53 [.lst true 1 [.v (.string ⟨#[98,97,110,100]⟩)],.v (.string ⟨#[32]⟩)] (.v (.string t4)),Zl t1=true,room cx 9 (1+(t1).length),Computes cx 76 [.lst true 1 [I a0,I a1,I a2],.fn (.func 77) [] []] (.lst false 1 t1)]) (by kernel_rfl) ⟨h5,((Uk h4).le (.cons (.full _ _ _) (.cons (.refl _) (.nil))) (.refl _)),h3,(Zp (b:=16) (by kernel_rfl) (by decide) h2),((Um h1).le (.cons (.full _ _ _) (.cons (.refl _) (.nil))) (.refl _)),trivial⟩
 ·replace h:=Qm h h3
  obtain ⟨t4,h4,h⟩:=Qg h
  obtain ⟨h5,h⟩:=Qi h
  replace h:=Option.some.inj h
  subst h
  exact run (n:=100) (f:=55) (args:=[.agg [I a0,I a1,I a2]]) (orc:=[.ret (.lst false 1 t1),.br true,.br false,.ret (.v (.string t4))]) (r:=.v (.string (t4++(⟨#[10]⟩:ByteArray)))) (ob:=[t4.size+(⟨#[10]⟩:ByteArray).size≤9223372036854775807,Computes cx 53 [.lst false 1 (.v (.string ⟨#[98,97,110,100]⟩)::t1),.v (.string ⟨#[32]⟩)] (.v (.string t4)),Zl t1=false,room cx 9 (1+(t1).length),Computes cx 76 [.lst true 1 [I a0,I a1,I a2],.fn (.func 77) [] []] (.lst false 1 t1)]) (by kernel_rfl) ⟨h5,(Uk h4),(QI h3),(Zp (b:=16) (by kernel_rfl) (by decide) h2),((Um h1).le (.cons (.full _ _ _) (.cons (.refl _) (.nil))) (.refl _)),trivial⟩
def Ws (n:Nat) (a0:List D) (sa:(Int×List D)):Option (((Int×List D))⊕((List D))) :=
 if sa.1 < ((a0).length:Int) then
  (el Wd a0 sa.1).bind fun ta2 =>
  (VO n ta2.1 ta2.2.1 ta2.2.2).bind fun ta3 =>
  if ZZ 16 ((sa.2).length+1) then
  if Qa (sa.1+1) then
  some (.inl ((sa.1+1),(sa.2++([.v (.string ta3)]:List D))))
  else none
  else none
 else
 some (.inr sa.2)
noncomputable def Jq (a0:List D) (sa:(Int×List D)):List (Nat×AV):=[(1,.d (.fn (.func 55) [] [])),(5,.own 5 0),(8,.d (.lst false 3 a0)),(9,.d (I ((a0).length:Int))),(10,.d (I sa.1))]
noncomputable def Jz (a0:List D) (sa:(Int×List D)):List (Nat×Blk):=[(5,.row 0 1 sa.2)]
noncomputable def Jd (a0:List D) (e:(List D)):Ex:=(.exit 0)
noncomputable def KQ (a0:List D) (e:(List D)):List (Nat×AV):=[(5,.own 5 0)]
noncomputable def KV (a0:List D) (e:(List D)):List (Nat×Blk):=[(5,.row 0 1 e)]
theorem Jv {n:Nat} {a0:List D} (sa:(Int×List D)) (r) (h:Ws n a0 sa=some r):Rd cx (Qu cx.P 54 0) 22 0 false (Jq a0) (Jz a0) (Jd a0) (KQ a0) (KV a0) sa r:=by
 unfold Ws at h
 by_cases ha1:sa.1 < ((a0).length:Int)
 ·replace h:=Ql h ha1
  obtain ⟨ta2,ha2,h⟩:=Qg h
  obtain ⟨ta3,ha3,h⟩:=Qg h
  obtain ⟨ha4,h⟩:=Qi h
  obtain ⟨ha5,h⟩:=Qi h
  replace h:=Option.some.inj h
  subst h
  exact ⟨100,6,[.br true,.el (.agg [I ta2.1,I ta2.2.1,I ta2.2.2]),.ret (.v (.string ta3)),.br true],[],[1,5,8,9,10],[5],Qk (ob:=[Qa (sa.1+1),room cx 9 ((sa.2).length+1),Computes cx 55 [.agg [I ta2.1,I ta2.2.1,I ta2.2.2]] (.v (.string ta3)),(0:Int)≤sa.1,nth (a0) (Int.toNat sa.1)=some (.agg [I ta2.1,I ta2.2.1,I ta2.2.2]),(decide (sa.1 < ((a0).length:Int)))=true]) (by kernel_rfl) ⟨ha5,(Zp (b:=16) (by kernel_rfl) (by decide) ha4),(ED ha3),(Qs Qp ha2).1,(Qs Qp ha2).2,(decide_eq_true ha1),trivial⟩⟩
 ·replace h:=Qm h ha1
  replace h:=Option.some.inj h
  subst h
  exact ⟨⟨100,6,[.br false],[],[5],[5],Qk (ob:=[(decide (sa.1 < ((a0).length:Int)))=false]) (by kernel_rfl) ⟨(decide_eq_false ha1),trivial⟩⟩,nofun⟩
def Vg (n:Nat) (a0:List D):Option (List D) :=
 (Q2 (Ws n a0) n (0,[])).bind fun t1 =>
 some t1
theorem XD {n:Nat} {a0:List D} {r:List D} (h:Vg n a0=some r):Computes cx 54 [.lst false 3 a0,.fn (.func 55) [] []] (.lst false 1 r):=by
 unfold Vg at h
 obtain ⟨t1,h1,h⟩:=Qg h
 replace h:=Option.some.inj h
 subst h
 exact run (n:=100) (f:=54) (args:=[.lst false 3 a0,.fn (.func 55) [] []]) (orc:=[.lp [5,1] [1,5,8,9,10] [5] (.exit 0) [(5,.own 5 0)] [(5,.row 0 1 t1)] 31]) (r:=.lst false 1 t1) (ob:=[QV cx (Qu cx.P 54 0) 22 0 false [(1,.d (.fn (.func 55) [] [])),(5,.own 5 0),(8,.d (.lst false 3 a0)),(9,.d (I ((a0).length:Int))),(10,.d (I 0))] [(5,.row 0 1 [])] (.exit 0) [(5,.own 5 0)] [(5,.row 0 1 t1)]]) (by kernel_rfl) ⟨(Qv Jv h1),trivial⟩
def U2 (n:Nat) (a0:List D):Option (ByteArray×Int) :=
 (Q0 n a0).bind fun t1 =>
 if t1=0 then
  (Vg n a0).bind fun t3 =>
  (WH n t3 (⟨#[]⟩)).bind fun t4 =>
  some (t4,0)
 else
 some (⟨#[]⟩,t1)
theorem wJ {n:Nat} {a0:List D} {r:ByteArray×Int} (h:U2 n a0=some r):Computes cx 27 [.lst false 3 a0] (.tup [.v (.string r.1),I r.2]):=by
 unfold U2 at h
 obtain ⟨t1,h1,h⟩:=Qg h
 by_cases h2:t1=0
 ·replace h:=Ql h h2
  obtain ⟨t3,h3,h⟩:=Qg h
  obtain ⟨t4,h4,h⟩:=Qg h
  replace h:=Option.some.inj h
  subst h
  exact run (n:=100) (f:=27) (args:=[.lst false 3 a0]) (orc:=[.ret (I t1),.br false,.ret (.lst false 1 t3),.ret (.v (.string t4))]) (r:=.tup [.v (.string t4),I 0]) (ob:=[Computes cx 53 [.lst false 1 t3,.v (.string ⟨#[]⟩)] (.v (.string t4)),Computes cx 54 [.lst false 3 a0,.fn (.func 55) [] []] (.lst false 1 t3),(t1 != 0)=false,Computes cx 44 [.lst false 3 a0] (I t1)]) (by kernel_rfl) ⟨(Uk h4),(XD h3),(nef h2),(QC h1),trivial⟩
 ·replace h:=Qm h h2
  replace h:=Option.some.inj h
  subst h
  exact run (n:=100) (f:=27) (args:=[.lst false 3 a0]) (orc:=[.ret (I t1),.br true]) (r:=.tup [.v (.string ⟨#[]⟩),I t1]) (ob:=[(t1 != 0)=true,Computes cx 44 [.lst false 3 a0] (I t1)]) (by kernel_rfl) ⟨(net h2),(QC h1),trivial⟩
def ZR (x:Int×Int):D:=.agg [I x.1,I x.2]
def Kt:D→Option (Int×Int)
 | .agg [c0,c1]=>(JE .i64 c0).bind fun y0=>(JE .i64 c1).bind fun y1=>some (y0,y1)
 | _=>none
theorem Q3 {d:D} {x:Int×Int} (h:Kt d=some x):d=ZR x:=by
 unfold Kt at h
 split at h
 case h_2=>cases h
 obtain ⟨y0,h0,h⟩:=Qg h
 obtain ⟨y1,h1,h⟩:=Qg h
 cases h
 have e0:=YV h0
 have e1:=YV h1
 rw [e0,e1];rfl
def WI (n:Nat) (a0 a1:List D) (sa:(Int)):Option (((Int))⊕((Unit)⊕(Unit))) :=
 if sa < ((a0).length:Int) then
  (el Kt a0 sa).bind fun ta2 =>
  (el Kt a1 sa).bind fun ta3 =>
  if ((ta2.1 == ta3.1) && ((ta2.2 == ta3.2) && true))=true then
   if Qa (sa+1) then
   some (.inl (sa+1))
   else none
  else
  some (.inr (.inl ()))
 else
 some (.inr (.inr ()))
noncomputable def Gc (a0 a1:List D) (sa:(Int)):List (Nat×AV):=[(0,.d (.lst false 2 a0)),(1,.d (.lst false 2 a1)),(5,.d (I sa))]
noncomputable def Gi (a0 a1:List D) (sa:(Int)):List (Nat×Blk):=[]
noncomputable def JY (a0 a1:List D) (e:(Unit)⊕(Unit)):Ex:=match e with
 | (.inl e)=>.ret
 | (.inr e)=>(.exit 0)
noncomputable def Jh (a0 a1:List D) (e:(Unit)⊕(Unit)):List (Nat×AV):=match e with
 | (.inl e)=>[(4,.d (B false))]
 | (.inr e)=>[]
noncomputable def Jl (a0 a1:List D) (e:(Unit)⊕(Unit)):List (Nat×Blk):=match e with
 | (.inl e)=>[]
 | (.inr e)=>[]
theorem Ys {n:Nat} {a0 a1:List D} (sa:(Int)) (r) (h:WI n a0 a1 sa=some r):Rd cx (Qu cx.P 28 0) 26 0 false (Gc a0 a1) (Gi a0 a1) (JY a0 a1) (Jh a0 a1) (Jl a0 a1) sa r:=by
 unfold WI at h
 by_cases ha1:sa < ((a0).length:Int)
 ·replace h:=Ql h ha1
  obtain ⟨ta2,ha2,h⟩:=Qg h
  obtain ⟨ta3,ha3,h⟩:=Qg h
  by_cases ha4:((ta2.1 == ta3.1) && ((ta2.2 == ta3.2) && true))=true
  ·replace h:=Ql h ha4
   obtain ⟨ha5,h⟩:=Qi h
   replace h:=Option.some.inj h
   subst h
   exact ⟨100,7,[.br true,.el (.agg [I ta2.1,I ta2.2]),.el (.agg [I ta3.1,I ta3.2]),.br false],[],[0,1,5],[],Qk (ob:=[Qa (sa+1),(!((ta2.1 == ta3.1) && ((ta2.2 == ta3.2) && true)))=false,(0:Int)≤sa,nth (a1) (Int.toNat sa)=some (.agg [I ta3.1,I ta3.2]),(0:Int)≤sa,nth (a0) (Int.toNat sa)=some (.agg [I ta2.1,I ta2.2]),(decide (sa < ((a0).length:Int)))=true]) (by kernel_rfl) ⟨ha5,(U7 ha4),(Qs Q3 ha3).1,(Qs Q3 ha3).2,(Qs Q3 ha2).1,(Qs Q3 ha2).2,(decide_eq_true ha1),trivial⟩⟩
  ·replace h:=Qm h ha4
   replace h:=Option.some.inj h
   subst h
   exact ⟨⟨100,7,[.br true,.el (.agg [I ta2.1,I ta2.2]),.el (.agg [I ta3.1,I ta3.2]),.br true],[],[4],[],Qk (ob:=[(!((ta2.1 == ta3.1) && ((ta2.2 == ta3.2) && true)))=true,(0:Int)≤sa,nth (a1) (Int.toNat sa)=some (.agg [I ta3.1,I ta3.2]),(0:Int)≤sa,nth (a0) (Int.toNat sa)=some (.agg [I ta2.1,I ta2.2]),(decide (sa < ((a0).length:Int)))=true]) (by kernel_rfl) ⟨(jV (QI ha4)),(Qs Q3 ha3).1,(Qs Q3 ha3).2,(Qs Q3 ha2).1,(Qs Q3 ha2).2,(decide_eq_true ha1),trivial⟩⟩,nofun⟩
 ·replace h:=Qm h ha1
  replace h:=Option.some.inj h
  subst h
  exact ⟨⟨100,7,[.br false],[],[],[],Qk (ob:=[(decide (sa < ((a0).length:Int)))=false]) (by kernel_rfl) ⟨(decide_eq_false ha1),trivial⟩⟩,nofun⟩
def VG (n:Nat) (a0 a1:List D):Option (Bool) :=
 if ((a0).length:Int)=((a1).length:Int) then
  (Q2 (WI n a0 a1) n 0).bind fun t2=>match t2 with
   | (.inl t2)=>(
    some false)
   | (.inr t2)=>(
    some true)
 else
 some false
theorem Ey {n:Nat} {a0 a1:List D} {r:Bool} (h:VG n a0 a1=some r):Computes cx 28 [.lst false 2 a0,.lst false 2 a1] (B r):=by
 unfold VG at h
 by_cases h1:((a0).length:Int)=((a1).length:Int)
 ·replace h:=Ql h h1
  obtain ⟨t2,h2,h⟩:=Qg h
  rcases t2 with t2 | t2
  ·replace h:=Option.some.inj h
   subst h
   exact run (n:=100) (f:=28) (args:=[.lst false 2 a0,.lst false 2 a1]) (orc:=[.br false,.lp [] [0,1,5] [] .ret [(4,.d (B false))] [] 34]) (r:=B false) (ob:=[QV cx (Qu cx.P 28 0) 26 0 false [(0,.d (.lst false 2 a0)),(1,.d (.lst false 2 a1)),(5,.d (I 0))] [] .ret [(4,.d (B false))] [],(((a0).length:Int) != ((a1).length:Int))=false]) (by kernel_rfl) ⟨(Qv Ys h2),(nef h1),trivial⟩
  ·replace h:=Option.some.inj h
   subst h
   exact run (n:=100) (f:=28) (args:=[.lst false 2 a0,.lst false 2 a1]) (orc:=[.br false,.lp [] [0,1,5] [] (.exit 0) [] [] 34]) (r:=B true) (ob:=[QV cx (Qu cx.P 28 0) 26 0 false [(0,.d (.lst false 2 a0)),(1,.d (.lst false 2 a1)),(5,.d (I 0))] [] (.exit 0) [] [],(((a0).length:Int) != ((a1).length:Int))=false]) (by kernel_rfl) ⟨(Qv Ys h2),(nef h1),trivial⟩
 ·replace h:=Qm h h1
  replace h:=Option.some.inj h
  subst h
  exact run (n:=100) (f:=28) (args:=[.lst false 2 a0,.lst false 2 a1]) (orc:=[.br true]) (r:=B false) (ob:=[(((a0).length:Int) != ((a1).length:Int))=true]) (by kernel_rfl) ⟨(net h1),trivial⟩
def QZ (n:Nat) (a0 a1:List D) (sa:(Int)):Option (((Int))⊕((Unit)⊕(Unit))) :=
 if sa < ((a0).length:Int) then
  (el Kt a0 sa).bind fun ta2 =>
  (el Kt a1 sa).bind fun ta3 =>
  if ((ta2.1 == ta3.1) && ((ta2.2 == ta3.2) && true))=true then
   if Qa (sa+1) then
   some (.inl (sa+1))
   else none
  else
  some (.inr (.inl ()))
 else
 some (.inr (.inr ()))
noncomputable def Gf (a0 a1:List D) (sa:(Int)):List (Nat×AV):=[(0,.d (.lst false 2 a0)),(1,.d (.lst false 2 a1)),(5,.d (I sa))]
noncomputable def Gl (a0 a1:List D) (sa:(Int)):List (Nat×Blk):=[]
noncomputable def J1 (a0 a1:List D) (e:(Unit)⊕(Unit)):Ex:=match e with
 | (.inl e)=>.ret
 | (.inr e)=>(.exit 0)
noncomputable def Jk (a0 a1:List D) (e:(Unit)⊕(Unit)):List (Nat×AV):=match e with
 | (.inl e)=>[(4,.d (B false))]
 | (.inr e)=>[]
noncomputable def Jo (a0 a1:List D) (e:(Unit)⊕(Unit)):List (Nat×Blk):=match e with
 | (.inl e)=>[]
 | (.inr e)=>[]
theorem Yu {n:Nat} {a0 a1:List D} (sa:(Int)) (r) (h:QZ n a0 a1 sa=some r):Rd cx (Qu cx.P 10 0) 26 0 false (Gf a0 a1) (Gl a0 a1) (J1 a0 a1) (Jk a0 a1) (Jo a0 a1) sa r:=by
 unfold QZ at h
 by_cases ha1:sa < ((a0).length:Int)
 ·replace h:=Ql h ha1
  obtain ⟨ta2,ha2,h⟩:=Qg h
  obtain ⟨ta3,ha3,h⟩:=Qg h
  by_cases ha4:((ta2.1 == ta3.1) && ((ta2.2 == ta3.2) && true))=true
  ·replace h:=Ql h ha4
   obtain ⟨ha5,h⟩:=Qi h
   replace h:=Option.some.inj h
   subst h
   exact ⟨100,7,[.br true,.el (.agg [I ta2.1,I ta2.2]),.el (.agg [I ta3.1,I ta3.2]),.br false],[],[0,1,5],[],Qk (ob:=[Qa (sa+1),(!((ta2.1 == ta3.1) && ((ta2.2 == ta3.2) && true)))=false,(0:Int)≤sa,nth (a1) (Int.toNat sa)=some (.agg [I ta3.1,I ta3.2]),(0:Int)≤sa,nth (a0) (Int.toNat sa)=some (.agg [I ta2.1,I ta2.2]),(decide (sa < ((a0).length:Int)))=true]) (by kernel_rfl) ⟨ha5,(U7 ha4),(Qs Q3 ha3).1,(Qs Q3 ha3).2,(Qs Q3 ha2).1,(Qs Q3 ha2).2,(decide_eq_true ha1),trivial⟩⟩
  ·replace h:=Qm h ha4
   replace h:=Option.some.inj h
   subst h
   exact ⟨⟨100,7,[.br true,.el (.agg [I ta2.1,I ta2.2]),.el (.agg [I ta3.1,I ta3.2]),.br true],[],[4],[],Qk (ob:=[(!((ta2.1 == ta3.1) && ((ta2.2 == ta3.2) && true)))=true,(0:Int)≤sa,nth (a1) (Int.toNat sa)=some (.agg [I ta3.1,I ta3.2]),(0:Int)≤sa,nth (a0) (Int.toNat sa)=some (.agg [I ta2.1,I ta2.2]),(decide (sa < ((a0).length:Int)))=true]) (by kernel_rfl) ⟨(jV (QI ha4)),(Qs Q3 ha3).1,(Qs Q3 ha3).2,(Qs Q3 ha2).1,(Qs Q3 ha2).2,(decide_eq_true ha1),trivial⟩⟩,nofun⟩
 ·replace h:=Qm h ha1
  replace h:=Option.some.inj h
  subst h
  exact ⟨⟨100,7,[.br false],[],[],[],Qk (ob:=[(decide (sa < ((a0).length:Int)))=false]) (by kernel_rfl) ⟨(decide_eq_false ha1),trivial⟩⟩,nofun⟩
end Go.Proofs.YtcfmoailaddifaaGreatDoor
