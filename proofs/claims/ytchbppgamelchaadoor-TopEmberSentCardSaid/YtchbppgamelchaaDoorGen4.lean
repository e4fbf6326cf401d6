/- Own texts. -/
import GoSem.Conv.FloatToFloat
import GoSem.Conv.FloatToInt
import GoSem.Op.FloatArith
import Derived.Test.YtchbppgamelchaaDoorSxTwentyFive
import Derived.Test.YtchbppgamelchaaDoorGen1
set_option linter.unusedVariables false
set_option linter.unusedSimpArgs false
set_option linter.unnecessarySimpa false
namespace Go.Flo
open Ieee
def V (s:Bool) (m:Nat) (i:Int):Int:=signed s m (i+2000).toNat
def vn (m:Nat) (i:Int):Nat:=m * 2 ^ (i+2000).toNat
theorem V_eq (s:Bool) (m:Nat) (i:Int):V s m i=if s then -(vn m i:Int) else (vn m i:Int):=by
 unfold V signed vn
 rw [Nat.shiftLeft_eq]
theorem G8 {m:Nat} {i j:Int} (h : -2000≤j) (hij:j≤i):vn m i=m * 2 ^ (i - j).toNat * 2 ^ (j+2000).toNat:=by
 unfold vn
 rw [show (i+2000).toNat=(i - j).toNat+(j+2000).toNat by omega,Nat.pow_add,Nat.mul_assoc]
theorem qN (s:Bool) (m k c:Nat):signed s m (k+c)=signed s m k * ((2 ^ c:Nat):Int):=by
 unfold signed
 rw [Nat.shiftLeft_eq,Nat.shiftLeft_eq,Nat.pow_add,← Nat.mul_assoc]
 cases s
 ·simp
 ·simp [Int.neg_mul]
theorem ya {a b c:Int} (h:0 < c):compare (a * c) (b * c)=compare a b:=by
 rcases Int.lt_trichotomy a b with h1 | h1 | h1
 ·have h2:=Int.mul_lt_mul_of_pos_right h1 h
  rw [Int.compare_eq_lt.2 h1,Int.compare_eq_lt.2 h2]
 ·subst h1;rw [Int.compare_eq_eq.2 rfl,Int.compare_eq_eq.2 rfl]
 ·have h2:=Int.mul_lt_mul_of_pos_right h1 h
  rw [Int.compare_eq_gt.2 h1,Int.compare_eq_gt.2 h2]
theorem order_val {s t:Bool} {m n:Nat} {i j:Int} (hi : -2000≤i) (hj : -2000≤j):(Datum.number s m i).order (Datum.number t n j)=some (compare (V s m i) (V t n j)):=by
 show some (compare (signed s m (i - min i j).toNat) (signed t n (j - min i j).toNat))=_
 have e1:(i+2000).toNat=(i - min i j).toNat+(min i j+2000).toNat:=by omega
 have e2:(j+2000).toNat=(j - min i j).toNat+(min i j+2000).toNat:=by omega
 unfold V
 rw [e1,e2,qN,qN,ya]
 have:=Nat.two_pow_pos (min i j+2000).toNat
 omega
theorem kX (w:Toward) (s:Bool) (n:Nat):w.cut s n 0=n:=by
 unfold Toward.cut
 have h:1 <<< min 0 (n.log2+2)=1:=by rw [Nat.zero_min];rfl
 simp only [h,Nat.div_one,Nat.mod_one]
 cases w <;> simp
theorem Qce (s:Bool) {n d:Nat} (hd:d≤n.log2+2) (h:2 ^ d ∣ n) (w:Toward):w.cut s n d=n / 2 ^ d:=by
 unfold Toward.cut
 have hg:1 <<< min d (n.log2+2)=2 ^ d:=by rw [Nat.min_eq_left hd,Nat.one_shiftLeft]
 have h0:n % 2 ^ d=0:=Nat.mod_eq_zero_of_dvd h
 have hp:=Nat.two_pow_pos d
 simp only [hg,h0]
 cases w <;> simp
structure Fmt (f:Format) (lp:Int) (fb E:Nat):Prop where
 fbE:f.fractionBits=fb
 lpE:f.leastPlace=lp
 lo : -1500≤lp
 h0:lp≤0
 inf:f.infRung≤f.signWeight
 big:∀ d k:Nat,d≤((E:Int) - lp).toNat→k < 2 ^ (fb+1)→d * 2 ^ fb+k < f.infRung
theorem f32:Fmt single (-149) 23 16 where
 fbE:=rfl
 lpE:=by decide
 lo:=by decide
 h0:=by decide
 inf:=by decide
 big d k hd hk:=by
  have:single.infRung=255 * 2 ^ 23:=by decide
  rw [this]
  omega
theorem f64 {E:Nat} (hE:E≤200):Fmt double (-1074) 52 E where
 fbE:=rfl
 lpE:=by decide
 lo:=by decide
 h0:=by decide
 inf:=by decide
 big d k hd hk:=by
  have:double.infRung=2047 * 2 ^ 52:=by decide
  rw [this]
  omega
theorem wo {f:Format} {lp:Int} {fb E:Nat} (h:Fmt f lp fb E) (s:Bool) {d k:Nat} (hd:d≤((E:Int) - lp).toNat) (hk:k < 2 ^ (fb+1)) (hn:d=0 ∨ 2 ^ fb≤k) :
  f.read (f.word s (min (d * f.binade+k) f.infRung))=.number s k (lp+d):=by
 have hb:f.binade=2 ^ fb:=by unfold Format.binade;rw [h.fbE]
 have hlt:=h.big d k hd hk
 have hinf:=h.inf
 rw [hb,Nat.min_eq_left (by omega)]
 obtain ⟨r,hr⟩:∃ r,r=d * 2 ^ fb+k:=⟨_,rfl⟩
 rw [← hr] at hlt ⊢
 have hw:f.word s r / f.signWeight % 2=(if s then 1 else 0)∧f.word s r % f.signWeight=r:=by
  unfold Format.word
  cases s
  ·simp only [Bool.false_eq_true,if_false]
   rw [Nat.div_eq_of_lt (show r < f.signWeight by omega),Nat.mod_eq_of_lt (show r < f.signWeight by omega)]
   exact ⟨rfl,rfl⟩
  ·simp only [if_true]
   have hp:0 < f.signWeight:=by omega
   rw [Nat.add_div_left _ hp,Nat.div_eq_of_lt (show r < f.signWeight by omega),Nat.add_mod_left,Nat.mod_eq_of_lt (show r < f.signWeight by omega)]
   exact ⟨rfl,rfl⟩
 unfold Format.read
 rw [hw.1,hw.2,hb,h.lpE]
 have hs:((if s=true then 1 else 0) == 1)=s:=by cases s <;> rfl
 simp only [hs]
 have hp:=Nat.two_pow_pos fb
 have hpow:2 ^ (fb+1)=2 * 2 ^ fb:=by rw [Nat.pow_succ];omega
 by_cases hk2:k < 2 ^ fb
 ·have hd0:d=0:=by omega
  subst hd0
  have:r=k:=by omega
  subst this
  rw [if_pos hk2];simp
 ·have e:r=(d+1) * 2 ^ fb+(k - 2 ^ fb):=by rw [Nat.add_mul];omega
  have hq:k - 2 ^ fb < 2 ^ fb:=by omega
  have h1:r / 2 ^ fb=d+1:=by
   rw [e,Nat.add_comm,Nat.add_mul_div_right _ _ hp,Nat.div_eq_of_lt hq];omega
  have h2:r % 2 ^ fb=k - 2 ^ fb:=by
   rw [e,Nat.add_comm,Nat.add_mul_mod_self_right,Nat.mod_eq_of_lt hq]
  have hge:¬ r < 2 ^ fb:=by rw [e,Nat.add_mul];omega
  rw [if_neg hge,if_pos hlt,h1,h2]
  congr 1
  omega
theorem write_read {f:Format} {lp:Int} {fb E:Nat} (h:Fmt f lp fb E) (s:Bool) {m q:Nat} {i p:Int} (hq:q < 2 ^ (fb+1)) (hp:lp≤p) (hi : -1900≤i) (hv:vn m i=vn q p) (hb:vn m i < 2 ^ (2000+E)) :
  ∃ n j,f.read (f.write (.number s m i))=.number s n j∧lp≤j∧n < 2 ^ (fb+1)∧vn n j=vn m i:=by
 have hlo:=h.lo
 show ∃ n j,f.read (f.nearest s m i)=_∧_
 unfold Format.nearest
 by_cases hm:m=0
 ·subst hm
  rw [if_pos rfl]
  have:=wo h s (d:=0) (k:=0) (by omega) (Nat.two_pow_pos _) (.inl rfl)
  have e:min (0 * f.binade+0) f.infRung=0:=by simp
  rw [e] at this
  exact ⟨0,_,this,by omega,Nat.two_pow_pos _,by unfold vn;simp⟩
 rw [if_neg hm]
 -- m=q 2^k,or m is small
 have hq0:q≠0:=by
  intro e
  subst e
  unfold vn at hv
  have:=Nat.two_pow_pos (i+2000).toNat
  rw [Nat.zero_mul] at hv
  rcases Nat.mul_eq_zero.1 hv with h1 | h1
  ·exact hm h1
  ·omega
 have hk:∃ r k:Nat,m=r * 2 ^ k∧r < 2 ^ (fb+1)∧r≠0∧lp≤k+i:=by
  rcases Int.le_total i p with hip | hip
  ·refine ⟨q,(p - i).toNat,?_,hq,hq0,by omega⟩
   rw [G8 (by omega) hip] at hv
   unfold vn at hv
   exact Nat.eq_of_mul_eq_mul_right (Nat.two_pow_pos _) hv
  ·refine ⟨m,0,by simp,?_,hm,by omega⟩
   rw [G8 (m:=m) (j:=p) (by omega) hip] at hv
   unfold vn at hv
   have:=Nat.eq_of_mul_eq_mul_right (Nat.two_pow_pos _) hv
   have h1:=Nat.two_pow_pos (i - p).toNat
   have h2:m * 1≤m * 2 ^ (i - p).toNat:=Nat.mul_le_mul_left _ h1
   omega
 obtain ⟨r,k,rfl,hr,hr0,hki⟩:=hk
 have hl:(r * 2 ^ k).log2=r.log2+k:=by
  have h1:=Nat.log2_self_le hr0
  have h2:=Nat.lt_log2_self (n:=r)
  refine (Nat.log2_eq_iff hm).2 ⟨?_,?_⟩
  ·rw [Nat.pow_add];exact Nat.mul_le_mul_right _ h1
  ·rw [show r.log2+k+1=(r.log2+1)+k by omega,Nat.pow_add];exact Nat.mul_lt_mul_of_pos_right h2 (Nat.two_pow_pos _)
 have hrl:r.log2≤fb:=by
  have:=(Nat.log2_lt hr0).2 hr
  omega
 have hbnd:i+(r * 2 ^ k).log2 < E:=by
  have h1:=Nat.log2_self_le hm
  have h3:2 ^ ((r * 2 ^ k).log2+(i+2000).toNat)≤vn (r * 2 ^ k) i:=by
   unfold vn
   rw [Nat.pow_add];exact Nat.mul_le_mul_right _ h1
  have h4:=Nat.lt_of_le_of_lt h3 hb
  have:=(Nat.pow_lt_pow_iff_right (by omega:1 < 2)).1 h4
  omega
 rw [h.fbE,h.lpE,hl]
 rw [hl] at hbnd
 obtain ⟨L,hL⟩:∃ L:Int,L=max (i+((r.log2+k:Nat):Int) - (fb:Int)) lp:=⟨_,rfl⟩
 simp only [← hL]
 have hkept:∃ K:Nat,Toward.even.cut s ((r * 2 ^ k) <<< (i - L).toNat) (L - i).toNat=K∧vn K L=vn (r * 2 ^ k) i∧K≠0∧i+((r.log2+k:Nat):Int)=L+(K.log2:Int):=by
  rcases Int.le_total L i with hLi | hLi
  ·refine ⟨(r * 2 ^ k) <<< (i - L).toNat,?_,?_,?_,?_⟩
   ·rw [show (L - i).toNat=0 by omega,kX]
   ·rw [G8 (i:=i) (j:=L) (by omega) hLi,Nat.shiftLeft_eq];rfl
   ·rw [Nat.shiftLeft_eq]
    have:=Nat.two_pow_pos (i - L).toNat
    intro e
    rcases Nat.mul_eq_zero.1 e with h1 | h1
    ·exact hm h1
    ·omega
   ·rw [Nat.shiftLeft_eq,Nat.mul_assoc,← Nat.pow_add]
    have:(r * 2 ^ (k+(i - L).toNat)).log2=r.log2+(k+(i - L).toNat):=by
     have h1:=Nat.log2_self_le hr0
     have h2:=Nat.lt_log2_self (n:=r)
     have h0:r * 2 ^ (k+(i - L).toNat)≠0:=by
      have:=Nat.two_pow_pos (k+(i - L).toNat)
      intro e
      rcases Nat.mul_eq_zero.1 e with h1 | h1
      ·exact hr0 h1
      ·omega
     refine (Nat.log2_eq_iff h0).2 ⟨?_,?_⟩
     ·rw [Nat.pow_add];exact Nat.mul_le_mul_right _ h1
     ·rw [show r.log2+(k+(i - L).toNat)+1=(r.log2+1)+(k+(i - L).toNat) by omega,Nat.pow_add 2 (r.log2+1)];exact Nat.mul_lt_mul_of_pos_right h2 (Nat.two_pow_pos _)
    rw [this];omega
  ·-- dropped digits are noughts
   have hdk:(L - i).toNat≤k:=by omega
   have hdv:r * 2 ^ k=r * 2 ^ (k - (L - i).toNat) * 2 ^ (L - i).toNat:=by
    rw [Nat.mul_assoc,← Nat.pow_add];congr 2;omega
   refine ⟨r * 2 ^ (k - (L - i).toNat),?_,?_,?_,?_⟩
   ·rw [show (i - L).toNat=0 by omega,Nat.shiftLeft_zero,Qce s (by rw [hl];omega) ⟨r * 2 ^ (k - (L - i).toNat),by rw [hdv];rw [Nat.mul_comm]⟩,hdv,Nat.mul_div_cancel _ (Nat.two_pow_pos _)]
   ·rw [G8 (i:=L) (j:=i) (by omega) hLi,← hdv];rfl
   ·have:=Nat.two_pow_pos (k - (L - i).toNat)
    intro e
    rcases Nat.mul_eq_zero.1 e with h1 | h1
    ·exact hr0 h1
    ·omega
   ·have:(r * 2 ^ (k - (L - i).toNat)).log2=r.log2+(k - (L - i).toNat):=by
     have h1:=Nat.log2_self_le hr0
     have h2:=Nat.lt_log2_self (n:=r)
     have h0:r * 2 ^ (k - (L - i).toNat)≠0:=by
      have:=Nat.two_pow_pos (k - (L - i).toNat)
      intro e
      rcases Nat.mul_eq_zero.1 e with h1 | h1
      ·exact hr0 h1
      ·omega
     refine (Nat.log2_eq_iff h0).2 ⟨?_,?_⟩
     ·rw [Nat.pow_add];exact Nat.mul_le_mul_right _ h1
     ·rw [show r.log2+(k - (L - i).toNat)+1=(r.log2+1)+(k - (L - i).toNat) by omega,Nat.pow_add 2 (r.log2+1)];exact Nat.mul_lt_mul_of_pos_right h2 (Nat.two_pow_pos _)
    rw [this];omega
 obtain ⟨K,hK,hv2,hK0,hlog⟩:=hkept
 rw [hK]
 have hKl:K < 2 ^ (fb+1):=(Nat.log2_lt hK0).1 (by omega)
 have hrw:=wo h s (d:=(L - lp).toNat) (k:=K) (by omega) hKl (by
  by_cases hLl:L=lp
  ·left;omega
  ·right
   exact Nat.le_trans (Nat.pow_le_pow_right (by omega) (by omega:fb≤K.log2)) (Nat.log2_self_le hK0))
 refine ⟨K,L,?_,by omega,hKl,hv2⟩
 rw [hrw]
 congr 1
 omega
open Go.SX
theorem read_num {b:Nat} {s:Bool} {m:Nat} {e:Int} (h:single.read b=.number s m e):m < 2 ^ 24∧-149≤e∧e≤104:=by
 unfold Format.read at h
 have e1:single.signWeight=2 ^ 31:=by decide
 have e2:single.binade=2 ^ 23:=by decide
 have e3:single.infRung=255 * 2 ^ 23:=by decide
 have e4:single.leastPlace=-149:=by decide
 simp only [e1,e2,e3,e4] at h
 obtain ⟨r,hr⟩:∃ r,r=b % 2 ^ 31:=⟨_,rfl⟩
 rw [← hr] at h
 split at h
 ·cases h;omega
 ·split at h
  ·cases h;omega
  ·split at h <;> cases h
theorem uO {s:Bool} {m n:Nat} {i j:Int}:compare (V s m i) (V s n j)=.eq↔vn m i=vn n j:=by
 rw [Int.compare_eq_eq,V_eq,V_eq]
 cases s
 ·simp only [Bool.false_eq_true,if_false];omega
 ·simp only [if_true];omega
theorem QcB {m:Nat} {e:Int} (he : -149≤e):vn (8388608 * m) (-19+e)=16 * vn m e∧vn m (e+4)=16 * vn m e:=by
 unfold vn
 obtain ⟨A,hA⟩:∃ A:Nat,A=(e+1981).toNat:=⟨_,rfl⟩
 rw [show (-19+e+2000).toNat=A by omega,show (e+2000).toNat=A+19 by omega,show (e+4+2000).toNat=A+23 by omega,Nat.pow_add,Nat.pow_add]
 generalize 2 ^ A=X
 have h1:(2:Nat) ^ 19=524288:=by decide
 have h2:(2:Nat) ^ 23=8388608:=by decide
 rw [h1,h2]
 constructor
 ·rw [Nat.mul_assoc 8388608,← Nat.mul_assoc m X];omega
 ·rw [← Nat.mul_assoc m X,← Nat.mul_assoc m X];omega
theorem mul16 {b:Nat} {s:Bool} {m:Nat} {e:Int} (h:single.read b=.number s m e) (hb:vn m e≤2 ^ 2010) :
  ∃ y n p,fop .mul .f32 1098907648 b=some y∧single.read y=.number s n p∧-149≤p∧n < 2 ^ 24∧vn n p=16 * vn m e:=by
 obtain ⟨h1,h2,h3⟩:=read_num h
 obtain ⟨v1,v2⟩:=QcB (m:=m) h2
 obtain ⟨n,p,r1,r2,r3,r4⟩:=write_read f32 s (m:=8388608 * m) (i:=-19+e) (q:=m) (p:=e+4) h1 (by omega) (by omega) (by rw [v1,v2]) (by rw [v1];omega)
 refine ⟨single.write (.number s (8388608 * m) (-19+e)),n,p,?_,r1,r2,r3,by rw [r4,v1]⟩
 show single.mul 1098907648 b=_
 unfold Format.mul
 rw [show single.read 1098907648=.number false 8388608 (-19) by decide,h]
 show some (single.write (.number (false ^^ s) (8388608 * m) (-19+e)))=_
 rw [Bool.false_xor]
theorem Qcd (n d:Nat):n / (1 <<< min d (n.log2+2))=n / 2 ^ d∧n % (1 <<< min d (n.log2+2))=n % 2 ^ d:=by
 rw [Nat.one_shiftLeft]
 rcases Nat.le_total d (n.log2+2) with h | h
 ·rw [Nat.min_eq_left h];exact ⟨rfl,rfl⟩
 ·rw [Nat.min_eq_right h]
  have h1:=Nat.lt_log2_self (n:=n)
  have h2:2 ^ (n.log2+1)≤2 ^ (n.log2+2):=Nat.pow_le_pow_right (by omega) (by omega)
  have h3:2 ^ (n.log2+2)≤2 ^ d:=Nat.pow_le_pow_right (by omega) h
  rw [Nat.div_eq_of_lt (by omega),Nat.div_eq_of_lt (by omega),Nat.mod_eq_of_lt (by omega),Nat.mod_eq_of_lt (by omega)]
  exact ⟨rfl,rfl⟩
theorem QcP {w:Toward} (hw:w=.down ∨ w=.zero) (s:Bool) (n d:Nat):∃ r,w.cut s n d=n / 2 ^ d+r∧r≤1∧(n % 2 ^ d=0→r=0):=by
 obtain ⟨g1,g2⟩:=Qcd n d
 unfold Toward.cut
 simp only [g1,g2]
 rcases hw with rfl | rfl
 ·refine ⟨_,rfl,Bool.toNat_le _,fun h=>?_⟩
  rw [h];simp
 ·exact ⟨0,rfl,by omega,fun _=>rfl⟩
theorem cut_whole {w:Toward} (hw:w=.down ∨ w=.zero) (s:Bool) (n:Nat) (p:Int) (hp : -1900≤p) :
  (vn (w.cut s (n <<< p.toNat) (-p).toNat) 0=vn n p↔2 ^ 2000 ∣ vn n p)∧w.cut s (n <<< p.toNat) (-p).toNat * 2 ^ 2000≤vn n p+2 ^ 2000:=by
 have e0:((0:Int)+2000).toNat=2000:=rfl
 by_cases h:0≤p
 ·rw [show (-p).toNat=0 by omega,kX,Nat.shiftLeft_eq]
  unfold vn
  rw [e0,show (p+2000).toNat=p.toNat+2000 by omega,Nat.pow_add,← Nat.mul_assoc]
  exact ⟨⟨fun _=>Nat.dvd_mul_left _ _,fun _=>rfl⟩,by omega⟩
 ·obtain ⟨d,hd⟩:∃ d:Nat,d=(-p).toNat:=⟨_,rfl⟩
  obtain ⟨k,hk⟩:∃ k:Nat,k=(p+2000).toNat:=⟨_,rfl⟩
  rw [← hd,show p.toNat=0 by omega,Nat.shiftLeft_zero]
  unfold vn
  rw [e0,← hk,show (2:Nat) ^ 2000=2 ^ d * 2 ^ k by rw [← Nat.pow_add];congr 1;omega]
  obtain ⟨r,h1,h2,h3⟩:=QcP hw s n d
  rw [h1]
  have hX:=Nat.two_pow_pos k
  have hY:=Nat.two_pow_pos d
  generalize 2 ^ k=X at *
  generalize 2 ^ d=Y at *
  have hdiv:=Nat.div_add_mod n Y
  have hlt:=Nat.mod_lt n hY
  refine ⟨⟨fun e=>?_,fun e=>?_⟩,?_⟩
  ·rw [← Nat.mul_assoc] at e
   have:=Nat.eq_of_mul_eq_mul_right hX e
   rw [← this]
   exact Nat.mul_dvd_mul_right (Nat.dvd_mul_left _ _) X
  ·have h4:Y ∣ n:=Nat.dvd_of_mul_dvd_mul_right hX e
   have h5:=Nat.mod_eq_zero_of_dvd h4
   rw [h3 h5,Nat.add_zero,← Nat.mul_assoc,Nat.div_mul_cancel h4]
  ·rw [← Nat.mul_assoc,← Nat.add_mul]
   refine Nat.mul_le_mul_right X ?_
   rw [Nat.add_mul]
   have h6:r * Y≤1 * Y:=Nat.mul_le_mul_right _ h2
   have h7:n / Y * Y≤n:=Nat.div_mul_le_self n Y
   omega
def GR (x:Nat):Option Nat:=match FloatKind.f64.decode x with
 | .nan _ _=>none
 | d=>some (FloatKind.f64.encode (d.integral .down))
theorem f2f_num {j k:FloatKind} (hjk:j≠k) {lp:Int} {fb E:Nat} (hf:Fmt k.format lp fb E) {b:Nat} {s:Bool} {m q:Nat} {i p:Int} (h:j.decode b=.number s m i) (hq:q < 2 ^ (fb+1)) (hp:lp≤p) (hi : -1900≤i) (hv:vn m i=vn q p) (hb:vn m i < 2 ^ (2000+E)) :
  ∃ r n x,f2f j b k=some r∧k.decode r=.number s n x∧lp≤x∧n < 2 ^ (fb+1)∧vn n x=vn m i:=by
 obtain ⟨n,x,r1,r2,r3,r4⟩:=write_read hf s hq hp hi hv hb
 refine ⟨k.encode (.number s m i),n,x,?_,r1,r2,r3,r4⟩
 unfold f2f
 rw [if_neg hjk,h]
 show (if (k.decode (k.encode (.number s m i))).isInfinity=true then none else some (k.encode (.number s m i)))=_
 have e:k.decode (k.encode (.number s m i))=.number s n x:=r1
 rw [e];rfl
theorem prog_eq {y:Nat} {s:Bool} {n:Nat} {p:Int} (hy:single.read y=.number s n p) (hn:n < 2 ^ 24) (hp : -149≤p) (hb:vn n p≤2 ^ 2014) :
  ∃ r t z,f2f .f32 y .f64=some r∧GR r=some t∧f2f .f64 t .f32=some z∧(single.order z y != some .eq)=!(decide (2 ^ 2000 ∣ vn n p)):=by
 obtain ⟨r,n2,p2,a1,a2,a3,a4,a5⟩:=f2f_num (j:=.f32) (k:=.f64) (by decide) (f64 (E:=16) (by decide)) (b:=y) hy (q:=n) (p:=p) (by omega) (by omega) (by omega) rfl (by omega)
 obtain ⟨c1,c2⟩:=cut_whole (w:=.down) (.inl rfl) s n2 p2 (by omega)
 obtain ⟨F,hF⟩:∃ F,F=Toward.down.cut s (n2 <<< p2.toNat) (-p2).toNat:=⟨_,rfl⟩
 rw [← hF] at c1 c2
 rw [a5] at c1 c2
 have hvF:vn F 0=F * 2 ^ 2000:=by
  unfold vn
  rw [show ((0:Int)+2000).toNat=2000 from rfl]
 have hF16:F < 2 ^ 16:=by
  have:F * 2 ^ 2000 < 2 ^ 16 * 2 ^ 2000:=by omega
  generalize 2 ^ 2000=X at this
  exact Nat.lt_of_mul_lt_mul_right this
 obtain ⟨F2,q2,b1,b2,b3,b4⟩:=write_read (f64 (E:=16) (by decide)) s (m:=F) (i:=0) (q:=F) (p:=0) (by omega) (by omega) (by omega) rfl (by rw [hvF];omega)
 obtain ⟨z,F3,q3,d1,d2,d3,d4,d5⟩:=f2f_num (j:=.f64) (k:=.f32) (by decide) f32 (b:=double.write (.number s F 0)) b1 (q:=F) (p:=0) (by omega) (by omega) (by omega) (by rw [b4]) (by rw [b4,hvF];omega)
 refine ⟨r,double.write (.number s F 0),z,a1,?_,d1,?_⟩
 ·unfold GR
  rw [a2,hF];rfl
 ·unfold Format.order
  rw [show single.read z=.number s F3 q3 from d2,hy,order_val (by omega) (by omega)]
  by_cases hw:2 ^ 2000 ∣ vn n p
  ·rw [uO.2 (by rw [d5,b4];exact c1.2 hw),decide_eq_true hw];rfl
  ·rw [decide_eq_false hw]
   have:compare (V s F3 q3) (V s n p)≠.eq:=fun e=>hw (c1.1 (by rw [← uO.1 e,d5,b4]))
   simpa using this
theorem ref_eq {y:Nat} {s:Bool} {n:Nat} {p:Int} (hy:single.read y=.number s n p) (hp : -149≤p) (hb:vn n p≤2 ^ 2014) :
  ∃ z,f2i .f32 y .i64=some z∧(single.order (FloatKind.nearest .f32 z) y != some .eq)=!(decide (2 ^ 2000 ∣ vn n p)):=by
 obtain ⟨c1,c2⟩:=cut_whole (w:=.zero) (.inr rfl) s n p (by omega)
 obtain ⟨Z,hZ⟩:∃ Z,Z=Toward.zero.cut s (n <<< p.toNat) (-p).toNat:=⟨_,rfl⟩
 rw [← hZ] at c1 c2
 have hvZ:vn Z 0=Z * 2 ^ 2000:=by
  unfold vn
  rw [show ((0:Int)+2000).toNat=2000 from rfl]
 have hZ16:Z < 2 ^ 16:=by
  have:Z * 2 ^ 2000 < 2 ^ 16 * 2 ^ 2000:=by omega
  generalize 2 ^ 2000=X at this
  exact Nat.lt_of_mul_lt_mul_right this
 obtain ⟨z,hz⟩:∃ z:Int,z=if s then -(Z:Int) else (Z:Int):=⟨_,rfl⟩
 have hzn:z.natAbs=Z:=by rw [hz];cases s <;> simp
 have hto:(FloatKind.f32.decode y).toInt .zero=some z:=by
  show ((single.read y).toInt .zero)=_
  rw [hy]
  unfold Datum.toInt Datum.integral
  simp only [← hZ]
  unfold signed
  rw [Nat.shiftLeft_zero,hz]
 obtain ⟨Z3,q3,d1,d2,d3,d4⟩:=write_read f32 (decide (z < 0)) (m:=Z) (i:=0) (q:=Z) (p:=0) (by omega) (by omega) (by omega) rfl (by rw [hvZ];omega)
 refine ⟨z,?_,?_⟩
 ·unfold f2i
  rw [hto]
  show (if IntKind.i64.min≤z∧z≤IntKind.i64.max then some z else none)=_
  have e1:IntKind.i64.min=-9223372036854775808:=by decide
  have e2:IntKind.i64.max=9223372036854775807:=by decide
  rw [e1,e2,if_pos (by omega)]
 ·have hn:single.read (FloatKind.nearest .f32 z)=.number (decide (z < 0)) Z3 q3:=by
   unfold FloatKind.nearest
   rw [hzn];exact d1
  unfold Format.order
  rw [hn,hy,order_val (by omega) (by omega)]
  have hV:V (decide (z < 0)) Z3 q3=V s Z 0:=by
   rw [V_eq,V_eq,d4,hvZ]
   by_cases h0:Z=0
   ·subst h0;generalize 2 ^ 2000=X;simp
   ·have:decide (z < 0)=s:=by
     rw [hz]
     cases s
     ·simp
     ·simp;omega
    rw [this]
  rw [hV]
  by_cases hw:2 ^ 2000 ∣ vn n p
  ·rw [uO.2 (c1.2 hw),decide_eq_true hw];rfl
  ·rw [decide_eq_false hw]
   have:compare (V s Z 0) (V s n p)≠.eq:=fun e=>hw (c1.1 (uO.1 e))
   simpa using this
end Go.Flo
set_option maxRecDepth 20000
namespace Go.Proofs.YtchbppgamelchaaDoor
open Go Go.SX Ieee
def Z2:List Int→Int
 | []=>0
 | x::l=>if x=0 then Z2 l else x
theorem wX (x:Int):U0 (I x)=some x:=rfl
def fG (s:Nat) (x:Int):Nat⊕(Int⊕Unit):=if x=0 then .inl (s+1) else .inr (.inl x)
theorem Qby:∀ (ms:List Int) (s:Nat),VD fG (fun _=>(.inr ():Int⊕Unit)) ms s=(if Z2 ms=0 then .inr () else .inl (Z2 ms))
 | [],s=>rfl
 | x::l,s=>by
  unfold VD fG Z2
  by_cases h:x=0
  ·rw [if_pos h,if_pos h];exact Qby l (s+1)
  ·rw [if_neg h,if_neg h,if_neg h]
theorem VA {α β:Type} {f:α→β} {l:List α} {i:Nat} {x:α} (h:l[i]?=some x):(i:Int) < ((l.map f).length:Int):=by
 have:=(List.getElem?_eq_some_iff.1 h).1
 rw [List.length_map];omega
theorem wA {L:List D→Int→Option (Int⊕(Int⊕Unit))} {ms:List Int} (hL:∀ (a:List D) (s:Int),L a s=if s < (a.length:Int) then (el U0 a s).bind fun t=>if t=0 then (if Qa (s+1) then some (.inl (s+1)) else none) else some (.inr (.inl t)) else some (.inr (.inr ())))
  {n:Nat} (hn:100≤n) (hm:ms.length≤90) :
  ((QS (L (ms.map I)) n 0).bind fun t1=>match t1 with | (.inl t1)=>some t1 | (.inr t1)=>some 0)=some (Z2 ms):=by
 have h:=ZI (step:=L (ms.map I)) fG (fun _=>(.inr ():Int⊕Unit)) (fun i _=>(i:Int)) ms (fun i s=>True)
  (fun i s x hx _=>by
   have e:=hL (ms.map I) (i:Int)
   rw [if_pos (VA hx),V1 wX hx,Option.bind_some] at e
   have hi:=(List.getElem?_eq_some_iff.1 hx).1
   unfold fG
   by_cases h0:x=0
   ·rw [if_pos h0] at e ⊢
    rw [if_pos (by unfold Qa;omega)] at e
    exact ⟨e,trivial⟩
   ·rw [if_neg h0] at e ⊢
    exact e)
  (fun s _=>by rw [hL,if_neg (by simp)]) (k:=n) (s:=0) trivial (by omega)
 have h' : QS (L (ms.map I)) n 0=some (VD fG (fun _=>(.inr ():Int⊕Unit)) ms 0):=h
 rw [h',Qby,Option.bind_some]
 by_cases h0:Z2 ms=0
 ·rw [if_pos h0,h0]
 ·rw [if_neg h0]
theorem UI {n:Nat} (hn:100≤n) (ms:List Int) (hm:ms.length≤90):QJ n (ms.map I)=some (Z2 ms):=by
 unfold QJ
 exact wA (L:=fun a s=>WB n a s) (fun a s=>by unfold WB;rfl) hn hm
theorem Qaa {n:Nat} (hn:100≤n) (ms:List Int) (hm:ms.length≤90):Vm n (ms.map I)=some (Z2 ms):=by
 unfold Vm
 exact wA (L:=fun a s=>Wy n a s) (fun a s=>by unfold Wy;rfl) hn hm
def inR (x lo hi:Int):Int:=if x < lo then 3 else if x > hi then 3 else 0
theorem W5 (n:Nat) (x lo hi:Int):Q0 n x lo hi=some (inR x lo hi):=by
 unfold Q0 Vf Q6 inR
 by_cases h:x < lo
 ·simp [h]
 ·by_cases h2:x > hi
  ·simp [h,h2]
  ·simp [h,h2]
theorem kw (n:Nat) (x lo hi:Int):We n x lo hi=some (inR x lo hi):=by
 unfold We YL Wd inR
 by_cases h:x < lo
 ·simp [h]
 ·by_cases h2:x > hi
  ·simp [h,h2]
  ·simp [h,h2]
def chk (b:Nat):Int:=match single.read b with
 | .number _ m e=>if 2 ^ 2010 < Flo.vn m e then 3 else if 2 ^ 2000 ∣ 16 * Flo.vn m e then 0 else 3
 | _=>1
theorem cgt (a b:Int):(some (compare a b) == some Ordering.gt)=decide (b < a):=by
 rcases Int.lt_trichotomy a b with h | h | h
 ·rw [Int.compare_eq_lt.2 h,decide_eq_false (by omega)];rfl
 ·rw [Int.compare_eq_eq.2 h,decide_eq_false (by omega)];rfl
 ·rw [Int.compare_eq_gt.2 h,decide_eq_true h];rfl
theorem clt (a b:Int):(some (compare a b) == some Ordering.lt)=decide (a < b):=by
 rcases Int.lt_trichotomy a b with h | h | h
 ·rw [Int.compare_eq_lt.2 h,decide_eq_true h];rfl
 ·rw [Int.compare_eq_eq.2 h,decide_eq_false (by omega)];rfl
 ·rw [Int.compare_eq_gt.2 h,decide_eq_false (by omega)];rfl
theorem Qc0:single.read 1149239296=.number false 8388608 (-13):=by decide
theorem QcD:single.read 3296722944=.number true 8388608 (-13):=by decide
theorem rmax:single.read 2139095039=.number false 16777215 104:=by decide
theorem Qcs:single.read 4286578687=.number true 16777215 104:=by decide
theorem Qcm:Flo.vn 8388608 (-13)=2 ^ 2010:=by
 have h:∀ k j:Nat,j=k+23→8388608 * 2 ^ k=2 ^ j:=fun k j e=>by rw [e,Nat.pow_add];omega
 unfold Flo.vn
 rw [show ((-13:Int)+2000).toNat=1987 by decide]
 have q:=h 1987 2010 rfl
 exact q
theorem QbK {b:Nat} {s:Bool} {m:Nat} {e:Int} (h:single.read b=.number s m e):(single.order b 1149239296 == some .gt)=(!s && decide (2 ^ 2010 < Flo.vn m e)):=by
 obtain ⟨_,h2,_⟩:=Flo.read_num h
 unfold Format.order
 rw [h,Qc0,Flo.order_val (by omega) (by omega),cgt,Flo.V_eq,Flo.V_eq,Qcm]
 generalize Flo.vn m e=v
 cases s
 ·simp only [Bool.false_eq_true,if_false,Bool.not_false,Bool.true_and,decide_eq_decide];omega
 ·simp only [if_true,Bool.false_eq_true,if_false,Bool.not_true,Bool.false_and,decide_eq_false_iff_not];omega
theorem QbJ {b:Nat} {s:Bool} {m:Nat} {e:Int} (h:single.read b=.number s m e):(single.order b 3296722944 == some .lt)=(s && decide (2 ^ 2010 < Flo.vn m e)):=by
 obtain ⟨_,h2,_⟩:=Flo.read_num h
 unfold Format.order
 rw [h,QcD,Flo.order_val (by omega) (by omega),clt,Flo.V_eq,Flo.V_eq,Qcm]
 generalize Flo.vn m e=v
 cases s
 ·simp only [Bool.false_eq_true,if_false,if_true,Bool.false_and,decide_eq_false_iff_not];omega
 ·simp only [if_true,Bool.true_and,decide_eq_decide];omega
theorem Qb3 {b:Nat} {s:Bool} {m:Nat} {e:Int} (h:single.read b=.number s m e):(single.order b 2139095039 == some .gt)=false∧(single.order b 4286578687 == some .lt)=false∧(single.order b b != some .eq)=false:=by
 obtain ⟨h1,h2,h3⟩:=Flo.read_num h
 have hv:Flo.vn m e≤Flo.vn 16777215 104:=by
  unfold Flo.vn
  exact Nat.mul_le_mul (by omega) (Nat.pow_le_pow_right (by decide) (by omega))
 unfold Format.order
 rw [h,rmax,Qcs,Flo.order_val (by omega) (by omega),Flo.order_val (by omega) (by omega),Flo.order_val (by omega) (by omega),cgt,clt,Int.compare_eq_eq.2 rfl,Flo.V_eq,Flo.V_eq,Flo.V_eq]
 generalize Flo.vn m e=v at *
 generalize Flo.vn 16777215 104=u at *
 refine ⟨?_,?_,rfl⟩
 ·cases s <;> simp only [Bool.false_eq_true,if_false,if_true,decide_eq_false_iff_not] <;> omega
 ·cases s <;> simp only [Bool.false_eq_true,if_false,if_true,decide_eq_false_iff_not] <;> omega
theorem Qb5:Op.negFloat .f32 1149239296=3296722944:=by decide
theorem Xj (n:Nat) (b:Bool) (k:Int):Q6 n b k=some (if b=true then k else 0):=by
 unfold Q6;cases b <;> rfl
theorem Qdf (x:Nat) (hx:x < 18446744073709551616):(Go.bits .andNot .u64 (x:Int) 9223372036854775808).toNat=x % 9223372036854775808:=by
 have h1:(BitVec.ofInt 64 (x:Int) &&& ~~~ BitVec.ofInt 64 9223372036854775808).toNat=x % 9223372036854775808:=by
  rw [BitVec.toNat_and]
  have e1:(~~~ BitVec.ofInt 64 9223372036854775808).toNat=2 ^ 63 - 1:=by decide
  have e2:(BitVec.ofInt 64 (x:Int)).toNat=x:=by
   rw [BitVec.toNat_ofInt];omega
  rw [e1,e2,Nat.and_two_pow_sub_one_eq_mod]
 have h2:Go.bits .andNot .u64 (x:Int) 9223372036854775808=IntKind.u64.wrap ((BitVec.ofInt 64 (x:Int) &&& ~~~ BitVec.ofInt 64 9223372036854775808).toNat:Int):=rfl
 rw [h2,h1,IntKind.wrap_u64]
 omega
theorem Qa1 {r:Nat}:(∀ {s:Bool} {n:Nat} {x:Int},double.read r=.number s n x→double.read (r % 9223372036854775808)=.number false n x)∧(∀ {s:Bool},double.read r=.infinity s→double.read (r % 9223372036854775808)=.infinity false):=by
 have e1:double.signWeight=9223372036854775808:=by decide
 have e2:double.binade=4503599627370496:=by decide
 have e3:double.infRung=9218868437227405312:=by decide
 have h0:r % 9223372036854775808 / 9223372036854775808=0:=Nat.div_eq_of_lt (Nat.mod_lt _ (by decide))
 unfold Format.read
 simp only [e1,e2,e3,Nat.mod_mod,h0]
 refine ⟨fun {s n x} h=>?_,fun {s} h=>?_⟩
 ·split at h
  ·rename_i c;cases h;rw [if_pos c];rfl
  ·rename_i c
   rw [if_neg c]
   split at h
   ·rename_i c;cases h;rw [if_pos c];rfl
   ·split at h <;> cases h
 ·split at h
  ·cases h
  ·rename_i c
   rw [if_neg c]
   split at h
   ·cases h
   ·rename_i c
    rw [if_neg c]
    split at h
    ·rename_i c;rw [if_pos c];rfl
    ·cases h
theorem QaK (s:Bool) (m:Nat) (e:Int):double.write (.number s m e) < 18446744073709551616:=by
 have e1:double.signWeight=9223372036854775808:=by decide
 have e3:double.infRung=9218868437227405312:=by decide
 have hw:∀ k:Nat,k≤9218868437227405312→double.word s k < 18446744073709551616:=by
  intro k hk
  unfold Format.word
  rw [e1]
  split <;> omega
 show double.nearest s m e < _
 unfold Format.nearest
 split
 ·exact hw 0 (by decide)
 ·exact hw _ (by rw [e3];exact Nat.min_le_right _ _)
theorem Qb9 {n a0:Nat} {s:Bool} {m:Nat} {e:Int} (h:single.read a0=.number s m e):WA n a0=some false:=by
 obtain ⟨h1,h2,h3⟩:=Flo.read_num h
 have hb:Flo.vn m e < 2 ^ (2000+200):=by
  unfold Flo.vn
  have q1:m * 2 ^ (e+2000).toNat < 2 ^ 24 * 2 ^ (e+2000).toNat:=Nat.mul_lt_mul_of_pos_right h1 (Nat.two_pow_pos _)
  rw [← Nat.pow_add] at q1
  have q2:∀ a b:Nat,a≤b→m * 2 ^ (e+2000).toNat < 2 ^ a→m * 2 ^ (e+2000).toNat < 2 ^ b:=fun a b hab h=>Nat.lt_of_lt_of_le h (Nat.pow_le_pow_right (by decide) hab)
  have q3:=q2 (24+(e+2000).toNat) (2000+200) (by omega) q1
  exact q3
 obtain ⟨r,q,x,a1,a2,a3,a4,a5⟩:=Flo.f2f_num (j:=.f32) (k:=.f64) (by decide) (Flo.f64 (E:=200) (by decide)) (b:=a0) h (q:=m) (p:=e) (by omega) (by omega) (by omega) rfl hb
 have hr:r < 18446744073709551616:=by
  unfold f2f at a1
  rw [if_neg (by decide),show FloatKind.f32.decode a0=.number s m e from h] at a1
  simp only at a1
  split at a1
  ·cases a1
  ·cases a1;exact QaK s m e
 have a2' : double.read r=.number s q x:=a2
 have h4:=Qa1.1 a2'
 have hmax:double.read 9218868437227405311=.number false 9007199254740991 971:=by decide
 have hlt:Flo.vn q x < Flo.vn 9007199254740991 971:=by
  rw [a5]
  refine Nat.lt_of_lt_of_le hb ?_
  unfold Flo.vn
  rw [show ((971:Int)+2000).toNat=2971 from rfl]
  have h1:∀ a b c:Nat,a≤b→0 < c→2 ^ a≤c * 2 ^ b:=fun a b c hab hc=>Nat.le_trans (Nat.pow_le_pow_right (by decide) hab) (Nat.le_mul_of_pos_left _ hc)
  have q4:=h1 (2000+200) 2971 9007199254740991 (by decide) (by decide)
  exact q4
 have o1:(FloatKind.format .f64).order r r=some .eq:=by
  show (double.read r).order (double.read r)=_
  rw [a2',Flo.order_val (by omega) (by omega),Int.compare_eq_eq.2 rfl]
 have o2:(FloatKind.format .f64).order (r % 9223372036854775808) 9218868437227405311=some .lt:=by
  show (double.read _).order (double.read _)=_
  rw [h4,hmax,Flo.order_val (by omega) (by omega),Flo.V_eq,Flo.V_eq]
  simp only [Bool.false_eq_true,if_false]
  rw [Int.compare_eq_lt.2 (by omega)]
 unfold WA YM YN G6
 rw [a1]
 simp only [Option.isSome_some,if_true,Option.getD_some,Option.bind_some,o1,Qdf r hr,o2]
 rfl
theorem Qbo {n b:Nat} {s:Bool} {m:Nat} {e:Int} (h:single.read b=.number s m e):W3 n b 1149239296=some (chk b):=by
 unfold W3 chk
 rw [h,Qb5]
 simp only
 change (if (single.order b 3296722944 == some .lt)=true then _ else if (single.order b 1149239296 == some .gt)=true then _ else _)=_
 rw [QbJ h,QbK h]
 by_cases hb:2 ^ 2010 < Flo.vn m e
 ·rw [if_pos hb,decide_eq_true hb]
  cases s
  ·rw [if_neg (by simp),if_pos (by simp)];rfl
  ·rw [if_pos (by simp)];rfl
 ·rw [if_neg hb,decide_eq_false hb,Bool.and_false,Bool.and_false,if_neg (by simp),if_neg (by simp)]
  obtain ⟨y,q,p,y1,y2,y3,y4,y5⟩:=Flo.mul16 h (by omega)
  obtain ⟨r,t,z,z1,z2,z3,z4⟩:=Flo.prog_eq y2 y4 y3 (by rw [y5];omega)
  rw [y1]
  simp only [Option.isSome_some,if_true,Option.getD_some]
  rw [z1]
  simp only [Option.isSome_some,if_true,Option.getD_some]
  rw [show KL n r=some t from z2,Option.bind_some,z3]
  simp only [Option.isSome_some,if_true,Option.getD_some]
  rw [Xj,Option.bind_some]
  change some (if (single.order z y != some .eq)=true then (3:Int) else 0)=_
  rw [z4,y5]
  by_cases hd:2 ^ 2000 ∣ 16 * Flo.vn m e
  ·rw [decide_eq_true hd,if_pos hd];rfl
  ·rw [decide_eq_false hd,if_neg hd];rfl
theorem Qaz {n:Nat} (hn:100≤n) {b:Nat} {s:Bool} {m:Nat} {e:Int} (h:single.read b=.number s m e):ZH n b=some (chk b):=by
 unfold ZH
 rw [Qb9 h,Option.bind_some,Xj,Option.bind_some,Qbo h,Option.bind_some,show ([I (if false=true then 1 else 0),I (chk b)]:List D)=[if false=true then 1 else 0,chk b].map I from rfl,UI hn _ (by simp),Option.bind_some]
 congr 1
 show (if (0:Int)=0 then Z2 [chk b] else 0)=chk b
 rw [if_pos rfl]
 unfold Z2 Z2
 by_cases h0:chk b=0
 ·rw [if_pos h0,h0]
 ·rw [if_neg h0]
theorem QbI {n:Nat} (hn:100≤n) {b:Nat} (h:chk b=0):ZH n b=some 0:=by
 cases hb:single.read b with
 | number s m e=>rw [Qaz hn hb,h]
 | nan s t=>unfold chk at h;rw [hb] at h;cases h
 | infinity s=>unfold chk at h;rw [hb] at h;cases h
theorem QaY (n:Nat) (b:Bool) (k:Int):Wd n b k=some (if b=true then k else 0):=by
 unfold Wd;cases b <;> rfl
theorem Qbd:FloatKind.nearest .f32 1024=1149239296:=by decide
theorem QbX:fop .sub .f32 0 1149239296=some 3296722944:=by decide
theorem QbZ {n b:Nat} {s:Bool} {m:Nat} {e:Int} (h:single.read b=.number s m e):Zo n b 1024=some (chk b):=by
 obtain ⟨m1,m2,m3⟩:=Qb3 h
 unfold Zo chk
 rw [h,Qbd,QbX]
 simp only [Option.isSome_some,if_true,Option.getD_some]
 change (if (single.order b b != some .eq)=true then _ else if (single.order b 2139095039 == some .gt)=true then _ else if (single.order b 4286578687 == some .lt)=true then _ else if (single.order b 1149239296 == some .gt)=true then _ else if (single.order b 3296722944 == some .lt)=true then _ else _)=_
 rw [m1,m2,m3,if_neg (by decide),if_neg (by decide),if_neg (by decide),QbK h,QbJ h]
 by_cases hb:2 ^ 2010 < Flo.vn m e
 ·rw [if_pos hb,decide_eq_true hb]
  cases s
  ·rw [if_pos (by simp)]
  ·rw [if_neg (by simp),if_pos (by simp)]
 ·rw [if_neg hb,decide_eq_false hb,Bool.and_false,Bool.and_false,if_neg (by simp),if_neg (by simp)]
  obtain ⟨y,q,p,y1,y2,y3,y4,y5⟩:=Flo.mul16 h (by omega)
  obtain ⟨z,z1,z4⟩:=Flo.ref_eq y2 y3 (by rw [y5];omega)
  rw [y1]
  simp only [Option.isSome_some,if_true,Option.getD_some]
  rw [z1]
  simp only [Option.isSome_some,if_true,Option.getD_some]
  rw [QaY,Option.bind_some]
  change some (if (single.order (FloatKind.nearest .f32 z) y != some .eq)=true then (3:Int) else 0)=_
  rw [z4,y5]
  by_cases hd:2 ^ 2000 ∣ 16 * Flo.vn m e
  ·rw [decide_eq_true hd,if_pos hd];rfl
  ·rw [decide_eq_false hd,if_neg hd];rfl
theorem ref_eq (n b:Nat):Z0 n b=some (chk b):=by
 unfold Z0
 have key:Zo n b 1024=some (chk b):=by
  cases h:single.read b with
  | number s m e=>exact QbZ h
  | nan s t =>
   unfold Zo chk
   rw [h]
   have e:single.order b b=none:=by unfold Format.order;rw [h];rfl
   change (if (single.order b b != some .eq)=true then _ else _)=_
   rw [e];rfl
  | infinity s =>
   unfold Zo chk
   rw [h]
   change (if (single.order b b != some .eq)=true then _ else if (single.order b 2139095039 == some .gt)=true then _ else if (single.order b 4286578687 == some .lt)=true then _ else _)=_
   unfold Format.order
   rw [h,rmax,Qcs]
   cases s <;> rfl
 rw [key,Option.bind_some]
set_option maxRecDepth 10000
set_option maxHeartbeats 4000000
def ZC (n:Nat) (t6 t7:Int×Int×List D) (sa:(Int×List D)):Option (((Int×List D))⊕((List D))) :=
 if sa.1 < ((t6.2.2).length:Int) then
  if 0≤sa.1∧sa.1 < ((sa.2).length:Int) then
  ((nth (sa.2) (Int.toNat sa.1)).bind U0).bind fun ta3 =>
  if 0≤sa.1∧sa.1 < ((t7.2.2).length:Int) then
  ((nth (t7.2.2) (Int.toNat sa.1)).bind U0).bind fun ta5 =>
  if Qa (ta3+ta5) then
  if (Int.toNat sa.1) < (sa.2).length then
  if Qa (sa.1+1) then
  some (.inl ((sa.1+1),(List.set sa.2 (Int.toNat sa.1) (I (ta3+ta5):D))))
  else none
  else none
  else none
  else none
  else none
 else
 some (.inr sa.2)
noncomputable def ES (t6 t7:Int×Int×List D) (sa:(Int×List D)):List (Nat×AV):=[(4,.ptr 2 0 0 0 0),(7,.ptr 28 0 0 0 0),(8,.ptr 29 0 0 0 0),(38,.d (I ((t6.2.2).length:Int))),(39,.d (I sa.1))]
noncomputable def EY (t6 t7:Int×Int×List D) (sa:(Int×List D)):List (Nat×Blk):=[(2,.box (.d (.agg [I 0,I 0,.lst true 0 []]))),(25,.row 0 1 sa.2),(27,.row 0 1 t7.2.2),(28,.box (.agg [.d (I t6.1),.d (I t6.2.1),.own 25 0])),(29,.box (.agg [.d (I t7.1),.d (I t7.2.1),.own 27 0]))]
noncomputable def EO (t6 t7:Int×Int×List D) (e:(List D)):Ex:=(.exit 0)
noncomputable def XR (t6 t7:Int×Int×List D) (e:(List D)):List (Nat×AV):=[(4,.ptr 2 0 0 0 0),(7,.ptr 28 0 0 0 0)]
noncomputable def XW (t6 t7:Int×Int×List D) (e:(List D)):List (Nat×Blk):=[(2,.box (.d (.agg [I 0,I 0,.lst true 0 []]))),(25,.row 0 1 e),(28,.box (.agg [.d (I t6.1),.d (I t6.2.1),.own 25 0]))]
theorem EU {n:Nat} {t6 t7:Int×Int×List D} (sa:(Int×List D)) (r) (h:ZC n t6 t7 sa=some r):Rd cx (Qp cx.P 12 0) 59 0 false (ES t6 t7) (EY t6 t7) (EO t6 t7) (XR t6 t7) (XW t6 t7) sa r:=by
 unfold ZC at h
 by_cases ha1:sa.1 < ((t6.2.2).length:Int)
 ·replace h:=Qk h ha1
  obtain ⟨ha2,h⟩:=Qf h
  obtain ⟨ta3,ha3,h⟩:=Qe h
  obtain ⟨ha4,h⟩:=Qf h
  obtain ⟨ta5,ha5,h⟩:=Qe h
  obtain ⟨ha6,h⟩:=Qf h
  obtain ⟨ha7,h⟩:=Qf h
  obtain ⟨ha8,h⟩:=Qf h
  replace h:=Option.some.inj h
  subst h
  exact ⟨100,36,[.br true,.br true,.el (I ta3),.br true,.el (I ta5),.br true,.br true],[],[4,7,8,38,39],[2,25,27,28,29],Qi (ob:=[Qa (sa.1+1),(Int.toNat sa.1) < (sa.2).length,0≤sa.1∧sa.1 < ((sa.2).length:Int),Qa (ta3+ta5),nth (t7.2.2) (Int.toNat sa.1)=some (I ta5),0≤sa.1∧sa.1 < ((t7.2.2).length:Int),nth (sa.2) (Int.toNat sa.1)=some (I ta3),0≤sa.1∧sa.1 < ((sa.2).length:Int),(decide (sa.1 < ((t6.2.2).length:Int)))=true]) (by kernel_rfl) ⟨ha8,ha7,ha2,ha6,Qo Qm ha5,ha4,Qo Qm ha3,ha2,(decide_eq_true ha1),trivial⟩⟩
 ·replace h:=Ql h ha1
  replace h:=Option.some.inj h
  subst h
  exact ⟨⟨100,36,[.br false],[],[4,7],[2,25,28],Qi (ob:=[(decide (sa.1 < ((t6.2.2).length:Int)))=false]) (by kernel_rfl) ⟨(decide_eq_false ha1),trivial⟩⟩,nofun⟩
def Z8 (n:Nat) (a0 a1:Int) (a2:List D) (a3 a4:Int) (a5:List D):Option (Int×Int×List D×Int) :=
 (ZL n a0 a1 a2).bind fun t1 =>
 (ZL n a3 a4 a5).bind fun t2 =>
 (QJ n ([I t1,I t2])).bind fun t3 =>
 if t3=0 then
  if ((a0 == a3) && ((a1 == a4) && true))=true then
   (Zx n a0 a1 a2).bind fun t6 =>
   (Zx n a3 a4 a5).bind fun t7 =>
   (QS (ZC n t6 t7) n (0,t6.2.2)).bind fun t8 =>
   (Wr n t6.1 t6.2.1 t8).bind fun t9 =>
   some (t9.1,t9.2.1,t9.2.2.1,t9.2.2.2)
  else
  some (0,0,[],2)
 else
 some (0,0,[],t3)
theorem Yc {n:Nat} {a0 a1:Int} {a2:List D} {a3 a4:Int} {a5:List D} {r:Int×Int×List D×Int} (h:Z8 n a0 a1 a2 a3 a4 a5=some r):Computes cx 12 [.agg [I a0,I a1,.lst false 1 a2],.agg [I a3,I a4,.lst false 1 a5]] (.tup [.agg [I r.1,I r.2.1,.lst false 1 r.2.2.1],I r.2.2.2]):=by
 unfold Z8 at h
 obtain ⟨t1,h1,h⟩:=Qe h
 obtain ⟨t2,h2,h⟩:=Qe h
 obtain ⟨t3,h3,h⟩:=Qe h
 by_cases h4:t3=0
 ·replace h:=Qk h h4
  by_cases h5:((a0 == a3) && ((a1 == a4) && true))=true
  ·replace h:=Qk h h5
   obtain ⟨t6,h6,h⟩:=Qe h
   obtain ⟨t7,h7,h⟩:=Qe h
   obtain ⟨t8,h8,h⟩:=Qe h
   obtain ⟨t9,h9,h⟩:=Qe h
   replace h:=Option.some.inj h
   subst h
   exact run (n:=100) (f:=12) (args:=[.agg [I a0,I a1,.lst false 1 a2],.agg [I a3,I a4,.lst false 1 a5]]) (orc:=[.ret (I t1),.ret (I t2),.ret (I t3),.br false,.br false,.obj none (.agg [.d (I t6.1),.d (I t6.2.1),.own 0 0]) [.row 1 t6.2.2] [true],.obj none (.agg [.d (I t7.1),.d (I t7.2.1),.own 0 0]) [.row 1 t7.2.2] [true],.lp [] [4,7,8,38,39] [2,25,27,28,29] (.exit 0) [(4,.ptr 2 0 0 0 0),(7,.ptr 28 0 0 0 0)] [(2,.box (.d (.agg [I 0,I 0,.lst true 0 []]))),(25,.row 0 1 t8),(28,.box (.agg [.d (I t6.1),.d (I t6.2.1),.own 25 0]))] 65,.ret (.tup [.agg [I t9.1,I t9.2.1,.lst false 1 t9.2.2.1],I t9.2.2.2])]) (r:=.tup [.agg [I t9.1,I t9.2.1,.lst false 1 t9.2.2.1],I t9.2.2.2]) (ob:=[Computes cx 30 [.agg [I t6.1,I t6.2.1,.lst false 1 t8]] (.tup [.agg [I t9.1,I t9.2.1,.lst false 1 t9.2.2.1],I t9.2.2.2]),QI cx (Qp cx.P 12 0) 59 0 false [(4,.ptr 2 0 0 0 0),(7,.ptr 28 0 0 0 0),(8,.ptr 29 0 0 0 0),(38,.d (I ((t6.2.2).length:Int))),(39,.d (I 0))] [(2,.box (.d (.agg [I 0,I 0,.lst true 0 []]))),(25,.row 0 1 t6.2.2),(27,.row 0 1 t7.2.2),(28,.box (.agg [.d (I t6.1),.d (I t6.2.1),.own 25 0])),(29,.box (.agg [.d (I t7.1),.d (I t7.2.1),.own 27 0]))] (.exit 0) [(4,.ptr 2 0 0 0 0),(7,.ptr 28 0 0 0 0)] [(2,.box (.d (.agg [I 0,I 0,.lst true 0 []]))),(25,.row 0 1 t8),(28,.box (.agg [.d (I t6.1),.d (I t6.2.1),.own 25 0]))],WQ cx 29 [.agg [I a3,I a4,.lst false 1 a5]] 1 t7.2.2 (.agg [.d (I t7.1),.d (I t7.2.1),.own 0 0]),WQ cx 29 [.agg [I a0,I a1,.lst false 1 a2]] 1 t6.2.2 (.agg [.d (I t6.1),.d (I t6.2.1),.own 0 0]),(!((a0 == a3) && ((a1 == a4) && true)))=false,(t3 != 0)=false,Computes cx 25 [.lst true 1 [I t1,I t2]] (I t3),Computes cx 28 [.agg [I a3,I a4,.lst false 1 a5]] (I t2),Computes cx 28 [.agg [I a0,I a1,.lst false 1 a2]] (I t1)]) (by kernel_rfl) ⟨(XF h9),(Qx EU h8),(Vi h7),(Vi h6),(VS h5),(nef h4),((Qt h3).le (.cons (.full _ _ _) (.nil)) (.refl _)),(Zz h2),(Zz h1),trivial⟩
  ·replace h:=Ql h h5
   replace h:=Option.some.inj h
   subst h
   exact (run (n:=100) (f:=12) (args:=[.agg [I a0,I a1,.lst false 1 a2],.agg [I a3,I a4,.lst false 1 a5]]) (orc:=[.ret (I t1),.ret (I t2),.ret (I t3),.br false,.br true]) (r:=.tup [.agg [I 0,I 0,.lst true 0 []],I 2]) (ob:=[(!((a0 == a3) && ((a1 == a4) && true)))=true,(t3 != 0)=false,Computes cx 25 [.lst true 1 [I t1,I t2]] (I t3),Computes cx 28 [.agg [I a3,I a4,.lst false 1 a5]] (I t2),Computes cx 28 [.agg [I a0,I a1,.lst false 1 a2]] (I t1)]) (by kernel_rfl) ⟨(qR (Qy h5)),(nef h4),((Qt h3).le (.cons (.full _ _ _) (.nil)) (.refl _)),(Zz h2),(Zz h1),trivial⟩).le (LEs.refl _) (.tups (.cons (.aggs (.cons (.refl _) (.cons (.refl _) (.cons (.nilF) (.nil))))) (.cons (.refl _) (.nil))))
 ·replace h:=Ql h h4
  replace h:=Option.some.inj h
  subst h
  exact (run (n:=100) (f:=12) (args:=[.agg [I a0,I a1,.lst false 1 a2],.agg [I a3,I a4,.lst false 1 a5]]) (orc:=[.ret (I t1),.ret (I t2),.ret (I t3),.br true]) (r:=.tup [.agg [I 0,I 0,.lst true 0 []],I t3]) (ob:=[(t3 != 0)=true,Computes cx 25 [.lst true 1 [I t1,I t2]] (I t3),Computes cx 28 [.agg [I a3,I a4,.lst false 1 a5]] (I t2),Computes cx 28 [.agg [I a0,I a1,.lst false 1 a2]] (I t1)]) (by kernel_rfl) ⟨(net h4),((Qt h3).le (.cons (.full _ _ _) (.nil)) (.refl _)),(Zz h2),(Zz h1),trivial⟩).le (LEs.refl _) (.tups (.cons (.aggs (.cons (.refl _) (.cons (.refl _) (.cons (.nilF) (.nil))))) (.cons (.refl _) (.nil))))
def Wa (n:Nat) (t3:Int×Int×List D) (sa:(Int×Int)):Option (((Int×Int))⊕((Int))) :=
 if sa.2 < ((t3.2.2).length:Int) then
  if 0≤sa.2∧sa.2 < ((t3.2.2).length:Int) then
  ((nth (t3.2.2) (Int.toNat sa.2)).bind U0).bind fun ta3 =>
  if Qa (sa.1+ta3) then
  if Qa (sa.2+1) then
  some (.inl ((sa.1+ta3),(sa.2+1)))
  else none
  else none
  else none
 else
 some (.inr sa.1)
noncomputable def ER (t3:Int×Int×List D) (sa:(Int×Int)):List (Nat×AV):=[(5,.d (I sa.1)),(15,.own 14 0),(16,.d (I ((t3.2.2).length:Int))),(17,.d (I sa.2))]
noncomputable def EX (t3:Int×Int×List D) (sa:(Int×Int)):List (Nat×Blk):=[(14,.row 0 1 t3.2.2)]
noncomputable def EN (t3:Int×Int×List D) (e:(Int)):Ex:=(.exit 0)
noncomputable def XQ (t3:Int×Int×List D) (e:(Int)):List (Nat×AV):=[(5,.d (I e))]
noncomputable def XV (t3:Int×Int×List D) (e:(Int)):List (Nat×Blk):=[]
theorem ET {n:Nat} {t3:Int×Int×List D} (sa:(Int×Int)) (r) (h:Wa n t3 sa=some r):Rd cx (Qp cx.P 14 0) 26 0 false (ER t3) (EX t3) (EN t3) (XQ t3) (XV t3) sa r:=by
 unfold Wa at h
 by_cases ha1:sa.2 < ((t3.2.2).length:Int)
 ·replace h:=Qk h ha1
  obtain ⟨ha2,h⟩:=Qf h
  obtain ⟨ta3,ha3,h⟩:=Qe h
  obtain ⟨ha4,h⟩:=Qf h
  obtain ⟨ha5,h⟩:=Qf h
  replace h:=Option.some.inj h
  subst h
  exact ⟨100,15,[.br true,.br true,.el (I ta3)],[],[5,15,16,17],[14],Qi (ob:=[Qa (sa.2+1),Qa (sa.1+ta3),nth (t3.2.2) (Int.toNat sa.2)=some (I ta3),0≤sa.2∧sa.2 < ((t3.2.2).length:Int),(decide (sa.2 < ((t3.2.2).length:Int)))=true]) (by kernel_rfl) ⟨ha5,ha4,Qo Qm ha3,ha2,(decide_eq_true ha1),trivial⟩⟩
 ·replace h:=Ql h ha1
  replace h:=Option.some.inj h
  subst h
  exact ⟨⟨100,15,[.br false],[],[5],[],Qi (ob:=[(decide (sa.2 < ((t3.2.2).length:Int)))=false]) (by kernel_rfl) ⟨(decide_eq_false ha1),trivial⟩⟩,nofun⟩
def QT (n:Nat) (a0 a1:Int) (a2:List D):Option (Int×Int) :=
 (ZL n a0 a1 a2).bind fun t1 =>
 if t1=0 then
  (Zx n a0 a1 a2).bind fun t3 =>
  (QS (Wa n t3) n (0,0)).bind fun t4 =>
  some (t4,0)
 else
 some (0,t1)
theorem Ze {n:Nat} {a0 a1:Int} {a2:List D} {r:Int×Int} (h:QT n a0 a1 a2=some r):Computes cx 14 [.agg [I a0,I a1,.lst false 1 a2]] (.tup [I r.1,I r.2]):=by
 unfold QT at h
 obtain ⟨t1,h1,h⟩:=Qe h
 by_cases h2:t1=0
 ·replace h:=Qk h h2
  obtain ⟨t3,h3,h⟩:=Qe h
  obtain ⟨t4,h4,h⟩:=Qe h
  replace h:=Option.some.inj h
  subst h
  exact run (n:=100) (f:=14) (args:=[.agg [I a0,I a1,.lst false 1 a2]]) (orc:=[.ret (I t1),.br false,.obj none (.agg [.d (I t3.1),.d (I t3.2.1),.own 0 0]) [.row 1 t3.2.2] [true],.lp [] [5,15,16,17] [14] (.exit 0) [(5,.d (I t4))] [] 36]) (r:=.tup [I t4,I 0]) (ob:=[QI cx (Qp cx.P 14 0) 26 0 false [(5,.d (I 0)),(15,.own 14 0),(16,.d (I ((t3.2.2).length:Int))),(17,.d (I 0))] [(14,.row 0 1 t3.2.2)] (.exit 0) [(5,.d (I t4))] [],WQ cx 29 [.agg [I a0,I a1,.lst false 1 a2]] 1 t3.2.2 (.agg [.d (I t3.1),.d (I t3.2.1),.own 0 0]),(t1 != 0)=false,Computes cx 28 [.agg [I a0,I a1,.lst false 1 a2]] (I t1)]) (by kernel_rfl) ⟨(Qx ET h4),(Vi h3),(nef h2),(Zz h1),trivial⟩
 ·replace h:=Ql h h2
  replace h:=Option.some.inj h
  subst h
  exact run (n:=100) (f:=14) (args:=[.agg [I a0,I a1,.lst false 1 a2]]) (orc:=[.ret (I t1),.br true]) (r:=.tup [I 0,I t1]) (ob:=[(t1 != 0)=true,Computes cx 28 [.agg [I a0,I a1,.lst false 1 a2]] (I t1)]) (by kernel_rfl) ⟨(net h2),(Zz h1),trivial⟩
def ZG (n:Nat) (a0 a1:List D) (sa:(Int)):Option (((Int))⊕((Unit)⊕(Unit))) :=
 if sa < ((a0).length:Int) then
  (el U0 a0 sa).bind fun ta2 =>
  (el U0 a1 sa).bind fun ta3 =>
  if ta2=ta3 then
   if Qa (sa+1) then
   some (.inl (sa+1))
   else none
  else
  some (.inr (.inl ()))
 else
 some (.inr (.inr ()))
noncomputable def Gq (a0 a1:List D) (sa:(Int)):List (Nat×AV):=[(0,.d (.lst false 1 a0)),(1,.d (.lst false 1 a1)),(5,.d (I sa))]
noncomputable def Gv (a0 a1:List D) (sa:(Int)):List (Nat×Blk):=[]
noncomputable def Gm (a0 a1:List D) (e:(Unit)⊕(Unit)):Ex:=match e with
 | (.inl e)=>.ret
 | (.inr e)=>(.exit 0)
noncomputable def JV (a0 a1:List D) (e:(Unit)⊕(Unit)):List (Nat×AV):=match e with
 | (.inl e)=>[(4,.d (B false))]
 | (.inr e)=>[]
noncomputable def JY (a0 a1:List D) (e:(Unit)⊕(Unit)):List (Nat×Blk):=match e with
 | (.inl e)=>[]
 | (.inr e)=>[]
theorem Yz {n:Nat} {a0 a1:List D} (sa:(Int)) (r) (h:ZG n a0 a1 sa=some r):Rd cx (Qp cx.P 15 0) 26 0 false (Gq a0 a1) (Gv a0 a1) (Gm a0 a1) (JV a0 a1) (JY a0 a1) sa r:=by
 unfold ZG at h
 by_cases ha1:sa < ((a0).length:Int)
 ·replace h:=Qk h ha1
  obtain ⟨ta2,ha2,h⟩:=Qe h
  obtain ⟨ta3,ha3,h⟩:=Qe h
  by_cases ha4:ta2=ta3
  ·replace h:=Qk h ha4
   obtain ⟨ha5,h⟩:=Qf h
   replace h:=Option.some.inj h
   subst h
   exact ⟨100,7,[.br true,.el (I ta2),.el (I ta3),.br false],[],[0,1,5],[],Qi (ob:=[Qa (sa+1),(ta2 != ta3)=false,(0:Int)≤sa,nth (a1) (Int.toNat sa)=some (I ta3),(0:Int)≤sa,nth (a0) (Int.toNat sa)=some (I ta2),(decide (sa < ((a0).length:Int)))=true]) (by kernel_rfl) ⟨ha5,(nef ha4),(Qw Qm ha3).1,(Qw Qm ha3).2,(Qw Qm ha2).1,(Qw Qm ha2).2,(decide_eq_true ha1),trivial⟩⟩
  ·replace h:=Ql h ha4
   replace h:=Option.some.inj h
   subst h
   exact ⟨⟨100,7,[.br true,.el (I ta2),.el (I ta3),.br true],[],[4],[],Qi (ob:=[(ta2 != ta3)=true,(0:Int)≤sa,nth (a1) (Int.toNat sa)=some (I ta3),(0:Int)≤sa,nth (a0) (Int.toNat sa)=some (I ta2),(decide (sa < ((a0).length:Int)))=true]) (by kernel_rfl) ⟨(net ha4),(Qw Qm ha3).1,(Qw Qm ha3).2,(Qw Qm ha2).1,(Qw Qm ha2).2,(decide_eq_true ha1),trivial⟩⟩,nofun⟩
 ·replace h:=Ql h ha1
  replace h:=Option.some.inj h
  subst h
  exact ⟨⟨100,7,[.br false],[],[],[],Qi (ob:=[(decide (sa < ((a0).length:Int)))=false]) (by kernel_rfl) ⟨(decide_eq_false ha1),trivial⟩⟩,nofun⟩
def Zh (n:Nat) (a0 a1:List D):Option (Bool) :=
 if ((a0).length:Int)=((a1).length:Int) then
  (QS (ZG n a0 a1) n 0).bind fun t2=>match t2 with
   | (.inl t2)=>(
    some false)
   | (.inr t2)=>(
    some true)
 else
 some false
theorem Vc {n:Nat} {a0 a1:List D} {r:Bool} (h:Zh n a0 a1=some r):Computes cx 15 [.lst false 1 a0,.lst false 1 a1] (B r):=by
 unfold Zh at h
 by_cases h1:((a0).length:Int)=((a1).length:Int)
 ·replace h:=Qk h h1
  obtain ⟨t2,h2,h⟩:=Qe h
  rcases t2 with t2 | t2
  ·replace h:=Option.some.inj h
   subst h
   exact run (n:=100) (f:=15) (args:=[.lst false 1 a0,.lst false 1 a1]) (orc:=[.br false,.lp [] [0,1,5] [] .ret [(4,.d (B false))] [] 34]) (r:=B false) (ob:=[QI cx (Qp cx.P 15 0) 26 0 false [(0,.d (.lst false 1 a0)),(1,.d (.lst false 1 a1)),(5,.d (I 0))] [] .ret [(4,.d (B false))] [],(((a0).length:Int) != ((a1).length:Int))=false]) (by kernel_rfl) ⟨(Qx Yz h2),(nef h1),trivial⟩
  ·replace h:=Option.some.inj h
   subst h
   exact run (n:=100) (f:=15) (args:=[.lst false 1 a0,.lst false 1 a1]) (orc:=[.br false,.lp [] [0,1,5] [] (.exit 0) [] [] 34]) (r:=B true) (ob:=[QI cx (Qp cx.P 15 0) 26 0 false [(0,.d (.lst false 1 a0)),(1,.d (.lst false 1 a1)),(5,.d (I 0))] [] (.exit 0) [] [],(((a0).length:Int) != ((a1).length:Int))=false]) (by kernel_rfl) ⟨(Qx Yz h2),(nef h1),trivial⟩
 ·replace h:=Ql h h1
  replace h:=Option.some.inj h
  subst h
  exact run (n:=100) (f:=15) (args:=[.lst false 1 a0,.lst false 1 a1]) (orc:=[.br true]) (r:=B false) (ob:=[(((a0).length:Int) != ((a1).length:Int))=true]) (by kernel_rfl) ⟨(net h1),trivial⟩
def Ve (n:Nat) (a0 a1:Int) (a2:List D) (a3 a4:Int) (a5:List D):Option (Bool) :=
 if a0=a3 then
  some (a1 == a4)
 else
 some false
theorem UN {n:Nat} {a0 a1:Int} {a2:List D} {a3 a4:Int} {a5:List D} {r:Bool} (h:Ve n a0 a1 a2 a3 a4 a5=some r):Computes cx 31 [.agg [I a0,I a1,.lst false 1 a2],.agg [I a3,I a4,.lst false 1 a5]] (B r):=by
 unfold Ve at h
 by_cases h1:a0=a3
 ·replace h:=Qk h h1
  replace h:=Option.some.inj h
  subst h
  exact run (n:=100) (f:=31) (args:=[.agg [I a0,I a1,.lst false 1 a2],.agg [I a3,I a4,.lst false 1 a5]]) (orc:=[.br true]) (r:=B (a1 == a4)) (ob:=[(a0 == a3)=true]) (by kernel_rfl) ⟨(eqt h1),trivial⟩
 ·replace h:=Ql h h1
  replace h:=Option.some.inj h
  subst h
  exact run (n:=100) (f:=31) (args:=[.agg [I a0,I a1,.lst false 1 a2],.agg [I a3,I a4,.lst false 1 a5]]) (orc:=[.br false]) (r:=B false) (ob:=[(a0 == a3)=false]) (by kernel_rfl) ⟨(eqf h1),trivial⟩
def Zg (n:Nat) (a0 a1:List D) (sa:(Int)):Option (((Int))⊕((Unit)⊕(Unit))) :=
 if sa < ((a0).length:Int) then
  (el YB a0 sa).bind fun ta2 =>
  (el YB a1 sa).bind fun ta3 =>
  if ((FloatKind.format .f32).order ta2 ta3 != some .eq)=true then
   some (.inr (.inl ()))
  else
  if Qa (sa+1) then
  some (.inl (sa+1))
  else none
 else
 some (.inr (.inr ()))
noncomputable def KJ (a0 a1:List D) (sa:(Int)):List (Nat×AV):=[(0,.d (.lst false 1 a0)),(1,.d (.lst false 1 a1)),(5,.d (I sa))]
noncomputable def KK (a0 a1:List D) (sa:(Int)):List (Nat×Blk):=[]
noncomputable def Ko (a0 a1:List D) (e:(Unit)⊕(Unit)):Ex:=match e with
 | (.inl e)=>.ret
 | (.inr e)=>(.exit 0)
noncomputable def UU (a0 a1:List D) (e:(Unit)⊕(Unit)):List (Nat×AV):=match e with
 | (.inl e)=>[(4,.d (B false))]
 | (.inr e)=>[]
noncomputable def UV (a0 a1:List D) (e:(Unit)⊕(Unit)):List (Nat×Blk):=match e with
 | (.inl e)=>[]
 | (.inr e)=>[]
theorem VP {n:Nat} {a0 a1:List D} (sa:(Int)) (r) (h:Zg n a0 a1 sa=some r):Rd cx (Qp cx.P 20 0) 26 0 false (KJ a0 a1) (KK a0 a1) (Ko a0 a1) (UU a0 a1) (UV a0 a1) sa r:=by
 unfold Zg at h
 by_cases ha1:sa < ((a0).length:Int)
 ·replace h:=Qk h ha1
  obtain ⟨ta2,ha2,h⟩:=Qe h
  obtain ⟨ta3,ha3,h⟩:=Qe h
  by_cases ha4:((FloatKind.format .f32).order ta2 ta3 != some .eq)=true
  ·replace h:=Qk h ha4
   replace h:=Option.some.inj h
   subst h
   exact ⟨⟨100,7,[.br true,.el (.v (.float .f32 ta2)),.el (.v (.float .f32 ta3)),.br true],[],[4],[],Qi (ob:=[((FloatKind.format .f32).order ta2 ta3 != some .eq)=true,(0:Int)≤sa,nth (a1) (Int.toNat sa)=some (.v (.float .f32 ta3)),(0:Int)≤sa,nth (a0) (Int.toNat sa)=some (.v (.float .f32 ta2)),(decide (sa < ((a0).length:Int)))=true]) (by kernel_rfl) ⟨ha4,(Qw QN ha3).1,(Qw QN ha3).2,(Qw QN ha2).1,(Qw QN ha2).2,(decide_eq_true ha1),trivial⟩⟩,nofun⟩
  ·replace h:=Ql h ha4
   obtain ⟨ha5,h⟩:=Qf h
   replace h:=Option.some.inj h
   subst h
   exact ⟨100,7,[.br true,.el (.v (.float .f32 ta2)),.el (.v (.float .f32 ta3)),.br false],[],[0,1,5],[],Qi (ob:=[Qa (sa+1),((FloatKind.format .f32).order ta2 ta3 != some .eq)=false,(0:Int)≤sa,nth (a1) (Int.toNat sa)=some (.v (.float .f32 ta3)),(0:Int)≤sa,nth (a0) (Int.toNat sa)=some (.v (.float .f32 ta2)),(decide (sa < ((a0).length:Int)))=true]) (by kernel_rfl) ⟨ha5,(Qy ha4),(Qw QN ha3).1,(Qw QN ha3).2,(Qw QN ha2).1,(Qw QN ha2).2,(decide_eq_true ha1),trivial⟩⟩
 ·replace h:=Ql h ha1
  replace h:=Option.some.inj h
  subst h
  exact ⟨⟨100,7,[.br false],[],[],[],Qi (ob:=[(decide (sa < ((a0).length:Int)))=false]) (by kernel_rfl) ⟨(decide_eq_false ha1),trivial⟩⟩,nofun⟩
def Wt (n:Nat) (a0 a1:List D):Option (Bool) :=
 if ((a0).length:Int)=((a1).length:Int) then
  (QS (Zg n a0 a1) n 0).bind fun t2=>match t2 with
   | (.inl t2)=>(
    some false)
   | (.inr t2)=>(
    some true)
 else
 some false
theorem Gi {n:Nat} {a0 a1:List D} {r:Bool} (h:Wt n a0 a1=some r):Computes cx 20 [.lst false 1 a0,.lst false 1 a1] (B r):=by
 unfold Wt at h
 by_cases h1:((a0).length:Int)=((a1).length:Int)
 ·replace h:=Qk h h1
  obtain ⟨t2,h2,h⟩:=Qe h
  rcases t2 with t2 | t2
  ·replace h:=Option.some.inj h
   subst h
   exact run (n:=100) (f:=20) (args:=[.lst false 1 a0,.lst false 1 a1]) (orc:=[.br false,.lp [] [0,1,5] [] .ret [(4,.d (B false))] [] 34]) (r:=B false) (ob:=[QI cx (Qp cx.P 20 0) 26 0 false [(0,.d (.lst false 1 a0)),(1,.d (.lst false 1 a1)),(5,.d (I 0))] [] .ret [(4,.d (B false))] [],(((a0).length:Int) != ((a1).length:Int))=false]) (by kernel_rfl) ⟨(Qx VP h2),(nef h1),trivial⟩
  ·replace h:=Option.some.inj h
   subst h
   exact run (n:=100) (f:=20) (args:=[.lst false 1 a0,.lst false 1 a1]) (orc:=[.br false,.lp [] [0,1,5] [] (.exit 0) [] [] 34]) (r:=B true) (ob:=[QI cx (Qp cx.P 20 0) 26 0 false [(0,.d (.lst false 1 a0)),(1,.d (.lst false 1 a1)),(5,.d (I 0))] [] (.exit 0) [] [],(((a0).length:Int) != ((a1).length:Int))=false]) (by kernel_rfl) ⟨(Qx VP h2),(nef h1),trivial⟩
 ·replace h:=Ql h h1
  replace h:=Option.some.inj h
  subst h
  exact run (n:=100) (f:=20) (args:=[.lst false 1 a0,.lst false 1 a1]) (orc:=[.br true]) (r:=B false) (ob:=[(((a0).length:Int) != ((a1).length:Int))=true]) (by kernel_rfl) ⟨(net h1),trivial⟩
def Zw (n:Nat) (a0 a1:Int) (a2:List D) (a3 a4:Int) (a5:List D):Option (Bool) :=
 (Ve n a0 a1 a2 a3 a4 a5).bind fun t1 =>
 if t1=true then
  (Wt n a2 a5).bind fun t3 =>
  some t3
 else
 some false
theorem Vo {n:Nat} {a0 a1:Int} {a2:List D} {a3 a4:Int} {a5:List D} {r:Bool} (h:Zw n a0 a1 a2 a3 a4 a5=some r):Computes cx 16 [.agg [I a0,I a1,.lst false 1 a2],.agg [I a3,I a4,.lst false 1 a5]] (B r):=by
 unfold Zw at h
 obtain ⟨t1,h1,h⟩:=Qe h
 by_cases h2:t1=true
 ·replace h:=Qk h h2
  obtain ⟨t3,h3,h⟩:=Qe h
  replace h:=Option.some.inj h
  subst h
  exact run (n:=100) (f:=16) (args:=[.agg [I a0,I a1,.lst false 1 a2],.agg [I a3,I a4,.lst false 1 a5]]) (orc:=[.ret (B t1),.br true,.ret (B t3)]) (r:=B t3) (ob:=[Computes cx 20 [.lst false 1 a2,.lst false 1 a5] (B t3),t1=true,Computes cx 31 [.agg [I a0,I a1,.lst false 1 a2],.agg [I a3,I a4,.lst false 1 a5]] (B t1)]) (by kernel_rfl) ⟨(Gi h3),h2,(UN h1),trivial⟩
 ·replace h:=Ql h h2
  replace h:=Option.some.inj h
  subst h
  exact run (n:=100) (f:=16) (args:=[.agg [I a0,I a1,.lst false 1 a2],.agg [I a3,I a4,.lst false 1 a5]]) (orc:=[.ret (B t1),.br false]) (r:=B false) (ob:=[t1=false,Computes cx 31 [.agg [I a0,I a1,.lst false 1 a2],.agg [I a3,I a4,.lst false 1 a5]] (B t1)]) (by kernel_rfl) ⟨(Qy h2),(UN h1),trivial⟩
def Q7 (x:Int×Int×Int×Int×Int×Int×Int×Int×Int×Int×Int×Int×Int×Int×Int×Int×Int×Int×Int×Int×Int×Int×Int×Int):D:=.agg [.v (.int .u8 x.1),.v (.int .u8 x.2.1),.v (.int .u8 x.2.2.1),.v (.int .u8 x.2.2.2.1),.v (.int .u8 x.2.2.2.2.1),.v (.int .u8 x.2.2.2.2.2.1),.v (.int .u8 x.2.2.2.2.2.2.1),.v (.int .u8 x.2.2.2.2.2.2.2.1),.v (.int .u8 x.2.2.2.2.2.2.2.2.1),.v (.int .u8 x.2.2.2.2.2.2.2.2.2.1),.v (.int .u8 x.2.2.2.2.2.2.2.2.2.2.1),.v (.int .u8 x.2.2.2.2.2.2.2.2.2.2.2.1),.v (.int .u8 x.2.2.2.2.2.2.2.2.2.2.2.2.1),.v (.int .u8 x.2.2.2.2.2.2.2.2.2.2.2.2.2.1),.v (.int .u8 x.2.2.2.2.2.2.2.2.2.2.2.2.2.2.1),.v (.int .u8 x.2.2.2.2.2.2.2.2.2.2.2.2.2.2.2.1),.v (.int .u8 x.2.2.2.2.2.2.2.2.2.2.2.2.2.2.2.2.1),.v (.int .u8 x.2.2.2.2.2.2.2.2.2.2.2.2.2.2.2.2.2.1),.v (.int .u8 x.2.2.2.2.2.2.2.2.2.2.2.2.2.2.2.2.2.2.1),.v (.int .u8 x.2.2.2.2.2.2.2.2.2.2.2.2.2.2.2.2.2.2.2.1),.v (.int .u8 x.2.2.2.2.2.2.2.2.2.2.2.2.2.2.2.2.2.2.2.2.1),.v (.int .u8 x.2.2.2.2.2.2.2.2.2.2.2.2.2.2.2.2.2.2.2.2.2.1),.v (.int .u8 x.2.2.2.2.2.2.2.2.2.2.2.2.2.2.2.2.2.2.2.2.2.2.1),.v (.int .u8 x.2.2.2.2.2.2.2.2.2.2.2.2.2.2.2.2.2.2.2.2.2.2.2)]
def Qu:D→Option (Int×Int×Int×Int×Int×Int×Int×Int×Int×Int×Int×Int×Int×Int×Int×Int×Int×Int×Int×Int×Int×Int×Int×Int)
 | .agg [c0,c1,c2,c3,c4,c5,c6,c7,c8,c9,c10,c11,c12,c13,c14,c15,c16,c17,c18,c19,c20,c21,c22,c23]=>(Q9 .u8 c0).bind fun y0=>(Q9 .u8 c1).bind fun y1=>(Q9 .u8 c2).bind fun y2=>(Q9 .u8 c3).bind fun y3=>(Q9 .u8 c4).bind fun y4=>(Q9 .u8 c5).bind fun y5=>(Q9 .u8 c6).bind fun y6=>(Q9 .u8 c7).bind fun y7=>(Q9 .u8 c8).bind fun y8=>(Q9 .u8 c9).bind fun y9=>(Q9 .u8 c10).bind fun y10=>(Q9 .u8 c11).bind fun y11=>(Q9 .u8 c12).bind fun y12=>(Q9 .u8 c13).bind fun y13=>(Q9 .u8 c14).bind fun y14=>(Q9 .u8 c15).bind fun y15=>(Q9 .u8 c16).bind fun y16=>(Q9 .u8 c17).bind fun y17=>(Q9 .u8 c18).bind fun y18=>(Q9 .u8 c19).bind fun y19=>(Q9 .u8 c20).bind fun y20=>(Q9 .u8 c21).bind fun y21=>(Q9 .u8 c22).bind fun y22=>(Q9 .u8 c23).bind fun y23=>some (y0,y1,y2,y3,y4,y5,y6,y7,y8,y9,y10,y11,y12,y13,y14,y15,y16,y17,y18,y19,y20,y21,y22,y23)
 | _=>none
theorem Qn {d:D} {x:Int×Int×Int×Int×Int×Int×Int×Int×Int×Int×Int×Int×Int×Int×Int×Int×Int×Int×Int×Int×Int×Int×Int×Int} (h:Qu d=some x):d=Q7 x:=by
 unfold Qu at h
 split at h
 case h_2=>cases h
 obtain ⟨y0,h0,h⟩:=Qe h
 obtain ⟨y1,h1,h⟩:=Qe h
 obtain ⟨y2,h2,h⟩:=Qe h
 obtain ⟨y3,h3,h⟩:=Qe h
 obtain ⟨y4,h4,h⟩:=Qe h
 obtain ⟨y5,h5,h⟩:=Qe h
 obtain ⟨y6,h6,h⟩:=Qe h
 obtain ⟨y7,h7,h⟩:=Qe h
 obtain ⟨y8,h8,h⟩:=Qe h
 obtain ⟨y9,h9,h⟩:=Qe h
 obtain ⟨y10,h10,h⟩:=Qe h
 obtain ⟨y11,h11,h⟩:=Qe h
 obtain ⟨y12,h12,h⟩:=Qe h
 obtain ⟨y13,h13,h⟩:=Qe h
 obtain ⟨y14,h14,h⟩:=Qe h
 obtain ⟨y15,h15,h⟩:=Qe h
 obtain ⟨y16,h16,h⟩:=Qe h
 obtain ⟨y17,h17,h⟩:=Qe h
 obtain ⟨y18,h18,h⟩:=Qe h
 obtain ⟨y19,h19,h⟩:=Qe h
 obtain ⟨y20,h20,h⟩:=Qe h
 obtain ⟨y21,h21,h⟩:=Qe h
 obtain ⟨y22,h22,h⟩:=Qe h
 obtain ⟨y23,h23,h⟩:=Qe h
 cases h
 have e0:=QB h0
 have e1:=QB h1
 have e2:=QB h2
 have e3:=QB h3
 have e4:=QB h4
 have e5:=QB h5
 have e6:=QB h6
 have e7:=QB h7
 have e8:=QB h8
 have e9:=QB h9
 have e10:=QB h10
 have e11:=QB h11
 have e12:=QB h12
 have e13:=QB h13
 have e14:=QB h14
 have e15:=QB h15
 have e16:=QB h16
 have e17:=QB h17
 have e18:=QB h18
 have e19:=QB h19
 have e20:=QB h20
 have e21:=QB h21
 have e22:=QB h22
 have e23:=QB h23
 rw [e0,e1,e2,e3,e4,e5,e6,e7,e8,e9,e10,e11,e12,e13,e14,e15,e16,e17,e18,e19,e20,e21,e22,e23];rfl
def ZF (n:Nat) (a0:List D) (sa:(Int×Int)):Option (((Int×Int))⊕((Int))) :=
 if sa.2 < ((a0).length:Int) then
  (el wW a0 sa.2).bind fun ta2 =>
  if Qa (sa.2+1) then
  some (.inl ((IntKind.wrap .i64 (((BitVec.ofInt 64 (IntKind.wrap .i64 (sa.1 * 2 ^ 8)) ||| BitVec.ofInt 64 (IntKind.wrap .i64 ta2)).toNat:Nat):Int)),(sa.2+1)))
  else none
 else
 some (.inr sa.1)
noncomputable def XX (a0:List D) (sa:(Int×Int)):List (Nat×AV):=[(3,.d (I sa.1)),(6,.d (.lst false 1 a0)),(7,.d (I ((a0).length:Int))),(8,.d (I sa.2))]
noncomputable def X1 (a0:List D) (sa:(Int×Int)):List (Nat×Blk):=[]
noncomputable def XL (a0:List D) (e:(Int)):Ex:=(.exit 0)
noncomputable def G0 (a0:List D) (e:(Int)):List (Nat×AV):=[(3,.d (I e))]
noncomputable def G3 (a0:List D) (e:(Int)):List (Nat×Blk):=[]
theorem X0 {n:Nat} {a0:List D} (sa:(Int×Int)) (r) (h:ZF n a0 sa=some r):Rd cx (Qp cx.P 45 0) 19 0 false (XX a0) (X1 a0) (XL a0) (G0 a0) (G3 a0) sa r:=by
 unfold ZF at h
 by_cases ha1:sa.2 < ((a0).length:Int)
 ·replace h:=Qk h ha1
  obtain ⟨ta2,ha2,h⟩:=Qe h
  obtain ⟨ha3,h⟩:=Qf h
  replace h:=Option.some.inj h
  subst h
  exact ⟨100,5,[.br true,.el (.v (.int .u8 ta2))],[],[3,6,7,8],[],Qi (ob:=[Qa (sa.2+1),(0:Int)≤sa.2,nth (a0) (Int.toNat sa.2)=some (.v (.int .u8 ta2)),(decide (sa.2 < ((a0).length:Int)))=true]) (by kernel_rfl) ⟨ha3,(Qw J4 ha2).1,(Qw J4 ha2).2,(decide_eq_true ha1),trivial⟩⟩
 ·replace h:=Ql h ha1
  replace h:=Option.some.inj h
  subst h
  exact ⟨⟨100,5,[.br false],[],[3],[],Qi (ob:=[(decide (sa.2 < ((a0).length:Int)))=false]) (by kernel_rfl) ⟨(decide_eq_false ha1),trivial⟩⟩,nofun⟩
def QQ (n:Nat) (a0:List D):Option (Int) :=
 (QS (ZF n a0) n (0,0)).bind fun t1 =>
 some t1
theorem Qg {n:Nat} {a0:List D} {r:Int} (h:QQ n a0=some r):Computes cx 45 [.lst false 1 a0] (I r):=by
 unfold QQ at h
 obtain ⟨t1,h1,h⟩:=Qe h
 replace h:=Option.some.inj h
 subst h
 exact run (n:=100) (f:=45) (args:=[.lst false 1 a0]) (orc:=[.lp [] [3,6,7,8] [] (.exit 0) [(3,.d (I t1))] [] 28]) (r:=I t1) (ob:=[QI cx (Qp cx.P 45 0) 19 0 false [(3,.d (I 0)),(6,.d (.lst false 1 a0)),(7,.d (I ((a0).length:Int))),(8,.d (I 0))] [] (.exit 0) [(3,.d (I t1))] []]) (by kernel_rfl) ⟨(Qx X0 h1),trivial⟩
def Z7 (n:Nat) (a0:List D):Option (Bool) :=
 if Qa (((a0).length:Int) - 4) then
 if (((a0).length:Int) - 4) ≥ 0 then
  if 0≤(((a0).length:Int) - 4)∧(((a0).length:Int) - 4)≤((a0).length:Int)∧((a0).length:Int)≤((a0).length:Int)∧(a0=[] ∨ 1=1) then
  (QQ n (a0.drop (Int.toNat (((a0).length:Int) - 4)))).bind fun t4 =>
  if (0:Int)≤0∧0≤(((a0).length:Int) - 4)∧(((a0).length:Int) - 4)≤((a0).length:Int)∧(a0=[] ∨ 1=1) then
  (ZB n ((a0.take (Int.toNat (((a0).length:Int) - 4))).drop (Int.toNat 0))).bind fun t6 =>
  some (t4 == t6)
  else none
  else none
 else
 some false
 else none
theorem Zd {n:Nat} {a0:List D} {r:Bool} (h:Z7 n a0=some r):Computes cx 47 [.lst false 1 a0] (B r):=by
 unfold Z7 at h
 obtain ⟨h1,h⟩:=Qf h
 by_cases h2:(((a0).length:Int) - 4) ≥ 0
 ·replace h:=Qk h h2
  obtain ⟨h3,h⟩:=Qf h
  obtain ⟨t4,h4,h⟩:=Qe h
  obtain ⟨h5,h⟩:=Qf h
  obtain ⟨t6,h6,h⟩:=Qe h
  replace h:=Option.some.inj h
  subst h
  exact run (n:=100) (f:=47) (args:=[.lst false 1 a0]) (orc:=[.br true,.br true,.ret (I t4),.br true,.ret (I t6)]) (r:=B (t4 == t6)) (ob:=[Computes cx 57 [.lst false 1 ((a0.take (Int.toNat (((a0).length:Int) - 4))).drop (Int.toNat 0))] (I t6),(0:Int)≤0∧0≤(((a0).length:Int) - 4)∧(((a0).length:Int) - 4)≤((a0).length:Int)∧(a0=[] ∨ 1=1),Computes cx 45 [.lst false 1 (a0.drop (Int.toNat (((a0).length:Int) - 4)))] (I t4),0≤(((a0).length:Int) - 4)∧(((a0).length:Int) - 4)≤((a0).length:Int)∧((a0).length:Int)≤((a0).length:Int)∧(a0=[] ∨ 1=1),(decide ((((a0).length:Int) - 4) ≥ 0))=true,Qa (((a0).length:Int) - 4)]) (by kernel_rfl) ⟨(UO h6),h5,(Qg h4),h3,(decide_eq_true h2),h1,trivial⟩
 ·replace h:=Ql h h2
  replace h:=Option.some.inj h
  subst h
  exact run (n:=100) (f:=47) (args:=[.lst false 1 a0]) (orc:=[.br false]) (r:=B false) (ob:=[(decide ((((a0).length:Int) - 4) ≥ 0))=false,Qa (((a0).length:Int) - 4)]) (by kernel_rfl) ⟨(decide_eq_false h2),h1,trivial⟩
def Wf (n:Nat)  : Option (Int) :=
 some 27
theorem Zv {n:Nat}  {r:Int} (h:Wf n =some r):Computes cx 46 [B true,I 27] (I r):=by
 unfold Wf at h
 replace h:=Option.some.inj h
 subst h
 exact run (n:=100) (f:=46) (args:=[B true,I 27]) (orc:=[.no]) (r:=I 27) (ob:=[]) (by kernel_rfl) trivial
theorem EB (a0:Int) (a1:Int) (a2:Int) (a3:Int) (a4:Int) (a5:Int) (a6:Int) (a7:Int) (a8:Int) (a9:Int) (a10:Int) (a11:Int) (a12:Int) (a13:Int) (a14:Int) (a15:Int) (a16:Int) (a17:Int) (a18:Int) (a19:Int) (a20:Int) (a21:Int) (a22:Int) (a23:Int) (t1:Int) (t2:Int) (t3:Int) (t4:Int) (t6:Int) (t8:Int) (t12:Int) (t13:Bool) (t15:Int) (t16:Int) (t17:Int):Vx true 100 cx 24 [.agg [.v (.int .u8 a0),.v (.int .u8 a1),.v (.int .u8 a2),.v (.int .u8 a3),.v (.int .u8 a4),.v (.int .u8 a5),.v (.int .u8 a6),.v (.int .u8 a7),.v (.int .u8 a8),.v (.int .u8 a9),.v (.int .u8 a10),.v (.int .u8 a11),.v (.int .u8 a12),.v (.int .u8 a13),.v (.int .u8 a14),.v (.int .u8 a15),.v (.int .u8 a16),.v (.int .u8 a17),.v (.int .u8 a18),.v (.int .u8 a19),.v (.int .u8 a20),.v (.int .u8 a21),.v (.int .u8 a22),.v (.int .u8 a23)]] [.lp [0] [] [] .ret [] [] 0,.ret (I t1),.ret (I t2),.ret (I t3),.ret (I t4),.ret (I t6),.ret (I t8),.br true,.br true,.ret (I t12),.ret (B t13),.br false,.ret (I t15),.ret (I t16),.ret (I t17),.br false]=some (.tup [.agg [I t1,I t2,I t3,I (t4 - 1048576),I (t6 - 1048576),I (t8 - 1048576)],I 0],[(t17 != 0)=false,Computes cx 25 [.lst true 1 [I t12,I t15,I t16]] (I t17),Computes cx 42 [.agg [I (t4 - 1048576),I (t6 - 1048576),I (t8 - 1048576)]] (I t16),Computes cx 46 [B (!(a19 == (IntKind.wrap .u8 (255 - a3)))),I 27] (I t15),(!t13)=false,Computes cx 47 [.lst true 1 [.v (.int .u8 a0),.v (.int .u8 a1),.v (.int .u8 a2),.v (.int .u8 a3),.v (.int .u8 a4),.v (.int .u8 a5),.v (.int .u8 a6),.v (.int .u8 a7),.v (.int .u8 a8),.v (.int .u8 a9),.v (.int .u8 a10),.v (.int .u8 a11),.v (.int .u8 a12),.v (.int .u8 a13),.v (.int .u8 a14),.v (.int .u8 a15),.v (.int .u8 a16),.v (.int .u8 a17),.v (.int .u8 a18),.v (.int .u8 a19),.v (.int .u8 a20),.v (.int .u8 a21),.v (.int .u8 a22),.v (.int .u8 a23)]] (B t13),Computes cx 46 [B (a0 != 77),I 1] (I t12),(a18 == (IntKind.wrap .u8 (255 - a2)))=true,(a17 == (IntKind.wrap .u8 (255 - a1)))=true,Qa (t8 - 1048576),Computes cx 45 [.lst false 1 [.v (.int .u8 a13),.v (.int .u8 a14),.v (.int .u8 a15),.v (.int .u8 a16)]] (I t8),Qa (t6 - 1048576),Computes cx 45 [.lst false 1 [.v (.int .u8 a9),.v (.int .u8 a10),.v (.int .u8 a11),.v (.int .u8 a12)]] (I t6),Qa (t4 - 1048576),Computes cx 45 [.lst false 1 [.v (.int .u8 a5),.v (.int .u8 a6),.v (.int .u8 a7),.v (.int .u8 a8)]] (I t4),Computes cx 45 [.lst false 1 [.v (.int .u8 a4)]] (I t3),Computes cx 45 [.lst false 1 [.v (.int .u8 a2),.v (.int .u8 a3)]] (I t2),Computes cx 45 [.lst false 1 [.v (.int .u8 a1)]] (I t1)]):=by kernel_rfl
theorem EA (a0:Int) (a1:Int) (a2:Int) (a3:Int) (a4:Int) (a5:Int) (a6:Int) (a7:Int) (a8:Int) (a9:Int) (a10:Int) (a11:Int) (a12:Int) (a13:Int) (a14:Int) (a15:Int) (a16:Int) (a17:Int) (a18:Int) (a19:Int) (a20:Int) (a21:Int) (a22:Int) (a23:Int) (t1:Int) (t2:Int) (t3:Int) (t4:Int) (t6:Int) (t8:Int) (t12:Int) (t13:Bool) (t15:Int) (t16:Int) (t17:Int):Vx true 100 cx 24 [.agg [.v (.int .u8 a0),.v (.int .u8 a1),.v (.int .u8 a2),.v (.int .u8 a3),.v (.int .u8 a4),.v (.int .u8 a5),.v (.int .u8 a6),.v (.int .u8 a7),.v (.int .u8 a8),.v (.int .u8 a9),.v (.int .u8 a10),.v (.int .u8 a11),.v (.int .u8 a12),.v (.int .u8 a13),.v (.int .u8 a14),.v (.int .u8 a15),.v (.int .u8 a16),.v (.int .u8 a17),.v (.int .u8 a18),.v (.int .u8 a19),.v (.int .u8 a20),.v (.int .u8 a21),.v (.int .u8 a22),.v (.int .u8 a23)]] [.lp [0] [] [] .ret [] [] 0,.ret (I t1),.ret (I t2),.ret (I t3),.ret (I t4),.ret (I t6),.ret (I t8),.br true,.br true,.ret (I t12),.ret (B t13),.br false,.ret (I t15),.ret (I t16),.ret (I t17),.br true]=some (.tup [.agg [I 0,I 0,I 0,I 0,I 0,I 0],I t17],[(t17 != 0)=true,Computes cx 25 [.lst true 1 [I t12,I t15,I t16]] (I t17),Computes cx 42 [.agg [I (t4 - 1048576),I (t6 - 1048576),I (t8 - 1048576)]] (I t16),Computes cx 46 [B (!(a19 == (IntKind.wrap .u8 (255 - a3)))),I 27] (I t15),(!t13)=false,Computes cx 47 [.lst true 1 [.v (.int .u8 a0),.v (.int .u8 a1),.v (.int .u8 a2),.v (.int .u8 a3),.v (.int .u8 a4),.v (.int .u8 a5),.v (.int .u8 a6),.v (.int .u8 a7),.v (.int .u8 a8),.v (.int .u8 a9),.v (.int .u8 a10),.v (.int .u8 a11),.v (.int .u8 a12),.v (.int .u8 a13),.v (.int .u8 a14),.v (.int .u8 a15),.v (.int .u8 a16),.v (.int .u8 a17),.v (.int .u8 a18),.v (.int .u8 a19),.v (.int .u8 a20),.v (.int .u8 a21),.v (.int .u8 a22),.v (.int .u8 a23)]] (B t13),Computes cx 46 [B (a0 != 77),I 1] (I t12),(a18 == (IntKind.wrap .u8 (255 - a2)))=true,(a17 == (IntKind.wrap .u8 (255 - a1)))=true,Qa (t8 - 1048576),Computes cx 45 [.lst false 1 [.v (.int .u8 a13),.v (.int .u8 a14),.v (.int .u8 a15),.v (.int .u8 a16)]] (I t8),Qa (t6 - 1048576),Computes cx 45 [.lst false 1 [.v (.int .u8 a9),.v (.int .u8 a10),.v (.int .u8 a11),.v (.int .u8 a12)]] (I t6),Qa (t4 - 1048576),Computes cx 45 [.lst false 1 [.v (.int .u8 a5),.v (.int .u8 a6),.v (.int .u8 a7),.v (.int .u8 a8)]] (I t4),Computes cx 45 [.lst false 1 [.v (.int .u8 a4)]] (I t3),Computes cx 45 [.lst false 1 [.v (.int .u8 a2),.v (.int .u8 a3)]] (I t2),Computes cx 45 [.lst false 1 [.v (.int .u8 a1)]] (I t1)]):=by kernel_rfl
theorem Ez (a0:Int) (a1:Int) (a2:Int) (a3:Int) (a4:Int) (a5:Int) (a6:Int) (a7:Int) (a8:Int) (a9:Int) (a10:Int) (a11:Int) (a12:Int) (a13:Int) (a14:Int) (a15:Int) (a16:Int) (a17:Int) (a18:Int) (a19:Int) (a20:Int) (a21:Int) (a22:Int) (a23:Int) (t1:Int) (t2:Int) (t3:Int) (t4:Int) (t6:Int) (t8:Int) (t12:Int) (t13:Bool) (t15:Int) (t16:Int) (t17:Int):Vx true 100 cx 24 [.agg [.v (.int .u8 a0),.v (.int .u8 a1),.v (.int .u8 a2),.v (.int .u8 a3),.v (.int .u8 a4),.v (.int .u8 a5),.v (.int .u8 a6),.v (.int .u8 a7),.v (.int .u8 a8),.v (.int .u8 a9),.v (.int .u8 a10),.v (.int .u8 a11),.v (.int .u8 a12),.v (.int .u8 a13),.v (.int .u8 a14),.v (.int .u8 a15),.v (.int .u8 a16),.v (.int .u8 a17),.v (.int .u8 a18),.v (.int .u8 a19),.v (.int .u8 a20),.v (.int .u8 a21),.v (.int .u8 a22),.v (.int .u8 a23)]] [.lp [0] [] [] .ret [] [] 0,.ret (I t1),.ret (I t2),.ret (I t3),.ret (I t4),.ret (I t6),.ret (I t8),.br true,.br true,.ret (I t12),.ret (B t13),.br true,.ret (I t15),.ret (I t16),.ret (I t17),.br false]=some (.tup [.agg [I t1,I t2,I t3,I (t4 - 1048576),I (t6 - 1048576),I (t8 - 1048576)],I 0],[(t17 != 0)=false,Computes cx 25 [.lst true 1 [I t12,I t15,I t16]] (I t17),Computes cx 42 [.agg [I (t4 - 1048576),I (t6 - 1048576),I (t8 - 1048576)]] (I t16),Computes cx 46 [B true,I 27] (I t15),(!t13)=true,Computes cx 47 [.lst true 1 [.v (.int .u8 a0),.v (.int .u8 a1),.v (.int .u8 a2),.v (.int .u8 a3),.v (.int .u8 a4),.v (.int .u8 a5),.v (.int .u8 a6),.v (.int .u8 a7),.v (.int .u8 a8),.v (.int .u8 a9),.v (.int .u8 a10),.v (.int .u8 a11),.v (.int .u8 a12),.v (.int .u8 a13),.v (.int .u8 a14),.v (.int .u8 a15),.v (.int .u8 a16),.v (.int .u8 a17),.v (.int .u8 a18),.v (.int .u8 a19),.v (.int .u8 a20),.v (.int .u8 a21),.v (.int .u8 a22),.v (.int .u8 a23)]] (B t13),Computes cx 46 [B (a0 != 77),I 1] (I t12),(a18 == (IntKind.wrap .u8 (255 - a2)))=true,(a17 == (IntKind.wrap .u8 (255 - a1)))=true,Qa (t8 - 1048576),Computes cx 45 [.lst false 1 [.v (.int .u8 a13),.v (.int .u8 a14),.v (.int .u8 a15),.v (.int .u8 a16)]] (I t8),Qa (t6 - 1048576),Computes cx 45 [.lst false 1 [.v (.int .u8 a9),.v (.int .u8 a10),.v (.int .u8 a11),.v (.int .u8 a12)]] (I t6),Qa (t4 - 1048576),Computes cx 45 [.lst false 1 [.v (.int .u8 a5),.v (.int .u8 a6),.v (.int .u8 a7),.v (.int .u8 a8)]] (I t4),Computes cx 45 [.lst false 1 [.v (.int .u8 a4)]] (I t3),Computes cx 45 [.lst false 1 [.v (.int .u8 a2),.v (.int .u8 a3)]] (I t2),Computes cx 45 [.lst false 1 [.v (.int .u8 a1)]] (I t1)]):=by kernel_rfl
theorem Ey (a0:Int) (a1:Int) (a2:Int) (a3:Int) (a4:Int) (a5:Int) (a6:Int) (a7:Int) (a8:Int) (a9:Int) (a10:Int) (a11:Int) (a12:Int) (a13:Int) (a14:Int) (a15:Int) (a16:Int) (a17:Int) (a18:Int) (a19:Int) (a20:Int) (a21:Int) (a22:Int) (a23:Int) (t1:Int) (t2:Int) (t3:Int) (t4:Int) (t6:Int) (t8:Int) (t12:Int) (t13:Bool) (t15:Int) (t16:Int) (t17:Int):Vx true 100 cx 24 [.agg [.v (.int .u8 a0),.v (.int .u8 a1),.v (.int .u8 a2),.v (.int .u8 a3),.v (.int .u8 a4),.v (.int .u8 a5),.v (.int .u8 a6),.v (.int .u8 a7),.v (.int .u8 a8),.v (.int .u8 a9),.v (.int .u8 a10),.v (.int .u8 a11),.v (.int .u8 a12),.v (.int .u8 a13),.v (.int .u8 a14),.v (.int .u8 a15),.v (.int .u8 a16),.v (.int .u8 a17),.v (.int .u8 a18),.v (.int .u8 a19),.v (.int .u8 a20),.v (.int .u8 a21),.v (.int .u8 a22),.v (.int .u8 a23)]] [.lp [0] [] [] .ret [] [] 0,.ret (I t1),.ret (I t2),.ret (I t3),.ret (I t4),.ret (I t6),.ret (I t8),.br true,.br true,.ret (I t12),.ret (B t13),.br true,.ret (I t15),.ret (I t16),.ret (I t17),.br true]=some (.tup [.agg [I 0,I 0,I 0,I 0,I 0,I 0],I t17],[(t17 != 0)=true,Computes cx 25 [.lst true 1 [I t12,I t15,I t16]] (I t17),Computes cx 42 [.agg [I (t4 - 1048576),I (t6 - 1048576),I (t8 - 1048576)]] (I t16),Computes cx 46 [B true,I 27] (I t15),(!t13)=true,Computes cx 47 [.lst true 1 [.v (.int .u8 a0),.v (.int .u8 a1),.v (.int .u8 a2),.v (.int .u8 a3),.v (.int .u8 a4),.v (.int .u8 a5),.v (.int .u8 a6),.v (.int .u8 a7),.v (.int .u8 a8),.v (.int .u8 a9),.v (.int .u8 a10),.v (.int .u8 a11),.v (.int .u8 a12),.v (.int .u8 a13),.v (.int .u8 a14),.v (.int .u8 a15),.v (.int .u8 a16),.v (.int .u8 a17),.v (.int .u8 a18),.v (.int .u8 a19),.v (.int .u8 a20),.v (.int .u8 a21),.v (.int .u8 a22),.v (.int .u8 a23)]] (B t13),Computes cx 46 [B (a0 != 77),I 1] (I t12),(a18 == (IntKind.wrap .u8 (255 - a2)))=true,(a17 == (IntKind.wrap .u8 (255 - a1)))=true,Qa (t8 - 1048576),Computes cx 45 [.lst false 1 [.v (.int .u8 a13),.v (.int .u8 a14),.v (.int .u8 a15),.v (.int .u8 a16)]] (I t8),Qa (t6 - 1048576),Computes cx 45 [.lst false 1 [.v (.int .u8 a9),.v (.int .u8 a10),.v (.int .u8 a11),.v (.int .u8 a12)]] (I t6),Qa (t4 - 1048576),Computes cx 45 [.lst false 1 [.v (.int .u8 a5),.v (.int .u8 a6),.v (.int .u8 a7),.v (.int .u8 a8)]] (I t4),Computes cx 45 [.lst false 1 [.v (.int .u8 a4)]] (I t3),Computes cx 45 [.lst false 1 [.v (.int .u8 a2),.v (.int .u8 a3)]] (I t2),Computes cx 45 [.lst false 1 [.v (.int .u8 a1)]] (I t1)]):=by kernel_rfl
theorem Ew (a0:Int) (a1:Int) (a2:Int) (a3:Int) (a4:Int) (a5:Int) (a6:Int) (a7:Int) (a8:Int) (a9:Int) (a10:Int) (a11:Int) (a12:Int) (a13:Int) (a14:Int) (a15:Int) (a16:Int) (a17:Int) (a18:Int) (a19:Int) (a20:Int) (a21:Int) (a22:Int) (a23:Int) (t1:Int) (t2:Int) (t3:Int) (t4:Int) (t6:Int) (t8:Int) (t12:Int) (t13:Bool) (t15:Int) (t16:Int) (t17:Int):Vx true 100 cx 24 [.agg [.v (.int .u8 a0),.v (.int .u8 a1),.v (.int .u8 a2),.v (.int .u8 a3),.v (.int .u8 a4),.v (.int .u8 a5),.v (.int .u8 a6),.v (.int .u8 a7),.v (.int .u8 a8),.v (.int .u8 a9),.v (.int .u8 a10),.v (.int .u8 a11),.v (.int .u8 a12),.v (.int .u8 a13),.v (.int .u8 a14),.v (.int .u8 a15),.v (.int .u8 a16),.v (.int .u8 a17),.v (.int .u8 a18),.v (.int .u8 a19),.v (.int .u8 a20),.v (.int .u8 a21),.v (.int .u8 a22),.v (.int .u8 a23)]] [.lp [0] [] [] .ret [] [] 0,.ret (I t1),.ret (I t2),.ret (I t3),.ret (I t4),.ret (I t6),.ret (I t8),.br true,.br false,.ret (I t12),.ret (B t13),.br false,.ret (I t15),.ret (I t16),.ret (I t17),.br false]=some (.tup [.agg [I t1,I t2,I t3,I (t4 - 1048576),I (t6 - 1048576),I (t8 - 1048576)],I 0],[(t17 != 0)=false,Computes cx 25 [.lst true 1 [I t12,I t15,I t16]] (I t17),Computes cx 42 [.agg [I (t4 - 1048576),I (t6 - 1048576),I (t8 - 1048576)]] (I t16),Computes cx 46 [B true,I 27] (I t15),(!t13)=false,Computes cx 47 [.lst true 1 [.v (.int .u8 a0),.v (.int .u8 a1),.v (.int .u8 a2),.v (.int .u8 a3),.v (.int .u8 a4),.v (.int .u8 a5),.v (.int .u8 a6),.v (.int .u8 a7),.v (.int .u8 a8),.v (.int .u8 a9),.v (.int .u8 a10),.v (.int .u8 a11),.v (.int .u8 a12),.v (.int .u8 a13),.v (.int .u8 a14),.v (.int .u8 a15),.v (.int .u8 a16),.v (.int .u8 a17),.v (.int .u8 a18),.v (.int .u8 a19),.v (.int .u8 a20),.v (.int .u8 a21),.v (.int .u8 a22),.v (.int .u8 a23)]] (B t13),Computes cx 46 [B (a0 != 77),I 1] (I t12),(a18 == (IntKind.wrap .u8 (255 - a2)))=false,(a17 == (IntKind.wrap .u8 (255 - a1)))=true,Qa (t8 - 1048576),Computes cx 45 [.lst false 1 [.v (.int .u8 a13),.v (.int .u8 a14),.v (.int .u8 a15),.v (.int .u8 a16)]] (I t8),Qa (t6 - 1048576),Computes cx 45 [.lst false 1 [.v (.int .u8 a9),.v (.int .u8 a10),.v (.int .u8 a11),.v (.int .u8 a12)]] (I t6),Qa (t4 - 1048576),Computes cx 45 [.lst false 1 [.v (.int .u8 a5),.v (.int .u8 a6),.v (.int .u8 a7),.v (.int .u8 a8)]] (I t4),Computes cx 45 [.lst false 1 [.v (.int .u8 a4)]] (I t3),Computes cx 45 [.lst false 1 [.v (.int .u8 a2),.v (.int .u8 a3)]] (I t2),Computes cx 45 [.lst false 1 [.v (.int .u8 a1)]] (I t1)]):=by kernel_rfl
theorem Ev (a0:Int) (a1:Int) (a2:Int) (a3:Int) (a4:Int) (a5:Int) (a6:Int) (a7:Int) (a8:Int) (a9:Int) (a10:Int) (a11:Int) (a12:Int) (a13:Int) (a14:Int) (a15:Int) (a16:Int) (a17:Int) (a18:Int) (a19:Int) (a20:Int) (a21:Int) (a22:Int) (a23:Int) (t1:Int) (t2:Int) (t3:Int) (t4:Int) (t6:Int) (t8:Int) (t12:Int) (t13:Bool) (t15:Int) (t16:Int) (t17:Int):Vx true 100 cx 24 [.agg [.v (.int .u8 a0),.v (.int .u8 a1),.v (.int .u8 a2),.v (.int .u8 a3),.v (.int .u8 a4),.v (.int .u8 a5),.v (.int .u8 a6),.v (.int .u8 a7),.v (.int .u8 a8),.v (.int .u8 a9),.v (.int .u8 a10),.v (.int .u8 a11),.v (.int .u8 a12),.v (.int .u8 a13),.v (.int .u8 a14),.v (.int .u8 a15),.v (.int .u8 a16),.v (.int .u8 a17),.v (.int .u8 a18),.v (.int .u8 a19),.v (.int .u8 a20),.v (.int .u8 a21),.v (.int .u8 a22),.v (.int .u8 a23)]] [.lp [0] [] [] .ret [] [] 0,.ret (I t1),.ret (I t2),.ret (I t3),.ret (I t4),.ret (I t6),.ret (I t8),.br true,.br false,.ret (I t12),.ret (B t13),.br false,.ret (I t15),.ret (I t16),.ret (I t17),.br true]=some (.tup [.agg [I 0,I 0,I 0,I 0,I 0,I 0],I t17],[(t17 != 0)=true,Computes cx 25 [.lst true 1 [I t12,I t15,I t16]] (I t17),Computes cx 42 [.agg [I (t4 - 1048576),I (t6 - 1048576),I (t8 - 1048576)]] (I t16),Computes cx 46 [B true,I 27] (I t15),(!t13)=false,Computes cx 47 [.lst true 1 [.v (.int .u8 a0),.v (.int .u8 a1),.v (.int .u8 a2),.v (.int .u8 a3),.v (.int .u8 a4),.v (.int .u8 a5),.v (.int .u8 a6),.v (.int .u8 a7),.v (.int .u8 a8),.v (.int .u8 a9),.v (.int .u8 a10),.v (.int .u8 a11),.v (.int .u8 a12),.v (.int .u8 a13),.v (.int .u8 a14),.v (.int .u8 a15),.v (.int .u8 a16),.v (.int .u8 a17),.v (.int .u8 a18),.v (.int .u8 a19),.v (.int .u8 a20),.v (.int .u8 a21),.v (.int .u8 a22),.v (.int .u8 a23)]] (B t13),Computes cx 46 [B (a0 != 77),I 1] (I t12),(a18 == (IntKind.wrap .u8 (255 - a2)))=false,(a17 == (IntKind.wrap .u8 (255 - a1)))=true,Qa (t8 - 1048576),Computes cx 45 [.lst false 1 [.v (.int .u8 a13),.v (.int .u8 a14),.v (.int .u8 a15),.v (.int .u8 a16)]] (I t8),Qa (t6 - 1048576),Computes cx 45 [.lst false 1 [.v (.int .u8 a9),.v (.int .u8 a10),.v (.int .u8 a11),.v (.int .u8 a12)]] (I t6),Qa (t4 - 1048576),Computes cx 45 [.lst false 1 [.v (.int .u8 a5),.v (.int .u8 a6),.v (.int .u8 a7),.v (.int .u8 a8)]] (I t4),Computes cx 45 [.lst false 1 [.v (.int .u8 a4)]] (I t3),Computes cx 45 [.lst false 1 [.v (.int .u8 a2),.v (.int .u8 a3)]] (I t2),Computes cx 45 [.lst false 1 [.v (.int .u8 a1)]] (I t1)]):=by kernel_rfl
theorem Eu (a0:Int) (a1:Int) (a2:Int) (a3:Int) (a4:Int) (a5:Int) (a6:Int) (a7:Int) (a8:Int) (a9:Int) (a10:Int) (a11:Int) (a12:Int) (a13:Int) (a14:Int) (a15:Int) (a16:Int) (a17:Int) (a18:Int) (a19:Int) (a20:Int) (a21:Int) (a22:Int) (a23:Int) (t1:Int) (t2:Int) (t3:Int) (t4:Int) (t6:Int) (t8:Int) (t12:Int) (t13:Bool) (t15:Int) (t16:Int) (t17:Int):Vx true 100 cx 24 [.agg [.v (.int .u8 a0),.v (.int .u8 a1),.v (.int .u8 a2),.v (.int .u8 a3),.v (.int .u8 a4),.v (.int .u8 a5),.v (.int .u8 a6),.v (.int .u8 a7),.v (.int .u8 a8),.v (.int .u8 a9),.v (.int .u8 a10),.v (.int .u8 a11),.v (.int .u8 a12),.v (.int .u8 a13),.v (.int .u8 a14),.v (.int .u8 a15),.v (.int .u8 a16),.v (.int .u8 a17),.v (.int .u8 a18),.v (.int .u8 a19),.v (.int .u8 a20),.v (.int .u8 a21),.v (.int .u8 a22),.v (.int .u8 a23)]] [.lp [0] [] [] .ret [] [] 0,.ret (I t1),.ret (I t2),.ret (I t3),.ret (I t4),.ret (I t6),.ret (I t8),.br true,.br false,.ret (I t12),.ret (B t13),.br true,.ret (I t15),.ret (I t16),.ret (I t17),.br false]=some (.tup [.agg [I t1,I t2,I t3,I (t4 - 1048576),I (t6 - 1048576),I (t8 - 1048576)],I 0],[(t17 != 0)=false,Computes cx 25 [.lst true 1 [I t12,I t15,I t16]] (I t17),Computes cx 42 [.agg [I (t4 - 1048576),I (t6 - 1048576),I (t8 - 1048576)]] (I t16),Computes cx 46 [B true,I 27] (I t15),(!t13)=true,Computes cx 47 [.lst true 1 [.v (.int .u8 a0),.v (.int .u8 a1),.v (.int .u8 a2),.v (.int .u8 a3),.v (.int .u8 a4),.v (.int .u8 a5),.v (.int .u8 a6),.v (.int .u8 a7),.v (.int .u8 a8),.v (.int .u8 a9),.v (.int .u8 a10),.v (.int .u8 a11),.v (.int .u8 a12),.v (.int .u8 a13),.v (.int .u8 a14),.v (.int .u8 a15),.v (.int .u8 a16),.v (.int .u8 a17),.v (.int .u8 a18),.v (.int .u8 a19),.v (.int .u8 a20),.v (.int .u8 a21),.v (.int .u8 a22),.v (.int .u8 a23)]] (B t13),Computes cx 46 [B (a0 != 77),I 1] (I t12),(a18 == (IntKind.wrap .u8 (255 - a2)))=false,(a17 == (IntKind.wrap .u8 (255 - a1)))=true,Qa (t8 - 1048576),Computes cx 45 [.lst false 1 [.v (.int .u8 a13),.v (.int .u8 a14),.v (.int .u8 a15),.v (.int .u8 a16)]] (I t8),Qa (t6 - 1048576),Computes cx 45 [.lst false 1 [.v (.int .u8 a9),.v (.int .u8 a10),.v (.int .u8 a11),.v (.int .u8 a12)]] (I t6),Qa (t4 - 1048576),Computes cx 45 [.lst false 1 [.v (.int .u8 a5),.v (.int .u8 a6),.v (.int .u8 a7),.v (.int .u8 a8)]] (I t4),Computes cx 45 [.lst false 1 [.v (.int .u8 a4)]] (I t3),Computes cx 45 [.lst false 1 [.v (.int .u8 a2),.v (.int .u8 a3)]] (I t2),Computes cx 45 [.lst false 1 [.v (.int .u8 a1)]] (I t1)]):=by kernel_rfl
theorem Et (a0:Int) (a1:Int) (a2:Int) (a3:Int) (a4:Int) (a5:Int) (a6:Int) (a7:Int) (a8:Int) (a9:Int) (a10:Int) (a11:Int) (a12:Int) (a13:Int) (a14:Int) (a15:Int) (a16:Int) (a17:Int) (a18:Int) (a19:Int) (a20:Int) (a21:Int) (a22:Int) (a23:Int) (t1:Int) (t2:Int) (t3:Int) (t4:Int) (t6:Int) (t8:Int) (t12:Int) (t13:Bool) (t15:Int) (t16:Int) (t17:Int):Vx true 100 cx 24 [.agg [.v (.int .u8 a0),.v (.int .u8 a1),.v (.int .u8 a2),.v (.int .u8 a3),.v (.int .u8 a4),.v (.int .u8 a5),.v (.int .u8 a6),.v (.int .u8 a7),.v (.int .u8 a8),.v (.int .u8 a9),.v (.int .u8 a10),.v (.int .u8 a11),.v (.int .u8 a12),.v (.int .u8 a13),.v (.int .u8 a14),.v (.int .u8 a15),.v (.int .u8 a16),.v (.int .u8 a17),.v (.int .u8 a18),.v (.int .u8 a19),.v (.int .u8 a20),.v (.int .u8 a21),.v (.int .u8 a22),.v (.int .u8 a23)]] [.lp [0] [] [] .ret [] [] 0,.ret (I t1),.ret (I t2),.ret (I t3),.ret (I t4),.ret (I t6),.ret (I t8),.br true,.br false,.ret (I t12),.ret (B t13),.br true,.ret (I t15),.ret (I t16),.ret (I t17),.br true]=some (.tup [.agg [I 0,I 0,I 0,I 0,I 0,I 0],I t17],[(t17 != 0)=true,Computes cx 25 [.lst true 1 [I t12,I t15,I t16]] (I t17),Computes cx 42 [.agg [I (t4 - 1048576),I (t6 - 1048576),I (t8 - 1048576)]] (I t16),Computes cx 46 [B true,I 27] (I t15),(!t13)=true,Computes cx 47 [.lst true 1 [.v (.int .u8 a0),.v (.int .u8 a1),.v (.int .u8 a2),.v (.int .u8 a3),.v (.int .u8 a4),.v (.int .u8 a5),.v (.int .u8 a6),.v (.int .u8 a7),.v (.int .u8 a8),.v (.int .u8 a9),.v (.int .u8 a10),.v (.int .u8 a11),.v (.int .u8 a12),.v (.int .u8 a13),.v (.int .u8 a14),.v (.int .u8 a15),.v (.int .u8 a16),.v (.int .u8 a17),.v (.int .u8 a18),.v (.int .u8 a19),.v (.int .u8 a20),.v (.int .u8 a21),.v (.int .u8 a22),.v (.int .u8 a23)]] (B t13),Computes cx 46 [B (a0 != 77),I 1] (I t12),(a18 == (IntKind.wrap .u8 (255 - a2)))=false,(a17 == (IntKind.wrap .u8 (255 - a1)))=true,Qa (t8 - 1048576),Computes cx 45 [.lst false 1 [.v (.int .u8 a13),.v (.int .u8 a14),.v (.int .u8 a15),.v (.int .u8 a16)]] (I t8),Qa (t6 - 1048576),Computes cx 45 [.lst false 1 [.v (.int .u8 a9),.v (.int .u8 a10),.v (.int .u8 a11),.v (.int .u8 a12)]] (I t6),Qa (t4 - 1048576),Computes cx 45 [.lst false 1 [.v (.int .u8 a5),.v (.int .u8 a6),.v (.int .u8 a7),.v (.int .u8 a8)]] (I t4),Computes cx 45 [.lst false 1 [.v (.int .u8 a4)]] (I t3),Computes cx 45 [.lst false 1 [.v (.int .u8 a2),.v (.int .u8 a3)]] (I t2),Computes cx 45 [.lst false 1 [.v (.int .u8 a1)]] (I t1)]):=by kernel_rfl
theorem Es (a0:Int) (a1:Int) (a2:Int) (a3:Int) (a4:Int) (a5:Int) (a6:Int) (a7:Int) (a8:Int) (a9:Int) (a10:Int) (a11:Int) (a12:Int) (a13:Int) (a14:Int) (a15:Int) (a16:Int) (a17:Int) (a18:Int) (a19:Int) (a20:Int) (a21:Int) (a22:Int) (a23:Int) (t1:Int) (t2:Int) (t3:Int) (t4:Int) (t6:Int) (t8:Int) (t11:Int) (t12:Bool) (t14:Int) (t15:Int) (t16:Int):Vx true 100 cx 24 [.agg [.v (.int .u8 a0),.v (.int .u8 a1),.v (.int .u8 a2),.v (.int .u8 a3),.v (.int .u8 a4),.v (.int .u8 a5),.v (.int .u8 a6),.v (.int .u8 a7),.v (.int .u8 a8),.v (.int .u8 a9),.v (.int .u8 a10),.v (.int .u8 a11),.v (.int .u8 a12),.v (.int .u8 a13),.v (.int .u8 a14),.v (.int .u8 a15),.v (.int .u8 a16),.v (.int .u8 a17),.v (.int .u8 a18),.v (.int .u8 a19),.v (.int .u8 a20),.v (.int .u8 a21),.v (.int .u8 a22),.v (.int .u8 a23)]] [.lp [0] [] [] .ret [] [] 0,.ret (I t1),.ret (I t2),.ret (I t3),.ret (I t4),.ret (I t6),.ret (I t8),.br false,.no,.ret (I t11),.ret (B t12),.br false,.ret (I t14),.ret (I t15),.ret (I t16),.br false]=some (.tup [.agg [I t1,I t2,I t3,I (t4 - 1048576),I (t6 - 1048576),I (t8 - 1048576)],I 0],[(t16 != 0)=false,Computes cx 25 [.lst true 1 [I t11,I t14,I t15]] (I t16),Computes cx 42 [.agg [I (t4 - 1048576),I (t6 - 1048576),I (t8 - 1048576)]] (I t15),Computes cx 46 [B true,I 27] (I t14),(!t12)=false,Computes cx 47 [.lst true 1 [.v (.int .u8 a0),.v (.int .u8 a1),.v (.int .u8 a2),.v (.int .u8 a3),.v (.int .u8 a4),.v (.int .u8 a5),.v (.int .u8 a6),.v (.int .u8 a7),.v (.int .u8 a8),.v (.int .u8 a9),.v (.int .u8 a10),.v (.int .u8 a11),.v (.int .u8 a12),.v (.int .u8 a13),.v (.int .u8 a14),.v (.int .u8 a15),.v (.int .u8 a16),.v (.int .u8 a17),.v (.int .u8 a18),.v (.int .u8 a19),.v (.int .u8 a20),.v (.int .u8 a21),.v (.int .u8 a22),.v (.int .u8 a23)]] (B t12),Computes cx 46 [B (a0 != 77),I 1] (I t11),(a17 == (IntKind.wrap .u8 (255 - a1)))=false,Qa (t8 - 1048576),Computes cx 45 [.lst false 1 [.v (.int .u8 a13),.v (.int .u8 a14),.v (.int .u8 a15),.v (.int .u8 a16)]] (I t8),Qa (t6 - 1048576),Computes cx 45 [.lst false 1 [.v (.int .u8 a9),.v (.int .u8 a10),.v (.int .u8 a11),.v (.int .u8 a12)]] (I t6),Qa (t4 - 1048576),Computes cx 45 [.lst false 1 [.v (.int .u8 a5),.v (.int .u8 a6),.v (.int .u8 a7),.v (.int .u8 a8)]] (I t4),Computes cx 45 [.lst false 1 [.v (.int .u8 a4)]] (I t3),Computes cx 45 [.lst false 1 [.v (.int .u8 a2),.v (.int .u8 a3)]] (I t2),Computes cx 45 [.lst false 1 [.v (.int .u8 a1)]] (I t1)]):=by kernel_rfl
theorem Er (a0:Int) (a1:Int) (a2:Int) (a3:Int) (a4:Int) (a5:Int) (a6:Int) (a7:Int) (a8:Int) (a9:Int) (a10:Int) (a11:Int) (a12:Int) (a13:Int) (a14:Int) (a15:Int) (a16:Int) (a17:Int) (a18:Int) (a19:Int) (a20:Int) (a21:Int) (a22:Int) (a23:Int) (t1:Int) (t2:Int) (t3:Int) (t4:Int) (t6:Int) (t8:Int) (t11:Int) (t12:Bool) (t14:Int) (t15:Int) (t16:Int):Vx true 100 cx 24 [.agg [.v (.int .u8 a0),.v (.int .u8 a1),.v (.int .u8 a2),.v (.int .u8 a3),.v (.int .u8 a4),.v (.int .u8 a5),.v (.int .u8 a6),.v (.int .u8 a7),.v (.int .u8 a8),.v (.int .u8 a9),.v (.int .u8 a10),.v (.int .u8 a11),.v (.int .u8 a12),.v (.int .u8 a13),.v (.int .u8 a14),.v (.int .u8 a15),.v (.int .u8 a16),.v (.int .u8 a17),.v (.int .u8 a18),.v (.int .u8 a19),.v (.int .u8 a20),.v (.int .u8 a21),.v (.int .u8 a22),.v (.int .u8 a23)]] [.lp [0] [] [] .ret [] [] 0,.ret (I t1),.ret (I t2),.ret (I t3),.ret (I t4),.ret (I t6),.ret (I t8),.br false,.no,.ret (I t11),.ret (B t12),.br false,.ret (I t14),.ret (I t15),.ret (I t16),.br true]=some (.tup [.agg [I 0,I 0,I 0,I 0,I 0,I 0],I t16],[(t16 != 0)=true,Computes cx 25 [.lst true 1 [I t11,I t14,I t15]] (I t16),Computes cx 42 [.agg [I (t4 - 1048576),I (t6 - 1048576),I (t8 - 1048576)]] (I t15),Computes cx 46 [B true,I 27] (I t14),(!t12)=false,Computes cx 47 [.lst true 1 [.v (.int .u8 a0),.v (.int .u8 a1),.v (.int .u8 a2),.v (.int .u8 a3),.v (.int .u8 a4),.v (.int .u8 a5),.v (.int .u8 a6),.v (.int .u8 a7),.v (.int .u8 a8),.v (.int .u8 a9),.v (.int .u8 a10),.v (.int .u8 a11),.v (.int .u8 a12),.v (.int .u8 a13),.v (.int .u8 a14),.v (.int .u8 a15),.v (.int .u8 a16),.v (.int .u8 a17),.v (.int .u8 a18),.v (.int .u8 a19),.v (.int .u8 a20),.v (.int .u8 a21),.v (.int .u8 a22),.v (.int .u8 a23)]] (B t12),Computes cx 46 [B (a0 != 77),I 1] (I t11),(a17 == (IntKind.wrap .u8 (255 - a1)))=false,Qa (t8 - 1048576),Computes cx 45 [.lst false 1 [.v (.int .u8 a13),.v (.int .u8 a14),.v (.int .u8 a15),.v (.int .u8 a16)]] (I t8),Qa (t6 - 1048576),Computes cx 45 [.lst false 1 [.v (.int .u8 a9),.v (.int .u8 a10),.v (.int .u8 a11),.v (.int .u8 a12)]] (I t6),Qa (t4 - 1048576),Computes cx 45 [.lst false 1 [.v (.int .u8 a5),.v (.int .u8 a6),.v (.int .u8 a7),.v (.int .u8 a8)]] (I t4),Computes cx 45 [.lst false 1 [.v (.int .u8 a4)]] (I t3),Computes cx 45 [.lst false 1 [.v (.int .u8 a2),.v (.int .u8 a3)]] (I t2),Computes cx 45 [.lst false 1 [.v (.int .u8 a1)]] (I t1)]):=by kernel_rfl
theorem Xv (a0:Int) (a1:Int) (a2:Int) (a3:Int) (a4:Int) (a5:Int) (a6:Int) (a7:Int) (a8:Int) (a9:Int) (a10:Int) (a11:Int) (a12:Int) (a13:Int) (a14:Int) (a15:Int) (a16:Int) (a17:Int) (a18:Int) (a19:Int) (a20:Int) (a21:Int) (a22:Int) (a23:Int) (t1:Int) (t2:Int) (t3:Int) (t4:Int) (t6:Int) (t8:Int) (t11:Int) (t12:Bool) (t14:Int) (t15:Int) (t16:Int):Vx true 100 cx 24 [.agg [.v (.int .u8 a0),.v (.int .u8 a1),.v (.int .u8 a2),.v (.int .u8 a3),.v (.int .u8 a4),.v (.int .u8 a5),.v (.int .u8 a6),.v (.int .u8 a7),.v (.int .u8 a8),.v (.int .u8 a9),.v (.int .u8 a10),.v (.int .u8 a11),.v (.int .u8 a12),.v (.int .u8 a13),.v (.int .u8 a14),.v (.int .u8 a15),.v (.int .u8 a16),.v (.int .u8 a17),.v (.int .u8 a18),.v (.int .u8 a19),.v (.int .u8 a20),.v (.int .u8 a21),.v (.int .u8 a22),.v (.int .u8 a23)]] [.lp [0] [] [] .ret [] [] 0,.ret (I t1),.ret (I t2),.ret (I t3),.ret (I t4),.ret (I t6),.ret (I t8),.br false,.no,.ret (I t11),.ret (B t12),.br true,.ret (I t14),.ret (I t15),.ret (I t16),.br false]=some (.tup [.agg [I t1,I t2,I t3,I (t4 - 1048576),I (t6 - 1048576),I (t8 - 1048576)],I 0],[(t16 != 0)=false,Computes cx 25 [.lst true 1 [I t11,I t14,I t15]] (I t16),Computes cx 42 [.agg [I (t4 - 1048576),I (t6 - 1048576),I (t8 - 1048576)]] (I t15),Computes cx 46 [B true,I 27] (I t14),(!t12)=true,Computes cx 47 [.lst true 1 [.v (.int .u8 a0),.v (.int .u8 a1),.v (.int .u8 a2),.v (.int .u8 a3),.v (.int .u8 a4),.v (.int .u8 a5),.v (.int .u8 a6),.v (.int .u8 a7),.v (.int .u8 a8),.v (.int .u8 a9),.v (.int .u8 a10),.v (.int .u8 a11),.v (.int .u8 a12),.v (.int .u8 a13),.v (.int .u8 a14),.v (.int .u8 a15),.v (.int .u8 a16),.v (.int .u8 a17),.v (.int .u8 a18),.v (.int .u8 a19),.v (.int .u8 a20),.v (.int .u8 a21),.v (.int .u8 a22),.v (.int .u8 a23)]] (B t12),Computes cx 46 [B (a0 != 77),I 1] (I t11),(a17 == (IntKind.wrap .u8 (255 - a1)))=false,Qa (t8 - 1048576),Computes cx 45 [.lst false 1 [.v (.int .u8 a13),.v (.int .u8 a14),.v (.int .u8 a15),.v (.int .u8 a16)]] (I t8),Qa (t6 - 1048576),Computes cx 45 [.lst false 1 [.v (.int .u8 a9),.v (.int .u8 a10),.v (.int .u8 a11),.v (.int .u8 a12)]] (I t6),Qa (t4 - 1048576),Computes cx 45 [.lst false 1 [.v (.int .u8 a5),.v (.int .u8 a6),.v (.int .u8 a7),.v (.int .u8 a8)]] (I t4),Computes cx 45 [.lst false 1 [.v (.int .u8 a4)]] (I t3),Computes cx 45 [.lst false 1 [.v (.int .u8 a2),.v (.int .u8 a3)]] (I t2),Computes cx 45 [.lst false 1 [.v (.int .u8 a1)]] (I t1)]):=by kernel_rfl
theorem Xu (a0:Int) (a1:Int) (a2:Int) (a3:Int) (a4:Int) (a5:Int) (a6:Int) (a7:Int) (a8:Int) (a9:Int) (a10:Int) (a11:Int) (a12:Int) (a13:Int) (a14:Int) (a15:Int) (a16:Int) (a17:Int) (a18:Int) (a19:Int) (a20:Int) (a21:Int) (a22:Int) (a23:Int) (t1:Int) (t2:Int) (t3:Int) (t4:Int) (t6:Int) (t8:Int) (t11:Int) (t12:Bool) (t14:Int) (t15:Int) (t16:Int):Vx true 100 cx 24 [.agg [.v (.int .u8 a0),.v (.int .u8 a1),.v (.int .u8 a2),.v (.int .u8 a3),.v (.int .u8 a4),.v (.int .u8 a5),.v (.int .u8 a6),.v (.int .u8 a7),.v (.int .u8 a8),.v (.int .u8 a9),.v (.int .u8 a10),.v (.int .u8 a11),.v (.int .u8 a12),.v (.int .u8 a13),.v (.int .u8 a14),.v (.int .u8 a15),.v (.int .u8 a16),.v (.int .u8 a17),.v (.int .u8 a18),.v (.int .u8 a19),.v (.int .u8 a20),.v (.int .u8 a21),.v (.int .u8 a22),.v (.int .u8 a23)]] [.lp [0] [] [] .ret [] [] 0,.ret (I t1),.ret (I t2),.ret (I t3),.ret (I t4),.ret (I t6),.ret (I t8),.br false,.no,.ret (I t11),.ret (B t12),.br true,.ret (I t14),.ret (I t15),.ret (I t16),.br true]=some (.tup [.agg [I 0,I 0,I 0,I 0,I 0,I 0],I t16],[(t16 != 0)=true,Computes cx 25 [.lst true 1 [I t11,I t14,I t15]] (I t16),Computes cx 42 [.agg [I (t4 - 1048576),I (t6 - 1048576),I (t8 - 1048576)]] (I t15),Computes cx 46 [B true,I 27] (I t14),(!t12)=true,Computes cx 47 [.lst true 1 [.v (.int .u8 a0),.v (.int .u8 a1),.v (.int .u8 a2),.v (.int .u8 a3),.v (.int .u8 a4),.v (.int .u8 a5),.v (.int .u8 a6),.v (.int .u8 a7),.v (.int .u8 a8),.v (.int .u8 a9),.v (.int .u8 a10),.v (.int .u8 a11),.v (.int .u8 a12),.v (.int .u8 a13),.v (.int .u8 a14),.v (.int .u8 a15),.v (.int .u8 a16),.v (.int .u8 a17),.v (.int .u8 a18),.v (.int .u8 a19),.v (.int .u8 a20),.v (.int .u8 a21),.v (.int .u8 a22),.v (.int .u8 a23)]] (B t12),Computes cx 46 [B (a0 != 77),I 1] (I t11),(a17 == (IntKind.wrap .u8 (255 - a1)))=false,Qa (t8 - 1048576),Computes cx 45 [.lst false 1 [.v (.int .u8 a13),.v (.int .u8 a14),.v (.int .u8 a15),.v (.int .u8 a16)]] (I t8),Qa (t6 - 1048576),Computes cx 45 [.lst false 1 [.v (.int .u8 a9),.v (.int .u8 a10),.v (.int .u8 a11),.v (.int .u8 a12)]] (I t6),Qa (t4 - 1048576),Computes cx 45 [.lst false 1 [.v (.int .u8 a5),.v (.int .u8 a6),.v (.int .u8 a7),.v (.int .u8 a8)]] (I t4),Computes cx 45 [.lst false 1 [.v (.int .u8 a4)]] (I t3),Computes cx 45 [.lst false 1 [.v (.int .u8 a2),.v (.int .u8 a3)]] (I t2),Computes cx 45 [.lst false 1 [.v (.int .u8 a1)]] (I t1)]):=by kernel_rfl
def WC (n:Nat) (a0 a1 a2 a3 a4 a5 a6 a7 a8 a9 a10 a11 a12 a13 a14 a15 a16 a17 a18 a19 a20 a21 a22 a23:Int):Option (Int×Int×Int×Int×Int×Int×Int) :=
 (QQ n ([.v (.int .u8 a1)])).bind fun t1 =>
 (QQ n ([.v (.int .u8 a2),.v (.int .u8 a3)])).bind fun t2 =>
 (QQ n ([.v (.int .u8 a4)])).bind fun t3 =>
 (QQ n ([.v (.int .u8 a5),.v (.int .u8 a6),.v (.int .u8 a7),.v (.int .u8 a8)])).bind fun t4 =>
 if Qa (t4 - 1048576) then
 (QQ n ([.v (.int .u8 a9),.v (.int .u8 a10),.v (.int .u8 a11),.v (.int .u8 a12)])).bind fun t6 =>
 if Qa (t6 - 1048576) then
 (QQ n ([.v (.int .u8 a13),.v (.int .u8 a14),.v (.int .u8 a15),.v (.int .u8 a16)])).bind fun t8 =>
 if Qa (t8 - 1048576) then
 if a17=(IntKind.wrap .u8 (255 - a1)) then
  if a18=(IntKind.wrap .u8 (255 - a2)) then
   (Q6 n (a0 != 77) 1).bind fun t12 =>
   (Z7 n ([.v (.int .u8 a0),.v (.int .u8 a1),.v (.int .u8 a2),.v (.int .u8 a3),.v (.int .u8 a4),.v (.int .u8 a5),.v (.int .u8 a6),.v (.int .u8 a7),.v (.int .u8 a8),.v (.int .u8 a9),.v (.int .u8 a10),.v (.int .u8 a11),.v (.int .u8 a12),.v (.int .u8 a13),.v (.int .u8 a14),.v (.int .u8 a15),.v (.int .u8 a16),.v (.int .u8 a17),.v (.int .u8 a18),.v (.int .u8 a19),.v (.int .u8 a20),.v (.int .u8 a21),.v (.int .u8 a22),.v (.int .u8 a23)])).bind fun t13 =>
   if t13=true then
    (Q6 n (!(a19 == (IntKind.wrap .u8 (255 - a3)))) 27).bind fun t15 =>
    (QM n (t4 - 1048576) (t6 - 1048576) (t8 - 1048576)).bind fun t16 =>
    (QJ n ([I t12,I t15,I t16])).bind fun t17 =>
    if t17=0 then
     some (t1,t2,t3,(t4 - 1048576),(t6 - 1048576),(t8 - 1048576),0)
    else
    some (0,0,0,0,0,0,t17)
   else
   (Wf n).bind fun t15 =>
   (QM n (t4 - 1048576) (t6 - 1048576) (t8 - 1048576)).bind fun t16 =>
   (QJ n ([I t12,I t15,I t16])).bind fun t17 =>
   if t17=0 then
    some (t1,t2,t3,(t4 - 1048576),(t6 - 1048576),(t8 - 1048576),0)
   else
   some (0,0,0,0,0,0,t17)
  else
  (Q6 n (a0 != 77) 1).bind fun t12 =>
  (Z7 n ([.v (.int .u8 a0),.v (.int .u8 a1),.v (.int .u8 a2),.v (.int .u8 a3),.v (.int .u8 a4),.v (.int .u8 a5),.v (.int .u8 a6),.v (.int .u8 a7),.v (.int .u8 a8),.v (.int .u8 a9),.v (.int .u8 a10),.v (.int .u8 a11),.v (.int .u8 a12),.v (.int .u8 a13),.v (.int .u8 a14),.v (.int .u8 a15),.v (.int .u8 a16),.v (.int .u8 a17),.v (.int .u8 a18),.v (.int .u8 a19),.v (.int .u8 a20),.v (.int .u8 a21),.v (.int .u8 a22),.v (.int .u8 a23)])).bind fun t13 =>
  if t13=true then
   (Wf n).bind fun t15 =>
   (QM n (t4 - 1048576) (t6 - 1048576) (t8 - 1048576)).bind fun t16 =>
   (QJ n ([I t12,I t15,I t16])).bind fun t17 =>
   if t17=0 then
    some (t1,t2,t3,(t4 - 1048576),(t6 - 1048576),(t8 - 1048576),0)
   else
   some (0,0,0,0,0,0,t17)
  else
  (Wf n).bind fun t15 =>
  (QM n (t4 - 1048576) (t6 - 1048576) (t8 - 1048576)).bind fun t16 =>
  (QJ n ([I t12,I t15,I t16])).bind fun t17 =>
  if t17=0 then
   some (t1,t2,t3,(t4 - 1048576),(t6 - 1048576),(t8 - 1048576),0)
  else
  some (0,0,0,0,0,0,t17)
 else
 (Q6 n (a0 != 77) 1).bind fun t11 =>
 (Z7 n ([.v (.int .u8 a0),.v (.int .u8 a1),.v (.int .u8 a2),.v (.int .u8 a3),.v (.int .u8 a4),.v (.int .u8 a5),.v (.int .u8 a6),.v (.int .u8 a7),.v (.int .u8 a8),.v (.int .u8 a9),.v (.int .u8 a10),.v (.int .u8 a11),.v (.int .u8 a12),.v (.int .u8 a13),.v (.int .u8 a14),.v (.int .u8 a15),.v (.int .u8 a16),.v (.int .u8 a17),.v (.int .u8 a18),.v (.int .u8 a19),.v (.int .u8 a20),.v (.int .u8 a21),.v (.int .u8 a22),.v (.int .u8 a23)])).bind fun t12 =>
 if t12=true then
  (Wf n).bind fun t14 =>
  (QM n (t4 - 1048576) (t6 - 1048576) (t8 - 1048576)).bind fun t15 =>
  (QJ n ([I t11,I t14,I t15])).bind fun t16 =>
  if t16=0 then
   some (t1,t2,t3,(t4 - 1048576),(t6 - 1048576),(t8 - 1048576),0)
  else
  some (0,0,0,0,0,0,t16)
 else
 (Wf n).bind fun t14 =>
 (QM n (t4 - 1048576) (t6 - 1048576) (t8 - 1048576)).bind fun t15 =>
 (QJ n ([I t11,I t14,I t15])).bind fun t16 =>
 if t16=0 then
  some (t1,t2,t3,(t4 - 1048576),(t6 - 1048576),(t8 - 1048576),0)
 else
 some (0,0,0,0,0,0,t16)
 else none
 else none
 else none
theorem VN {n:Nat} {a0 a1 a2 a3 a4 a5 a6 a7 a8 a9 a10 a11 a12 a13 a14 a15 a16 a17 a18 a19 a20 a21 a22 a23:Int} {r:Int×Int×Int×Int×Int×Int×Int} (h:WC n a0 a1 a2 a3 a4 a5 a6 a7 a8 a9 a10 a11 a12 a13 a14 a15 a16 a17 a18 a19 a20 a21 a22 a23=some r):Computes cx 24 [.agg [.v (.int .u8 a0),.v (.int .u8 a1),.v (.int .u8 a2),.v (.int .u8 a3),.v (.int .u8 a4),.v (.int .u8 a5),.v (.int .u8 a6),.v (.int .u8 a7),.v (.int .u8 a8),.v (.int .u8 a9),.v (.int .u8 a10),.v (.int .u8 a11),.v (.int .u8 a12),.v (.int .u8 a13),.v (.int .u8 a14),.v (.int .u8 a15),.v (.int .u8 a16),.v (.int .u8 a17),.v (.int .u8 a18),.v (.int .u8 a19),.v (.int .u8 a20),.v (.int .u8 a21),.v (.int .u8 a22),.v (.int .u8 a23)]] (.tup [.agg [I r.1,I r.2.1,I r.2.2.1,I r.2.2.2.1,I r.2.2.2.2.1,I r.2.2.2.2.2.1],I r.2.2.2.2.2.2]):=by
 unfold WC at h
 obtain ⟨t1,h1,h⟩:=Qe h
 obtain ⟨t2,h2,h⟩:=Qe h
 obtain ⟨t3,h3,h⟩:=Qe h
 obtain ⟨t4,h4,h⟩:=Qe h
 obtain ⟨h5,h⟩:=Qf h
 obtain ⟨t6,h6,h⟩:=Qe h
 obtain ⟨h7,h⟩:=Qf h
 obtain ⟨t8,h8,h⟩:=Qe h
 obtain ⟨h9,h⟩:=Qf h
 by_cases h10:a17=(IntKind.wrap .u8 (255 - a1))
 ·replace h:=Qk h h10
  by_cases h11:a18=(IntKind.wrap .u8 (255 - a2))
  ·replace h:=Qk h h11
   obtain ⟨t12,h12,h⟩:=Qe h
   obtain ⟨t13,h13,h⟩:=Qe h
   by_cases h14:t13=true
   ·replace h:=Qk h h14
    obtain ⟨t15,h15,h⟩:=Qe h
    obtain ⟨t16,h16,h⟩:=Qe h
    obtain ⟨t17,h17,h⟩:=Qe h
    by_cases h18:t17=0
    ·replace h:=Qk h h18
     replace h:=Option.some.inj h
     subst h
     exact run (n:=100) (f:=24) (args:=[.agg [.v (.int .u8 a0),.v (.int .u8 a1),.v (.int .u8 a2),.v (.int .u8 a3),.v (.int .u8 a4),.v (.int .u8 a5),.v (.int .u8 a6),.v (.int .u8 a7),.v (.int .u8 a8),.v (.int .u8 a9),.v (.int .u8 a10),.v (.int .u8 a11),.v (.int .u8 a12),.v (.int .u8 a13),.v (.int .u8 a14),.v (.int .u8 a15),.v (.int .u8 a16),.v (.int .u8 a17),.v (.int .u8 a18),.v (.int .u8 a19),.v (.int .u8 a20),.v (.int .u8 a21),.v (.int .u8 a22),.v (.int .u8 a23)]]) (orc:=[.lp [0] [] [] .ret [] [] 0,.ret (I t1),.ret (I t2),.ret (I t3),.ret (I t4),.ret (I t6),.ret (I t8),.br true,.br true,.ret (I t12),.ret (B t13),.br false,.ret (I t15),.ret (I t16),.ret (I t17),.br false]) (r:=.tup [.agg [I t1,I t2,I t3,I (t4 - 1048576),I (t6 - 1048576),I (t8 - 1048576)],I 0]) (ob:=[(t17 != 0)=false,Computes cx 25 [.lst true 1 [I t12,I t15,I t16]] (I t17),Computes cx 42 [.agg [I (t4 - 1048576),I (t6 - 1048576),I (t8 - 1048576)]] (I t16),Computes cx 46 [B (!(a19 == (IntKind.wrap .u8 (255 - a3)))),I 27] (I t15),(!t13)=false,Computes cx 47 [.lst true 1 [.v (.int .u8 a0),.v (.int .u8 a1),.v (.int .u8 a2),.v (.int .u8 a3),.v (.int .u8 a4),.v (.int .u8 a5),.v (.int .u8 a6),.v (.int .u8 a7),.v (.int .u8 a8),.v (.int .u8 a9),.v (.int .u8 a10),.v (.int .u8 a11),.v (.int .u8 a12),.v (.int .u8 a13),.v (.int .u8 a14),.v (.int .u8 a15),.v (.int .u8 a16),.v (.int .u8 a17),.v (.int .u8 a18),.v (.int .u8 a19),.v (.int .u8 a20),.v (.int .u8 a21),.v (.int .u8 a22),.v (.int .u8 a23)]] (B t13),Computes cx 46 [B (a0 != 77),I 1] (I t12),(a18 == (IntKind.wrap .u8 (255 - a2)))=true,(a17 == (IntKind.wrap .u8 (255 - a1)))=true,Qa (t8 - 1048576),Computes cx 45 [.lst false 1 [.v (.int .u8 a13),.v (.int .u8 a14),.v (.int .u8 a15),.v (.int .u8 a16)]] (I t8),Qa (t6 - 1048576),Computes cx 45 [.lst false 1 [.v (.int .u8 a9),.v (.int .u8 a10),.v (.int .u8 a11),.v (.int .u8 a12)]] (I t6),Qa (t4 - 1048576),Computes cx 45 [.lst false 1 [.v (.int .u8 a5),.v (.int .u8 a6),.v (.int .u8 a7),.v (.int .u8 a8)]] (I t4),Computes cx 45 [.lst false 1 [.v (.int .u8 a4)]] (I t3),Computes cx 45 [.lst false 1 [.v (.int .u8 a2),.v (.int .u8 a3)]] (I t2),Computes cx 45 [.lst false 1 [.v (.int .u8 a1)]] (I t1)]) (EB a0 a1 a2 a3 a4 a5 a6 a7 a8 a9 a10 a11 a12 a13 a14 a15 a16 a17 a18 a19 a20 a21 a22 a23 t1 t2 t3 t4 t6 t8 t12 t13 t15 t16 t17) ⟨(nef h18),((Qt h17).le (.cons (.full _ _ _) (.nil)) (.refl _)),(QD h16),(QK h15),(VS h14),((Zd h13).le (.cons (.full _ _ _) (.nil)) (.refl _)),(QK h12),(eqt h11),(eqt h10),h9,(Qg h8),h7,(Qg h6),h5,(Qg h4),(Qg h3),(Qg h2),(Qg h1),trivial⟩
    ·replace h:=Ql h h18
     replace h:=Option.some.inj h
     subst h
     exact run (n:=100) (f:=24) (args:=[.agg [.v (.int .u8 a0),.v (.int .u8 a1),.v (.int .u8 a2),.v (.int .u8 a3),.v (.int .u8 a4),.v (.int .u8 a5),.v (.int .u8 a6),.v (.int .u8 a7),.v (.int .u8 a8),.v (.int .u8 a9),.v (.int .u8 a10),.v (.int .u8 a11),.v (.int .u8 a12),.v (.int .u8 a13),.v (.int .u8 a14),.v (.int .u8 a15),.v (.int .u8 a16),.v (.int .u8 a17),.v (.int .u8 a18),.v (.int .u8 a19),.v (.int .u8 a20),.v (.int .u8 a21),.v (.int .u8 a22),.v (.int .u8 a23)]]) (orc:=[.lp [0] [] [] .ret [] [] 0,.ret (I t1),.ret (I t2),.ret (I t3),.ret (I t4),.ret (I t6),.ret (I t8),.br true,.br true,.ret (I t12),.ret (B t13),.br false,.ret (I t15),.ret (I t16),.ret (I t17),.br true]) (r:=.tup [.agg [I 0,I 0,I 0,I 0,I 0,I 0],I t17]) (ob:=[(t17 != 0)=true,Computes cx 25 [.lst true 1 [I t12,I t15,I t16]] (I t17),Computes cx 42 [.agg [I (t4 - 1048576),I (t6 - 1048576),I (t8 - 1048576)]] (I t16),Computes cx 46 [B (!(a19 == (IntKind.wrap .u8 (255 - a3)))),I 27] (I t15),(!t13)=false,Computes cx 47 [.lst true 1 [.v (.int .u8 a0),.v (.int .u8 a1),.v (.int .u8 a2),.v (.int .u8 a3),.v (.int .u8 a4),.v (.int .u8 a5),.v (.int .u8 a6),.v (.int .u8 a7),.v (.int .u8 a8),.v (.int .u8 a9),.v (.int .u8 a10),.v (.int .u8 a11),.v (.int .u8 a12),.v (.int .u8 a13),.v (.int .u8 a14),.v (.int .u8 a15),.v (.int .u8 a16),.v (.int .u8 a17),.v (.int .u8 a18),.v (.int .u8 a19),.v (.int .u8 a20),.v (.int .u8 a21),.v (.int .u8 a22),.v (.int .u8 a23)]] (B t13),Computes cx 46 [B (a0 != 77),I 1] (I t12),(a18 == (IntKind.wrap .u8 (255 - a2)))=true,(a17 == (IntKind.wrap .u8 (255 - a1)))=true,Qa (t8 - 1048576),Computes cx 45 [.lst false 1 [.v (.int .u8 a13),.v (.int .u8 a14),.v (.int .u8 a15),.v (.int .u8 a16)]] (I t8),Qa (t6 - 1048576),Computes cx 45 [.lst false 1 [.v (.int .u8 a9),.v (.int .u8 a10),.v (.int .u8 a11),.v (.int .u8 a12)]] (I t6),Qa (t4 - 1048576),Computes cx 45 [.lst false 1 [.v (.int .u8 a5),.v (.int .u8 a6),.v (.int .u8 a7),.v (.int .u8 a8)]] (I t4),Computes cx 45 [.lst false 1 [.v (.int .u8 a4)]] (I t3),Computes cx 45 [.lst false 1 [.v (.int .u8 a2),.v (.int .u8 a3)]] (I t2),Computes cx 45 [.lst false 1 [.v (.int .u8 a1)]] (I t1)]) (EA a0 a1 a2 a3 a4 a5 a6 a7 a8 a9 a10 a11 a12 a13 a14 a15 a16 a17 a18 a19 a20 a21 a22 a23 t1 t2 t3 t4 t6 t8 t12 t13 t15 t16 t17) ⟨(net h18),((Qt h17).le (.cons (.full _ _ _) (.nil)) (.refl _)),(QD h16),(QK h15),(VS h14),((Zd h13).le (.cons (.full _ _ _) (.nil)) (.refl _)),(QK h12),(eqt h11),(eqt h10),h9,(Qg h8),h7,(Qg h6),h5,(Qg h4),(Qg h3),(Qg h2),(Qg h1),trivial⟩
   ·replace h:=Ql h h14
    obtain ⟨t15,h15,h⟩:=Qe h
    obtain ⟨t16,h16,h⟩:=Qe h
    obtain ⟨t17,h17,h⟩:=Qe h
    by_cases h18:t17=0
    ·replace h:=Qk h h18
     replace h:=Option.some.inj h
     subst h
     exact run (n:=100) (f:=24) (args:=[.agg [.v (.int .u8 a0),.v (.int .u8 a1),.v (.int .u8 a2),.v (.int .u8 a3),.v (.int .u8 a4),.v (.int .u8 a5),.v (.int .u8 a6),.v (.int .u8 a7),.v (.int .u8 a8),.v (.int .u8 a9),.v (.int .u8 a10),.v (.int .u8 a11),.v (.int .u8 a12),.v (.int .u8 a13),.v (.int .u8 a14),.v (.int .u8 a15),.v (.int .u8 a16),.v (.int .u8 a17),.v (.int .u8 a18),.v (.int .u8 a19),.v (.int .u8 a20),.v (.int .u8 a21),.v (.int .u8 a22),.v (.int .u8 a23)]]) (orc:=[.lp [0] [] [] .ret [] [] 0,.ret (I t1),.ret (I t2),.ret (I t3),.ret (I t4),.ret (I t6),.ret (I t8),.br true,.br true,.ret (I t12),.ret (B t13),.br true,.ret (I t15),.ret (I t16),.ret (I t17),.br false]) (r:=.tup [.agg [I t1,I t2,I t3,I (t4 - 1048576),I (t6 - 1048576),I (t8 - 1048576)],I 0]) (ob:=[(t17 != 0)=false,Computes cx 25 [.lst true 1 [I t12,I t15,I t16]] (I t17),Computes cx 42 [.agg [I (t4 - 1048576),I (t6 - 1048576),I (t8 - 1048576)]] (I t16),Computes cx 46 [B true,I 27] (I t15),(!t13)=true,Computes cx 47 [.lst true 1 [.v (.int .u8 a0),.v (.int .u8 a1),.v (.int .u8 a2),.v (.int .u8 a3),.v (.int .u8 a4),.v (.int .u8 a5),.v (.int .u8 a6),.v (.int .u8 a7),.v (.int .u8 a8),.v (.int .u8 a9),.v (.int .u8 a10),.v (.int .u8 a11),.v (.int .u8 a12),.v (.int .u8 a13),.v (.int .u8 a14),.v (.int .u8 a15),.v (.int .u8 a16),.v (.int .u8 a17),.v (.int .u8 a18),.v (.int .u8 a19),.v (.int .u8 a20),.v (.int .u8 a21),.v (.int .u8 a22),.v (.int .u8 a23)]] (B t13),Computes cx 46 [B (a0 != 77),I 1] (I t12),(a18 == (IntKind.wrap .u8 (255 - a2)))=true,(a17 == (IntKind.wrap .u8 (255 - a1)))=true,Qa (t8 - 1048576),Computes cx 45 [.lst false 1 [.v (.int .u8 a13),.v (.int .u8 a14),.v (.int .u8 a15),.v (.int .u8 a16)]] (I t8),Qa (t6 - 1048576),Computes cx 45 [.lst false 1 [.v (.int .u8 a9),.v (.int .u8 a10),.v (.int .u8 a11),.v (.int .u8 a12)]] (I t6),Qa (t4 - 1048576),Computes cx 45 [.lst false 1 [.v (.int .u8 a5),.v (.int .u8 a6),.v (.int .u8 a7),.v (.int .u8 a8)]] (I t4),Computes cx 45 [.lst false 1 [.v (.int .u8 a4)]] (I t3),Computes cx 45 [.lst false 1 [.v (.int .u8 a2),.v (.int .u8 a3)]] (I t2),Computes cx 45 [.lst false 1 [.v (.int .u8 a1)]] (I t1)]) (Ez a0 a1 a2 a3 a4 a5 a6 a7 a8 a9 a10 a11 a12 a13 a14 a15 a16 a17 a18 a19 a20 a21 a22 a23 t1 t2 t3 t4 t6 t8 t12 t13 t15 t16 t17) ⟨(nef h18),((Qt h17).le (.cons (.full _ _ _) (.nil)) (.refl _)),(QD h16),(Zv h15),(qR (Qy h14)),((Zd h13).le (.cons (.full _ _ _) (.nil)) (.refl _)),(QK h12),(eqt h11),(eqt h10),h9,(Qg h8),h7,(Qg h6),h5,(Qg h4),(Qg h3),(Qg h2),(Qg h1),trivial⟩
    ·replace h:=Ql h h18
     replace h:=Option.some.inj h
     subst h
     exact run (n:=100) (f:=24) (args:=[.agg [.v (.int .u8 a0),.v (.int .u8 a1),.v (.int .u8 a2),.v (.int .u8 a3),.v (.int .u8 a4),.v (.int .u8 a5),.v (.int .u8 a6),.v (.int .u8 a7),.v (.int .u8 a8),.v (.int .u8 a9),.v (.int .u8 a10),.v (.int .u8 a11),.v (.int .u8 a12),.v (.int .u8 a13),.v (.int .u8 a14),.v (.int .u8 a15),.v (.int .u8 a16),.v (.int .u8 a17),.v (.int .u8 a18),.v (.int .u8 a19),.v (.int .u8 a20),.v (.int .u8 a21),.v (.int .u8 a22),.v (.int .u8 a23)]]) (orc:=[.lp [0] [] [] .ret [] [] 0,.ret (I t1),.ret (I t2),.ret (I t3),.ret (I t4),.ret (I t6),.ret (I t8),.br true,.br true,.ret (I t12),.ret (B t13),.br true,.ret (I t15),.ret (I t16),.ret (I t17),.br true]) (r:=.tup [.agg [I 0,I 0,I 0,I 0,I 0,I 0],I t17]) (ob:=[(t17 != 0)=true,Computes cx 25 [.lst true 1 [I t12,I t15,I t16]] (I t17),Computes cx 42 [.agg [I (t4 - 1048576),I (t6 - 1048576),I (t8 - 1048576)]] (I t16),Computes cx 46 [B true,I 27] (I t15),(!t13)=true,Computes cx 47 [.lst true 1 [.v (.int .u8 a0),.v (.int .u8 a1),.v (.int .u8 a2),.v (.int .u8 a3),.v (.int .u8 a4),.v (.int .u8 a5),.v (.int .u8 a6),.v (.int .u8 a7),.v (.int .u8 a8),.v (.int .u8 a9),.v (.int .u8 a10),.v (.int .u8 a11),.v (.int .u8 a12),.v (.int .u8 a13),.v (.int .u8 a14),.v (.int .u8 a15),.v (.int .u8 a16),.v (.int .u8 a17),.v (.int .u8 a18),.v (.int .u8 a19),.v (.int .u8 a20),.v (.int .u8 a21),.v (.int .u8 a22),.v (.int .u8 a23)]] (B t13),Computes cx 46 [B (a0 != 77),I 1] (I t12),(a18 == (IntKind.wrap .u8 (255 - a2)))=true,(a17 == (IntKind.wrap .u8 (255 - a1)))=true,Qa (t8 - 1048576),Computes cx 45 [.lst false 1 [.v (.int .u8 a13),.v (.int .u8 a14),.v (.int .u8 a15),.v (.int .u8 a16)]] (I t8),Qa (t6 - 1048576),Computes cx 45 [.lst false 1 [.v (.int .u8 a9),.v (.int .u8 a10),.v (.int .u8 a11),.v (.int .u8 a12)]] (I t6),Qa (t4 - 1048576),Computes cx 45 [.lst false 1 [.v (.int .u8 a5),.v (.int .u8 a6),.v (.int .u8 a7),.v (.int .u8 a8)]] (I t4),Computes cx 45 [.lst false 1 [.v (.int .u8 a4)]] (I t3),Computes cx 45 [.lst false 1 [.v (.int .u8 a2),.v (.int .u8 a3)]] (I t2),Computes cx 45 [.lst false 1 [.v (.int .u8 a1)]] (I t1)]) (Ey a0 a1 a2 a3 a4 a5 a6 a7 a8 a9 a10 a11 a12 a13 a14 a15 a16 a17 a18 a19 a20 a21 a22 a23 t1 t2 t3 t4 t6 t8 t12 t13 t15 t16 t17) ⟨(net h18),((Qt h17).le (.cons (.full _ _ _) (.nil)) (.refl _)),(QD h16),(Zv h15),(qR (Qy h14)),((Zd h13).le (.cons (.full _ _ _) (.nil)) (.refl _)),(QK h12),(eqt h11),(eqt h10),h9,(Qg h8),h7,(Qg h6),h5,(Qg h4),(Qg h3),(Qg h2),(Qg h1),trivial⟩
  ·replace h:=Ql h h11
   obtain ⟨t12,h12,h⟩:=Qe h
   obtain ⟨t13,h13,h⟩:=Qe h
   by_cases h14:t13=true
   ·replace h:=Qk h h14
    obtain ⟨t15,h15,h⟩:=Qe h
    obtain ⟨t16,h16,h⟩:=Qe h
    obtain ⟨t17,h17,h⟩:=Qe h
    by_cases h18:t17=0
    ·replace h:=Qk h h18
     replace h:=Option.some.inj h
     subst h
     exact run (n:=100) (f:=24) (args:=[.agg [.v (.int .u8 a0),.v (.int .u8 a1),.v (.int .u8 a2),.v (.int .u8 a3),.v (.int .u8 a4),.v (.int .u8 a5),.v (.int .u8 a6),.v (.int .u8 a7),.v (.int .u8 a8),.v (.int .u8 a9),.v (.int .u8 a10),.v (.int .u8 a11),.v (.int .u8 a12),.v (.int .u8 a13),.v (.int .u8 a14),.v (.int .u8 a15),.v (.int .u8 a16),.v (.int .u8 a17),.v (.int .u8 a18),.v (.int .u8 a19),.v (.int .u8 a20),.v (.int .u8 a21),.v (.int .u8 a22),.v (.int .u8 a23)]]) (orc:=[.lp [0] [] [] .ret [] [] 0,.ret (I t1),.ret (I t2),.ret (I t3),.ret (I t4),.ret (I t6),.ret (I t8),.br true,.br false,.ret (I t12),.ret (B t13),.br false,.ret (I t15),.ret (I t16),.ret (I t17),.br false]) (r:=.tup [.agg [I t1,I t2,I t3,I (t4 - 1048576),I (t6 - 1048576),I (t8 - 1048576)],I 0]) (ob:=[(t17 != 0)=false,Computes cx 25 [.lst true 1 [I t12,I t15,I t16]] (I t17),Computes cx 42 [.agg [I (t4 - 1048576),I (t6 - 1048576),I (t8 - 1048576)]] (I t16),Computes cx 46 [B true,I 27] (I t15),(!t13)=false,Computes cx 47 [.lst true 1 [.v (.int .u8 a0),.v (.int .u8 a1),.v (.int .u8 a2),.v (.int .u8 a3),.v (.int .u8 a4),.v (.int .u8 a5),.v (.int .u8 a6),.v (.int .u8 a7),.v (.int .u8 a8),.v (.int .u8 a9),.v (.int .u8 a10),.v (.int .u8 a11),.v (.int .u8 a12),.v (.int .u8 a13),.v (.int .u8 a14),.v (.int .u8 a15),.v (.int .u8 a16),.v (.int .u8 a17),.v (.int .u8 a18),.v (.int .u8 a19),.v (.int .u8 a20),.v (.int .u8 a21),.v (.int .u8 a22),.v (.int .u8 a23)]] (B t13),Computes cx 46 [B (a0 != 77),I 1] (I t12),(a18 == (IntKind.wrap .u8 (255 - a2)))=false,(a17 == (IntKind.wrap .u8 (255 - a1)))=true,Qa (t8 - 1048576),Computes cx 45 [.lst false 1 [.v (.int .u8 a13),.v (.int .u8 a14),.v (.int .u8 a15),.v (.int .u8 a16)]] (I t8),Qa (t6 - 1048576),Computes cx 45 [.lst false 1 [.v (.int .u8 a9),.v (.int .u8 a10),.v (.int .u8 a11),.v (.int .u8 a12)]] (I t6),Qa (t4 - 1048576),Computes cx 45 [.lst false 1 [.v (.int .u8 a5),.v (.int .u8 a6),.v (.int .u8 a7),.v (.int .u8 a8)]] (I t4),Computes cx 45 [.lst false 1 [.v (.int .u8 a4)]] (I t3),Computes cx 45 [.lst false 1 [.v (.int .u8 a2),.v (.int .u8 a3)]] (I t2),Computes cx 45 [.lst false 1 [.v (.int .u8 a1)]] (I t1)]) (Ew a0 a1 a2 a3 a4 a5 a6 a7 a8 a9 a10 a11 a12 a13 a14 a15 a16 a17 a18 a19 a20 a21 a22 a23 t1 t2 t3 t4 t6 t8 t12 t13 t15 t16 t17) ⟨(nef h18),((Qt h17).le (.cons (.full _ _ _) (.nil)) (.refl _)),(QD h16),(Zv h15),(VS h14),((Zd h13).le (.cons (.full _ _ _) (.nil)) (.refl _)),(QK h12),(eqf h11),(eqt h10),h9,(Qg h8),h7,(Qg h6),h5,(Qg h4),(Qg h3),(Qg h2),(Qg h1),trivial⟩
    ·replace h:=Ql h h18
     replace h:=Option.some.inj h
     subst h
     exact run (n:=100) (f:=24) (args:=[.agg [.v (.int .u8 a0),.v (.int .u8 a1),.v (.int .u8 a2),.v (.int .u8 a3),.v (.int .u8 a4),.v (.int .u8 a5),.v (.int .u8 a6),.v (.int .u8 a7),.v (.int .u8 a8),.v (.int .u8 a9),.v (.int .u8 a10),.v (.int .u8 a11),.v (.int .u8 a12),.v (.int .u8 a13),.v (.int .u8 a14),.v (.int .u8 a15),.v (.int .u8 a16),.v (.int .u8 a17),.v (.int .u8 a18),.v (.int .u8 a19),.v (.int .u8 a20),.v (.int .u8 a21),.v (.int .u8 a22),.v (.int .u8 a23)]]) (orc:=[.lp [0] [] [] .ret [] [] 0,.ret (I t1),.ret (I t2),.ret (I t3),.ret (I t4),.ret (I t6),.ret (I t8),.br true,.br false,.ret (I t12),.ret (B t13),.br false,.ret (I t15),.ret (I t16),.ret (I t17),.br true]) (r:=.tup [.agg [I 0,I 0,I 0,I 0,I 0,I 0],I t17]) (ob:=[(t17 != 0)=true,Computes cx 25 [.lst true 1 [I t12,I t15,I t16]] (I t17),Computes cx 42 [.agg [I (t4 - 1048576),I (t6 - 1048576),I (t8 - 1048576)]] (I t16),Computes cx 46 [B true,I 27] (I t15),(!t13)=false,Computes cx 47 [.lst true 1 [.v (.int .u8 a0),.v (.int .u8 a1),.v (.int .u8 a2),.v (.int .u8 a3),.v (.int .u8 a4),.v (.int .u8 a5),.v (.int .u8 a6),.v (.int .u8 a7),.v (.int .u8 a8),.v (.int .u8 a9),.v (.int .u8 a10),.v (.int .u8 a11),.v (.int .u8 a12),.v (.int .u8 a13),.v (.int .u8 a14),.v (.int .u8 a15),.v (.int .u8 a16),.v (.int .u8 a17),.v (.int .u8 a18),.v (.int .u8 a19),.v (.int .u8 a20),.v (.int .u8 a21),.v (.int .u8 a22),.v (.int .u8 a23)]] (B t13),Computes cx 46 [B (a0 != 77),I 1] (I t12),(a18 == (IntKind.wrap .u8 (255 - a2)))=false,(a17 == (IntKind.wrap .u8 (255 - a1)))=true,Qa (t8 - 1048576),Computes cx 45 [.lst false 1 [.v (.int .u8 a13),.v (.int .u8 a14),.v (.int .u8 a15),.v (.int .u8 a16)]] (I t8),Qa (t6 - 1048576),Computes cx 45 [.lst false 1 [.v (.int .u8 a9),.v (.int .u8 a10),.v (.int .u8 a11),.v (.int .u8 a12)]] (I t6),Qa (t4 - 1048576),Computes cx 45 [.lst false 1 [.v (.int .u8 a5),.v (.int .u8 a6),.v (.int .u8 a7),.v (.int .u8 a8)]] (I t4),Computes cx 45 [.lst false 1 [.v (.int .u8 a4)]] (I t3),Computes cx 45 [.lst false 1 [.v (.int .u8 a2),.v (.int .u8 a3)]] (I t2),Computes cx 45 [.lst false 1 [.v (.int .u8 a1)]] (I t1)]) (Ev a0 a1 a2 a3 a4 a5 a6 a7 a8 a9 a10 a11 a12 a13 a14 a15 a16 a17 a18 a19 a20 a21 a22 a23 t1 t2 t3 t4 t6 t8 t12 t13 t15 t16 t17) ⟨(net h18),((Qt h17).le (.cons (.full _ _ _) (.nil)) (.refl _)),(QD h16),(Zv h15),(VS h14),((Zd h13).le (.cons (.full _ _ _) (.nil)) (.refl _)),(QK h12),(eqf h11),(eqt h10),h9,(Qg h8),h7,(Qg h6),h5,(Qg h4),(Qg h3),(Qg h2),(Qg h1),trivial⟩
   ·replace h:=Ql h h14
    obtain ⟨t15,h15,h⟩:=Qe h
    obtain ⟨t16,h16,h⟩:=Qe h
    obtain ⟨t17,h17,h⟩:=Qe h
    by_cases h18:t17=0
    ·replace h:=Qk h h18
     replace h:=Option.some.inj h
     subst h
     exact run (n:=100) (f:=24) (args:=[.agg [.v (.int .u8 a0),.v (.int .u8 a1),.v (.int .u8 a2),.v (.int .u8 a3),.v (.int .u8 a4),.v (.int .u8 a5),.v (.int .u8 a6),.v (.int .u8 a7),.v (.int .u8 a8),.v (.int .u8 a9),.v (.int .u8 a10),.v (.int .u8 a11),.v (.int .u8 a12),.v (.int .u8 a13),.v (.int .u8 a14),.v (.int .u8 a15),.v (.int .u8 a16),.v (.int .u8 a17),.v (.int .u8 a18),.v (.int .u8 a19),.v (.int .u8 a20),.v (.int .u8 a21),.v (.int .u8 a22),.v (.int .u8 a23)]]) (orc:=[.lp [0] [] [] .ret [] [] 0,.ret (I t1),.ret (I t2),.ret (I t3),.ret (I t4),.ret (I t6),.ret (I t8),.br true,.br false,.ret (I t12),.ret (B t13),.br true,.ret (I t15),.ret (I t16),.ret (I t17),.br false]) (r:=.tup [.agg [I t1,I t2,I t3,I (t4 - 1048576),I (t6 - 1048576),I (t8 - 1048576)],I 0]) (ob:=[(t17 != 0)=false,Computes cx 25 [.lst true 1 [I t12,I t15,I t16]] (I t17),Computes cx 42 [.agg [I (t4 - 1048576),I (t6 - 1048576),I (t8 - 1048576)]] (I t16),Computes cx 46 [B true,I 27] (I t15),(!t13)=true,Computes cx 47 [.lst true 1 [.v (.int .u8 a0),.v (.int .u8 a1),.v (.int .u8 a2),.v (.int .u8 a3),.v (.int .u8 a4),.v (.int .u8 a5),.v (.int .u8 a6),.v (.int .u8 a7),.v (.int .u8 a8),.v (.int .u8 a9),.v (.int .u8 a10),.v (.int .u8 a11),.v (.int .u8 a12),.v (.int .u8 a13),.v (.int .u8 a14),.v (.int .u8 a15),.v (.int .u8 a16),.v (.int .u8 a17),.v (.int .u8 a18),.v (.int .u8 a19),.v (.int .u8 a20),.v (.int .u8 a21),.v (.int .u8 a22),.v (.int .u8 a23)]] (B t13),Computes cx 46 [B (a0 != 77),I 1] (I t12),(a18 == (IntKind.wrap .u8 (255 - a2)))=false,(a17 == (IntKind.wrap .u8 (255 - a1)))=true,Qa (t8 - 1048576),Computes cx 45 [.lst false 1 [.v (.int .u8 a13),.v (.int .u8 a14),.v (.int .u8 a15),.v (.int .u8 a16)]] (I t8),Qa (t6 - 1048576),Computes cx 45 [.lst false 1 [.v (.int .u8 a9),.v (.int .u8 a10),.v (.int .u8 a11),.v (.int .u8 a12)]] (I t6),Qa (t4 - 1048576),Computes cx 45 [.lst false 1 [.v (.int .u8 a5),.v (.int .u8 a6),.v (.int .u8 a7),.v (.int .u8 a8)]] (I t4),Computes cx 45 [.lst false 1 [.v (.int .u8 a4)]] (I t3),Computes cx 45 [.lst false 1 [.v (.int .u8 a2),.v (.int .u8 a3)]] (I t2),Computes cx 45 [.lst false 1 [.v (.int .u8 a1)]] (I t1)]) (Eu a0 a1 a2 a3 a4 a5 a6 a7 a8 a9 a10 a11 a12 a13 a14 a15 a16 a17 a18 a19 a20 a21 a22 a23 t1 t2 t3 t4 t6 t8 t12 t13 t15 t16 t17) ⟨(nef h18),((Qt h17).le (.cons (.full _ _ _) (.nil)) (.refl _)),(QD h16),(Zv h15),(qR (Qy h14)),((Zd h13).le (.cons (.full _ _ _) (.nil)) (.refl _)),(QK h12),(eqf h11),(eqt h10),h9,(Qg h8),h7,(Qg h6),h5,(Qg h4),(Qg h3),(Qg h2),(Qg h1),trivial⟩
    ·replace h:=Ql h h18
     replace h:=Option.some.inj h
     subst h
     exact run (n:=100) (f:=24) (args:=[.agg [.v (.int .u8 a0),.v (.int .u8 a1),.v (.int .u8 a2),.v (.int .u8 a3),.v (.int .u8 a4),.v (.int .u8 a5),.v (.int .u8 a6),.v (.int .u8 a7),.v (.int .u8 a8),.v (.int .u8 a9),.v (.int .u8 a10),.v (.int .u8 a11),.v (.int .u8 a12),.v (.int .u8 a13),.v (.int .u8 a14),.v (.int .u8 a15),.v (.int .u8 a16),.v (.int .u8 a17),.v (.int .u8 a18),.v (.int .u8 a19),.v (.int .u8 a20),.v (.int .u8 a21),.v (.int .u8 a22),.v (.int .u8 a23)]]) (orc:=[.lp [0] [] [] .ret [] [] 0,.ret (I t1),.ret (I t2),.ret (I t3),.ret (I t4),.ret (I t6),.ret (I t8),.br true,.br false,.ret (I t12),.ret (B t13),.br true,.ret (I t15),.ret (I t16),.ret (I t17),.br true]) (r:=.tup [.agg [I 0,I 0,I 0,I 0,I 0,I 0],I t17]) (ob:=[(t17 != 0)=true,Computes cx 25 [.lst true 1 [I t12,I t15,I t16]] (I t17),Computes cx 42 [.agg [I (t4 - 1048576),I (t6 - 1048576),I (t8 - 1048576)]] (I t16),Computes cx 46 [B true,I 27] (I t15),(!t13)=true,Computes cx 47 [.lst true 1 [.v (.int .u8 a0),.v (.int .u8 a1),.v (.int .u8 a2),.v (.int .u8 a3),.v (.int .u8 a4),.v (.int .u8 a5),.v (.int .u8 a6),.v (.int .u8 a7),.v (.int .u8 a8),.v (.int .u8 a9),.v (.int .u8 a10),.v (.int .u8 a11),.v (.int .u8 a12),.v (.int .u8 a13),.v (.int .u8 a14),.v (.int .u8 a15),.v (.int .u8 a16),.v (.int .u8 a17),.v (.int .u8 a18),.v (.int .u8 a19),.v (.int .u8 a20),.v (.int .u8 a21),.v (.int .u8 a22),.v (.int .u8 a23)]] (B t13),Computes cx 46 [B (a0 != 77),I 1] (I t12),(a18 == (IntKind.wrap .u8 (255 - a2)))=false,(a17 == (IntKind.wrap .u8 (255 - a1)))=true,Qa (t8 - 1048576),Computes cx 45 [.lst false 1 [.v (.int .u8 a13),.v (.int .u8 a14),.v (.int .u8 a15),.v (.int .u8 a16)]] (I t8),Qa (t6 - 1048576),Computes cx 45 [.lst false 1 [.v (.int .u8 a9),.v (.int .u8 a10),.v (.int .u8 a11),.v (.int .u8 a12)]] (I t6),Qa (t4 - 1048576),Computes cx 45 [.lst false 1 [.v (.int .u8 a5),.v (.int .u8 a6),.v (.int .u8 a7),.v (.int .u8 a8)]] (I t4),Computes cx 45 [.lst false 1 [.v (.int .u8 a4)]] (I t3),Computes cx 45 [.lst false 1 [.v (.int .u8 a2),.v (.int .u8 a3)]] (I t2),Computes cx 45 [.lst false 1 [.v (.int .u8 a1)]] (I t1)]) (Et a0 a1 a2 a3 a4 a5 a6 a7 a8 a9 a10 a11 a12 a13 a14 a15 a16 a17 a18 a19 a20 a21 a22 a23 t1 t2 t3 t4 t6 t8 t12 t13 t15 t16 t17) ⟨(net h18),((Qt h17).le (.cons (.full _ _ _) (.nil)) (.refl _)),(QD h16),(Zv h15),(qR (Qy h14)),((Zd h13).le (.cons (.full _ _ _) (.nil)) (.refl _)),(QK h12),(eqf h11),(eqt h10),h9,(Qg h8),h7,(Qg h6),h5,(Qg h4),(Qg h3),(Qg h2),(Qg h1),trivial⟩
 ·replace h:=Ql h h10
  obtain ⟨t11,h11,h⟩:=Qe h
  obtain ⟨t12,h12,h⟩:=Qe h
  by_cases h13:t12=true
  ·replace h:=Qk h h13
   obtain ⟨t14,h14,h⟩:=Qe h
   obtain ⟨t15,h15,h⟩:=Qe h
   obtain ⟨t16,h16,h⟩:=Qe h
   by_cases h17:t16=0
   ·replace h:=Qk h h17
    replace h:=Option.some.inj h
    subst h
    exact run (n:=100) (f:=24) (args:=[.agg [.v (.int .u8 a0),.v (.int .u8 a1),.v (.int .u8 a2),.v (.int .u8 a3),.v (.int .u8 a4),.v (.int .u8 a5),.v (.int .u8 a6),.v (.int .u8 a7),.v (.int .u8 a8),.v (.int .u8 a9),.v (.int .u8 a10),.v (.int .u8 a11),.v (.int .u8 a12),.v (.int .u8 a13),.v (.int .u8 a14),.v (.int .u8 a15),.v (.int .u8 a16),.v (.int .u8 a17),.v (.int .u8 a18),.v (.int .u8 a19),.v (.int .u8 a20),.v (.int .u8 a21),.v (.int .u8 a22),.v (.int .u8 a23)]]) (orc:=[.lp [0] [] [] .ret [] [] 0,.ret (I t1),.ret (I t2),.ret (I t3),.ret (I t4),.ret (I t6),.ret (I t8),.br false,.no,.ret (I t11),.ret (B t12),.br false,.ret (I t14),.ret (I t15),.ret (I t16),.br false]) (r:=.tup [.agg [I t1,I t2,I t3,I (t4 - 1048576),I (t6 - 1048576),I (t8 - 1048576)],I 0]) (ob:=[(t16 != 0)=false,Computes cx 25 [.lst true 1 [I t11,I t14,I t15]] (I t16),Computes cx 42 [.agg [I (t4 - 1048576),I (t6 - 1048576),I (t8 - 1048576)]] (I t15),Computes cx 46 [B true,I 27] (I t14),(!t12)=false,Computes cx 47 [.lst true 1 [.v (.int .u8 a0),.v (.int .u8 a1),.v (.int .u8 a2),.v (.int .u8 a3),.v (.int .u8 a4),.v (.int .u8 a5),.v (.int .u8 a6),.v (.int .u8 a7),.v (.int .u8 a8),.v (.int .u8 a9),.v (.int .u8 a10),.v (.int .u8 a11),.v (.int .u8 a12),.v (.int .u8 a13),.v (.int .u8 a14),.v (.int .u8 a15),.v (.int .u8 a16),.v (.int .u8 a17),.v (.int .u8 a18),.v (.int .u8 a19),.v (.int .u8 a20),.v (.int .u8 a21),.v (.int .u8 a22),.v (.int .u8 a23)]] (B t12),Computes cx 46 [B (a0 != 77),I 1] (I t11),(a17 == (IntKind.wrap .u8 (255 - a1)))=false,Qa (t8 - 1048576),Computes cx 45 [.lst false 1 [.v (.int .u8 a13),.v (.int .u8 a14),.v (.int .u8 a15),.v (.int .u8 a16)]] (I t8),Qa (t6 - 1048576),Computes cx 45 [.lst false 1 [.v (.int .u8 a9),.v (.int .u8 a10),.v (.int .u8 a11),.v (.int .u8 a12)]] (I t6),Qa (t4 - 1048576),Computes cx 45 [.lst false 1 [.v (.int .u8 a5),.v (.int .u8 a6),.v (.int .u8 a7),.v (.int .u8 a8)]] (I t4),Computes cx 45 [.lst false 1 [.v (.int .u8 a4)]] (I t3),Computes cx 45 [.lst false 1 [.v (.int .u8 a2),.v (.int .u8 a3)]] (I t2),Computes cx 45 [.lst false 1 [.v (.int .u8 a1)]] (I t1)]) (Es a0 a1 a2 a3 a4 a5 a6 a7 a8 a9 a10 a11 a12 a13 a14 a15 a16 a17 a18 a19 a20 a21 a22 a23 t1 t2 t3 t4 t6 t8 t11 t12 t14 t15 t16) ⟨(nef h17),((Qt h16).le (.cons (.full _ _ _) (.nil)) (.refl _)),(QD h15),(Zv h14),(VS h13),((Zd h12).le (.cons (.full _ _ _) (.nil)) (.refl _)),(QK h11),(eqf h10),h9,(Qg h8),h7,(Qg h6),h5,(Qg h4),(Qg h3),(Qg h2),(Qg h1),trivial⟩
   ·replace h:=Ql h h17
    replace h:=Option.some.inj h
    subst h
    exact run (n:=100) (f:=24) (args:=[.agg [.v (.int .u8 a0),.v (.int .u8 a1),.v (.int .u8 a2),.v (.int .u8 a3),.v (.int .u8 a4),.v (.int .u8 a5),.v (.int .u8 a6),.v (.int .u8 a7),.v (.int .u8 a8),.v (.int .u8 a9),.v (.int .u8 a10),.v (.int .u8 a11),.v (.int .u8 a12),.v (.int .u8 a13),.v (.int .u8 a14),.v (.int .u8 a15),.v (.int .u8 a16),.v (.int .u8 a17),.v (.int .u8 a18),.v (.int .u8 a19),.v (.int .u8 a20),.v (.int .u8 a21),.v (.int .u8 a22),.v (.int .u8 a23)]]) (orc:=[.lp [0] [] [] .ret [] [] 0,.ret (I t1),.ret (I t2),.ret (I t3),.ret (I t4),.ret (I t6),.ret (I t8),.br false,.no,.ret (I t11),.ret (B t12),.br false,.ret (I t14),.ret (I t15),.ret (I t16),.br true]) (r:=.tup [.agg [I 0,I 0,I 0,I 0,I 0,I 0],I t16]) (ob:=[(t16 != 0)=true,Computes cx 25 [.lst true 1 [I t11,I t14,I t15]] (I t16),Computes cx 42 [.agg [I (t4 - 1048576),I (t6 - 1048576),I (t8 - 1048576)]] (I t15),Computes cx 46 [B true,I 27] (I t14),(!t12)=false,Computes cx 47 [.lst true 1 [.v (.int .u8 a0),.v (.int .u8 a1),.v (.int .u8 a2),.v (.int .u8 a3),.v (.int .u8 a4),.v (.int .u8 a5),.v (.int .u8 a6),.v (.int .u8 a7),.v (.int .u8 a8),.v (.int .u8 a9),.v (.int .u8 a10),.v (.int .u8 a11),.v (.int .u8 a12),.v (.int .u8 a13),.v (.int .u8 a14),.v (.int .u8 a15),.v (.int .u8 a16),.v (.int .u8 a17),.v (.int .u8 a18),.v (.int .u8 a19),.v (.int .u8 a20),.v (.int .u8 a21),.v (.int .u8 a22),.v (.int .u8 a23)]] (B t12),Computes cx 46 [B (a0 != 77),I 1] (I t11),(a17 == (IntKind.wrap .u8 (255 - a1)))=false,Qa (t8 - 1048576),Computes cx 45 [.lst false 1 [.v (.int .u8 a13),.v (.int .u8 a14),.v (.int .u8 a15),.v (.int .u8 a16)]] (I t8),Qa (t6 - 1048576),Computes cx 45 [.lst false 1 [.v (.int .u8 a9),.v (.int .u8 a10),.v (.int .u8 a11),.v (.int .u8 a12)]] (I t6),Qa (t4 - 1048576),Computes cx 45 [.lst false 1 [.v (.int .u8 a5),.v (.int .u8 a6),.v (.int .u8 a7),.v (.int .u8 a8)]] (I t4),Computes cx 45 [.lst false 1 [.v (.int .u8 a4)]] (I t3),Computes cx 45 [.lst false 1 [.v (.int .u8 a2),.v (.int .u8 a3)]] (I t2),Computes cx 45 [.lst false 1 [.v (.int .u8 a1)]] (I t1)]) (Er a0 a1 a2 a3 a4 a5 a6 a7 a8 a9 a10 a11 a12 a13 a14 a15 a16 a17 a18 a19 a20 a21 a22 a23 t1 t2 t3 t4 t6 t8 t11 t12 t14 t15 t16) ⟨(net h17),((Qt h16).le (.cons (.full _ _ _) (.nil)) (.refl _)),(QD h15),(Zv h14),(VS h13),((Zd h12).le (.cons (.full _ _ _) (.nil)) (.refl _)),(QK h11),(eqf h10),h9,(Qg h8),h7,(Qg h6),h5,(Qg h4),(Qg h3),(Qg h2),(Qg h1),trivial⟩
  ·replace h:=Ql h h13
   obtain ⟨t14,h14,h⟩:=Qe h
   obtain ⟨t15,h15,h⟩:=Qe h
   obtain ⟨t16,h16,h⟩:=Qe h
   by_cases h17:t16=0
   ·replace h:=Qk h h17
    replace h:=Option.some.inj h
    subst h
    exact run (n:=100) (f:=24) (args:=[.agg [.v (.int .u8 a0),.v (.int .u8 a1),.v (.int .u8 a2),.v (.int .u8 a3),.v (.int .u8 a4),.v (.int .u8 a5),.v (.int .u8 a6),.v (.int .u8 a7),.v (.int .u8 a8),.v (.int .u8 a9),.v (.int .u8 a10),.v (.int .u8 a11),.v (.int .u8 a12),.v (.int .u8 a13),.v (.int .u8 a14),.v (.int .u8 a15),.v (.int .u8 a16),.v (.int .u8 a17),.v (.int .u8 a18),.v (.int .u8 a19),.v (.int .u8 a20),.v (.int .u8 a21),.v (.int .u8 a22),.v (.int .u8 a23)]]) (orc:=[.lp [0] [] [] .ret [] [] 0,.ret (I t1),.ret (I t2),.ret (I t3),.ret (I t4),.ret (I t6),.ret (I t8),.br false,.no,.ret (I t11),.ret (B t12),.br true,.ret (I t14),.ret (I t15),.ret (I t16),.br false]) (r:=.tup [.agg [I t1,I t2,I t3,I (t4 - 1048576),I (t6 - 1048576),I (t8 - 1048576)],I 0]) (ob:=[(t16 != 0)=false,Computes cx 25 [.lst true 1 [I t11,I t14,I t15]] (I t16),Computes cx 42 [.agg [I (t4 - 1048576),I (t6 - 1048576),I (t8 - 1048576)]] (I t15),Computes cx 46 [B true,I 27] (I t14),(!t12)=true,Computes cx 47 [.lst true 1 [.v (.int .u8 a0),.v (.int .u8 a1),.v (.int .u8 a2),.v (.int .u8 a3),.v (.int .u8 a4),.v (.int .u8 a5),.v (.int .u8 a6),.v (.int .u8 a7),.v (.int .u8 a8),.v (.int .u8 a9),.v (.int .u8 a10),.v (.int .u8 a11),.v (.int .u8 a12),.v (.int .u8 a13),.v (.int .u8 a14),.v (.int .u8 a15),.v (.int .u8 a16),.v (.int .u8 a17),.v (.int .u8 a18),.v (.int .u8 a19),.v (.int .u8 a20),.v (.int .u8 a21),.v (.int .u8 a22),.v (.int .u8 a23)]] (B t12),Computes cx 46 [B (a0 != 77),I 1] (I t11),(a17 == (IntKind.wrap .u8 (255 - a1)))=false,Qa (t8 - 1048576),Computes cx 45 [.lst false 1 [.v (.int .u8 a13),.v (.int .u8 a14),.v (.int .u8 a15),.v (.int .u8 a16)]] (I t8),Qa (t6 - 1048576),Computes cx 45 [.lst false 1 [.v (.int .u8 a9),.v (.int .u8 a10),.v (.int .u8 a11),.v (.int .u8 a12)]] (I t6),Qa (t4 - 1048576),Computes cx 45 [.lst false 1 [.v (.int .u8 a5),.v (.int .u8 a6),.v (.int .u8 a7),.v (.int .u8 a8)]] (I t4),Computes cx 45 [.lst false 1 [.v (.int .u8 a4)]] (I t3),Computes cx 45 [.lst false 1 [.v (.int .u8 a2),.v (.int .u8 a3)]] (I t2),Computes cx 45 [.lst false 1 [.v (.int .u8 a1)]] (I t1)]) (Xv a0 a1 a2 a3 a4 a5 a6 a7 a8 a9 a10 a11 a12 a13 a14 a15 a16 a17 a18 a19 a20 a21 a22 a23 t1 t2 t3 t4 t6 t8 t11 t12 t14 t15 t16) ⟨(nef h17),((Qt h16).le (.cons (.full _ _ _) (.nil)) (.refl _)),(QD h15),(Zv h14),(qR (Qy h13)),((Zd h12).le (.cons (.full _ _ _) (.nil)) (.refl _)),(QK h11),(eqf h10),h9,(Qg h8),h7,(Qg h6),h5,(Qg h4),(Qg h3),(Qg h2),(Qg h1),trivial⟩
   ·replace h:=Ql h h17
    replace h:=Option.some.inj h
    subst h
    exact run (n:=100) (f:=24) (args:=[.agg [.v (.int .u8 a0),.v (.int .u8 a1),.v (.int .u8 a2),.v (.int .u8 a3),.v (.int .u8 a4),.v (.int .u8 a5),.v (.int .u8 a6),.v (.int .u8 a7),.v (.int .u8 a8),.v (.int .u8 a9),.v (.int .u8 a10),.v (.int .u8 a11),.v (.int .u8 a12),.v (.int .u8 a13),.v (.int .u8 a14),.v (.int .u8 a15),.v (.int .u8 a16),.v (.int .u8 a17),.v (.int .u8 a18),.v (.int .u8 a19),.v (.int .u8 a20),.v (.int .u8 a21),.v (.int .u8 a22),.v (.int .u8 a23)]]) (orc:=[.lp [0] [] [] .ret [] [] 0,.ret (I t1),.ret (I t2),.ret (I t3),.ret (I t4),.ret (I t6),.ret (I t8),.br false,.no,.ret (I t11),.ret (B t12),.br true,.ret (I t14),.ret (I t15),.ret (I t16),.br true]) (r:=.tup [.agg [I 0,I 0,I 0,I 0,I 0,I 0],I t16]) (ob:=[(t16 != 0)=true,Computes cx 25 [.lst true 1 [I t11,I t14,I t15]] (I t16),Computes cx 42 [.agg [I (t4 - 1048576),I (t6 - 1048576),I (t8 - 1048576)]] (I t15),Computes cx 46 [B true,I 27] (I t14),(!t12)=true,Computes cx 47 [.lst true 1 [.v (.int .u8 a0),.v (.int .u8 a1),.v (.int .u8 a2),.v (.int .u8 a3),.v (.int .u8 a4),.v (.int .u8 a5),.v (.int .u8 a6),.v (.int .u8 a7),.v (.int .u8 a8),.v (.int .u8 a9),.v (.int .u8 a10),.v (.int .u8 a11),.v (.int .u8 a12),.v (.int .u8 a13),.v (.int .u8 a14),.v (.int .u8 a15),.v (.int .u8 a16),.v (.int .u8 a17),.v (.int .u8 a18),.v (.int .u8 a19),.v (.int .u8 a20),.v (.int .u8 a21),.v (.int .u8 a22),.v (.int .u8 a23)]] (B t12),Computes cx 46 [B (a0 != 77),I 1] (I t11),(a17 == (IntKind.wrap .u8 (255 - a1)))=false,Qa (t8 - 1048576),Computes cx 45 [.lst false 1 [.v (.int .u8 a13),.v (.int .u8 a14),.v (.int .u8 a15),.v (.int .u8 a16)]] (I t8),Qa (t6 - 1048576),Computes cx 45 [.lst false 1 [.v (.int .u8 a9),.v (.int .u8 a10),.v (.int .u8 a11),.v (.int .u8 a12)]] (I t6),Qa (t4 - 1048576),Computes cx 45 [.lst false 1 [.v (.int .u8 a5),.v (.int .u8 a6),.v (.int .u8 a7),.v (.int .u8 a8)]] (I t4),Computes cx 45 [.lst false 1 [.v (.int .u8 a4)]] (I t3),Computes cx 45 [.lst false 1 [.v (.int .u8 a2),.v (.int .u8 a3)]] (I t2),Computes cx 45 [.lst false 1 [.v (.int .u8 a1)]] (I t1)]) (Xu a0 a1 a2 a3 a4 a5 a6 a7 a8 a9 a10 a11 a12 a13 a14 a15 a16 a17 a18 a19 a20 a21 a22 a23 t1 t2 t3 t4 t6 t8 t11 t12 t14 t15 t16) ⟨(net h17),((Qt h16).le (.cons (.full _ _ _) (.nil)) (.refl _)),(QD h15),(Zv h14),(qR (Qy h13)),((Zd h12).le (.cons (.full _ _ _) (.nil)) (.refl _)),(QK h11),(eqf h10),h9,(Qg h8),h7,(Qg h6),h5,(Qg h4),(Qg h3),(Qg h2),(Qg h1),trivial⟩
def QbD (x:Int×Int):D:=.agg [I x.1,I x.2]
def qr:D→Option (Int×Int)
 | .agg [c0,c1]=>(Q9 .i64 c0).bind fun y0=>(Q9 .i64 c1).bind fun y1=>some (y0,y1)
 | _=>none
theorem ZY {d:D} {x:Int×Int} (h:qr d=some x):d=QbD x:=by
 unfold qr at h
 split at h
 case h_2=>cases h
 obtain ⟨y0,h0,h⟩:=Qe h
 obtain ⟨y1,h1,h⟩:=Qe h
 cases h
 have e0:=QB h0
 have e1:=QB h1
 rw [e0,e1];rfl
def QX (n:Nat) (a0:List D) (sa:(Int×List D×List D)):Option (((Int×List D×List D))⊕((List D×List D))) :=
 if sa.1 < ((a0).length:Int) then
  if Qa (((a0).length:Int) - sa.1) then
  if (((a0).length:Int) - sa.1) ≥ 24 then
   if Qa (sa.1+24) then
   if 0≤sa.1∧sa.1≤(sa.1+24)∧(sa.1+24)≤((a0).length:Int)∧(a0=[] ∨ 1=1) then
   (Qu (.agg (List.take 24 ((a0.take (Int.toNat (sa.1+24))).drop (Int.toNat sa.1)):List D))).bind fun ta6 =>
   (WC n ta6.1 ta6.2.1 ta6.2.2.1 ta6.2.2.2.1 ta6.2.2.2.2.1 ta6.2.2.2.2.2.1 ta6.2.2.2.2.2.2.1 ta6.2.2.2.2.2.2.2.1 ta6.2.2.2.2.2.2.2.2.1 ta6.2.2.2.2.2.2.2.2.2.1 ta6.2.2.2.2.2.2.2.2.2.2.1 ta6.2.2.2.2.2.2.2.2.2.2.2.1 ta6.2.2.2.2.2.2.2.2.2.2.2.2.1 ta6.2.2.2.2.2.2.2.2.2.2.2.2.2.1 ta6.2.2.2.2.2.2.2.2.2.2.2.2.2.2.1 ta6.2.2.2.2.2.2.2.2.2.2.2.2.2.2.2.1 ta6.2.2.2.2.2.2.2.2.2.2.2.2.2.2.2.2.1 ta6.2.2.2.2.2.2.2.2.2.2.2.2.2.2.2.2.2.1 ta6.2.2.2.2.2.2.2.2.2.2.2.2.2.2.2.2.2.2.1 ta6.2.2.2.2.2.2.2.2.2.2.2.2.2.2.2.2.2.2.2.1 ta6.2.2.2.2.2.2.2.2.2.2.2.2.2.2.2.2.2.2.2.2.1 ta6.2.2.2.2.2.2.2.2.2.2.2.2.2.2.2.2.2.2.2.2.2.1 ta6.2.2.2.2.2.2.2.2.2.2.2.2.2.2.2.2.2.2.2.2.2.2.1 ta6.2.2.2.2.2.2.2.2.2.2.2.2.2.2.2.2.2.2.2.2.2.2.2).bind fun ta7 =>
   if ta7.2.2.2.2.2.2=0 then
    if Q5 48 ((sa.2.1).length+1) then
    some (.inl ((sa.1+24),(sa.2.1++([.agg [I ta7.1,I ta7.2.1,I ta7.2.2.1,I ta7.2.2.2.1,I ta7.2.2.2.2.1,I ta7.2.2.2.2.2.1]]:List D)),sa.2.2))
    else none
   else
   if ((sa.2.2).length:Int) > 0 then
    if Qa (((sa.2.2).length:Int) - 1) then
    if 0≤(((sa.2.2).length:Int) - 1)∧(((sa.2.2).length:Int) - 1) < ((sa.2.2).length:Int) then
    ((nth (sa.2.2) (Int.toNat (((sa.2.2).length:Int) - 1))).bind qr).bind fun ta12 =>
    if ((ta12.1 == ta12.1) && ((ta12.2 == sa.1) && true))=true then
     if Qa (ta12.2+1) then
     if Qa (sa.1+1) then
     some (.inl ((sa.1+1),sa.2.1,(List.set sa.2.2 (Int.toNat (((sa.2.2).length:Int) - 1)) (.agg [I ta12.1,I (ta12.2+1)]:D))))
     else none
     else none
    else
    if Qa (sa.1+1) then
    if Q5 16 ((sa.2.2).length+1) then
    some (.inl ((sa.1+1),sa.2.1,(sa.2.2++([.agg [I sa.1,I (sa.1+1)]]:List D))))
    else none
    else none
    else none
    else none
   else
   if Qa (sa.1+1) then
   if Q5 16 ((sa.2.2).length+1) then
   some (.inl ((sa.1+1),sa.2.1,(sa.2.2++([.agg [I sa.1,I (sa.1+1)]]:List D))))
   else none
   else none
   else none
   else none
  else
  if ((sa.2.2).length:Int) > 0 then
   if Qa (((sa.2.2).length:Int) - 1) then
   if 0≤(((sa.2.2).length:Int) - 1)∧(((sa.2.2).length:Int) - 1) < ((sa.2.2).length:Int) then
   ((nth (sa.2.2) (Int.toNat (((sa.2.2).length:Int) - 1))).bind qr).bind fun ta7 =>
   if ((ta7.1 == ta7.1) && ((ta7.2 == sa.1) && true))=true then
    if Qa (ta7.2+1) then
    if Qa (sa.1+1) then
    some (.inl ((sa.1+1),sa.2.1,(List.set sa.2.2 (Int.toNat (((sa.2.2).length:Int) - 1)) (.agg [I ta7.1,I (ta7.2+1)]:D))))
    else none
    else none
   else
   if Qa (sa.1+1) then
   if Q5 16 ((sa.2.2).length+1) then
   some (.inl ((sa.1+1),sa.2.1,(sa.2.2++([.agg [I sa.1,I (sa.1+1)]]:List D))))
   else none
   else none
   else none
   else none
  else
  if Qa (sa.1+1) then
  if Q5 16 ((sa.2.2).length+1) then
  some (.inl ((sa.1+1),sa.2.1,(sa.2.2++([.agg [I sa.1,I (sa.1+1)]]:List D))))
  else none
  else none
  else none
 else
 some (.inr (sa.2.1,sa.2.2))
noncomputable def Jf (a0:List D) (sa:(Int×List D×List D)):List (Nat×AV):=[(0,.d (.lst false 1 a0)),(5,.own 9 0),(6,.own 10 0),(7,.d (I sa.1))]
noncomputable def Ju (a0:List D) (sa:(Int×List D×List D)):List (Nat×Blk):=[(9,.row 0 6 sa.2.1),(10,.row 0 2 sa.2.2)]
noncomputable def K0 (a0:List D) (e:(List D×List D)):Ex:=(.exit 0)
noncomputable def Ky (a0:List D) (e:(List D×List D)):List (Nat×AV):=[(5,.own 9 0),(6,.own 10 0)]
noncomputable def KI (a0:List D) (e:(List D×List D)):List (Nat×Blk):=[(9,.row 0 6 e.1),(10,.row 0 2 e.2)]
theorem Jk {n:Nat} {a0:List D} (sa:(Int×List D×List D)) (r) (h:QX n a0 sa=some r):Rd cx (Qp cx.P 8 0) 82 0 false (Jf a0) (Ju a0) (K0 a0) (Ky a0) (KI a0) sa r:=by
 unfold QX at h
 by_cases ha1:sa.1 < ((a0).length:Int)
 ·replace h:=Qk h ha1
  obtain ⟨ha2,h⟩:=Qf h
  by_cases ha3:(((a0).length:Int) - sa.1) ≥ 24
  ·replace h:=Qk h ha3
   obtain ⟨ha4,h⟩:=Qf h
   obtain ⟨ha5,h⟩:=Qf h
   obtain ⟨ta6,ha6,h⟩:=Qe h
   obtain ⟨ta7,ha7,h⟩:=Qe h
   by_cases ha8:ta7.2.2.2.2.2.2=0
   ·replace h:=Qk h ha8
    obtain ⟨ha9,h⟩:=Qf h
    replace h:=Option.some.inj h
    subst h
    exact ⟨100,11,[.br true,.br true,.br true,.ret (.lst false 1 [.v (.int .u8 ta6.1),.v (.int .u8 ta6.2.1),.v (.int .u8 ta6.2.2.1),.v (.int .u8 ta6.2.2.2.1),.v (.int .u8 ta6.2.2.2.2.1),.v (.int .u8 ta6.2.2.2.2.2.1),.v (.int .u8 ta6.2.2.2.2.2.2.1),.v (.int .u8 ta6.2.2.2.2.2.2.2.1),.v (.int .u8 ta6.2.2.2.2.2.2.2.2.1),.v (.int .u8 ta6.2.2.2.2.2.2.2.2.2.1),.v (.int .u8 ta6.2.2.2.2.2.2.2.2.2.2.1),.v (.int .u8 ta6.2.2.2.2.2.2.2.2.2.2.2.1),.v (.int .u8 ta6.2.2.2.2.2.2.2.2.2.2.2.2.1),.v (.int .u8 ta6.2.2.2.2.2.2.2.2.2.2.2.2.2.1),.v (.int .u8 ta6.2.2.2.2.2.2.2.2.2.2.2.2.2.2.1),.v (.int .u8 ta6.2.2.2.2.2.2.2.2.2.2.2.2.2.2.2.1),.v (.int .u8 ta6.2.2.2.2.2.2.2.2.2.2.2.2.2.2.2.2.1),.v (.int .u8 ta6.2.2.2.2.2.2.2.2.2.2.2.2.2.2.2.2.2.1),.v (.int .u8 ta6.2.2.2.2.2.2.2.2.2.2.2.2.2.2.2.2.2.2.1),.v (.int .u8 ta6.2.2.2.2.2.2.2.2.2.2.2.2.2.2.2.2.2.2.2.1),.v (.int .u8 ta6.2.2.2.2.2.2.2.2.2.2.2.2.2.2.2.2.2.2.2.2.1),.v (.int .u8 ta6.2.2.2.2.2.2.2.2.2.2.2.2.2.2.2.2.2.2.2.2.2.1),.v (.int .u8 ta6.2.2.2.2.2.2.2.2.2.2.2.2.2.2.2.2.2.2.2.2.2.2.1),.v (.int .u8 ta6.2.2.2.2.2.2.2.2.2.2.2.2.2.2.2.2.2.2.2.2.2.2.2)]),.ret (.tup [.agg [I ta7.1,I ta7.2.1,I ta7.2.2.1,I ta7.2.2.2.1,I ta7.2.2.2.2.1,I ta7.2.2.2.2.2.1],I ta7.2.2.2.2.2.2]),.br true,.br true],[],[0,5,6,7],[9,10],Qi (ob:=[Qa (sa.1+24),room cx 35 ((sa.2.1).length+1),(ta7.2.2.2.2.2.2 == 0)=true,Computes cx 24 [.agg [.v (.int .u8 ta6.1),.v (.int .u8 ta6.2.1),.v (.int .u8 ta6.2.2.1),.v (.int .u8 ta6.2.2.2.1),.v (.int .u8 ta6.2.2.2.2.1),.v (.int .u8 ta6.2.2.2.2.2.1),.v (.int .u8 ta6.2.2.2.2.2.2.1),.v (.int .u8 ta6.2.2.2.2.2.2.2.1),.v (.int .u8 ta6.2.2.2.2.2.2.2.2.1),.v (.int .u8 ta6.2.2.2.2.2.2.2.2.2.1),.v (.int .u8 ta6.2.2.2.2.2.2.2.2.2.2.1),.v (.int .u8 ta6.2.2.2.2.2.2.2.2.2.2.2.1),.v (.int .u8 ta6.2.2.2.2.2.2.2.2.2.2.2.2.1),.v (.int .u8 ta6.2.2.2.2.2.2.2.2.2.2.2.2.2.1),.v (.int .u8 ta6.2.2.2.2.2.2.2.2.2.2.2.2.2.2.1),.v (.int .u8 ta6.2.2.2.2.2.2.2.2.2.2.2.2.2.2.2.1),.v (.int .u8 ta6.2.2.2.2.2.2.2.2.2.2.2.2.2.2.2.2.1),.v (.int .u8 ta6.2.2.2.2.2.2.2.2.2.2.2.2.2.2.2.2.2.1),.v (.int .u8 ta6.2.2.2.2.2.2.2.2.2.2.2.2.2.2.2.2.2.2.1),.v (.int .u8 ta6.2.2.2.2.2.2.2.2.2.2.2.2.2.2.2.2.2.2.2.1),.v (.int .u8 ta6.2.2.2.2.2.2.2.2.2.2.2.2.2.2.2.2.2.2.2.2.1),.v (.int .u8 ta6.2.2.2.2.2.2.2.2.2.2.2.2.2.2.2.2.2.2.2.2.2.1),.v (.int .u8 ta6.2.2.2.2.2.2.2.2.2.2.2.2.2.2.2.2.2.2.2.2.2.2.1),.v (.int .u8 ta6.2.2.2.2.2.2.2.2.2.2.2.2.2.2.2.2.2.2.2.2.2.2.2)]] (.tup [.agg [I ta7.1,I ta7.2.1,I ta7.2.2.1,I ta7.2.2.2.1,I ta7.2.2.2.2.1,I ta7.2.2.2.2.2.1],I ta7.2.2.2.2.2.2]),List.take 24 ((a0.take (Int.toNat (sa.1+24))).drop (Int.toNat sa.1))=[.v (.int .u8 ta6.1),.v (.int .u8 ta6.2.1),.v (.int .u8 ta6.2.2.1),.v (.int .u8 ta6.2.2.2.1),.v (.int .u8 ta6.2.2.2.2.1),.v (.int .u8 ta6.2.2.2.2.2.1),.v (.int .u8 ta6.2.2.2.2.2.2.1),.v (.int .u8 ta6.2.2.2.2.2.2.2.1),.v (.int .u8 ta6.2.2.2.2.2.2.2.2.1),.v (.int .u8 ta6.2.2.2.2.2.2.2.2.2.1),.v (.int .u8 ta6.2.2.2.2.2.2.2.2.2.2.1),.v (.int .u8 ta6.2.2.2.2.2.2.2.2.2.2.2.1),.v (.int .u8 ta6.2.2.2.2.2.2.2.2.2.2.2.2.1),.v (.int .u8 ta6.2.2.2.2.2.2.2.2.2.2.2.2.2.1),.v (.int .u8 ta6.2.2.2.2.2.2.2.2.2.2.2.2.2.2.1),.v (.int .u8 ta6.2.2.2.2.2.2.2.2.2.2.2.2.2.2.2.1),.v (.int .u8 ta6.2.2.2.2.2.2.2.2.2.2.2.2.2.2.2.2.1),.v (.int .u8 ta6.2.2.2.2.2.2.2.2.2.2.2.2.2.2.2.2.2.1),.v (.int .u8 ta6.2.2.2.2.2.2.2.2.2.2.2.2.2.2.2.2.2.2.1),.v (.int .u8 ta6.2.2.2.2.2.2.2.2.2.2.2.2.2.2.2.2.2.2.2.1),.v (.int .u8 ta6.2.2.2.2.2.2.2.2.2.2.2.2.2.2.2.2.2.2.2.2.1),.v (.int .u8 ta6.2.2.2.2.2.2.2.2.2.2.2.2.2.2.2.2.2.2.2.2.2.1),.v (.int .u8 ta6.2.2.2.2.2.2.2.2.2.2.2.2.2.2.2.2.2.2.2.2.2.2.1),.v (.int .u8 ta6.2.2.2.2.2.2.2.2.2.2.2.2.2.2.2.2.2.2.2.2.2.2.2)],0≤sa.1∧sa.1≤(sa.1+24)∧(sa.1+24)≤((a0).length:Int)∧(a0=[] ∨ 1=1),Qa (sa.1+24),(decide ((((a0).length:Int) - sa.1) ≥ 24))=true,Qa (((a0).length:Int) - sa.1),(decide (sa.1 < ((a0).length:Int)))=true]) (by kernel_rfl) ⟨ha4,(Qz (b:=48) (by kernel_rfl) (by decide) ha9),(eqt ha8),(VN ha7),qA (Qn ha6),ha5,ha4,(decide_eq_true ha3),ha2,(decide_eq_true ha1),trivial⟩⟩
   ·replace h:=Ql h ha8
    by_cases ha9:((sa.2.2).length:Int) > 0
    ·replace h:=Qk h ha9
     obtain ⟨ha10,h⟩:=Qf h
     obtain ⟨ha11,h⟩:=Qf h
     obtain ⟨ta12,ha12,h⟩:=Qe h
     by_cases ha13:((ta12.1 == ta12.1) && ((ta12.2 == sa.1) && true))=true
     ·replace h:=Qk h ha13
      obtain ⟨ha14,h⟩:=Qf h
      obtain ⟨ha15,h⟩:=Qf h
      replace h:=Option.some.inj h
      subst h
      exact ⟨100,11,[.br true,.br true,.br true,.ret (.lst false 1 [.v (.int .u8 ta6.1),.v (.int .u8 ta6.2.1),.v (.int .u8 ta6.2.2.1),.v (.int .u8 ta6.2.2.2.1),.v (.int .u8 ta6.2.2.2.2.1),.v (.int .u8 ta6.2.2.2.2.2.1),.v (.int .u8 ta6.2.2.2.2.2.2.1),.v (.int .u8 ta6.2.2.2.2.2.2.2.1),.v (.int .u8 ta6.2.2.2.2.2.2.2.2.1),.v (.int .u8 ta6.2.2.2.2.2.2.2.2.2.1),.v (.int .u8 ta6.2.2.2.2.2.2.2.2.2.2.1),.v (.int .u8 ta6.2.2.2.2.2.2.2.2.2.2.2.1),.v (.int .u8 ta6.2.2.2.2.2.2.2.2.2.2.2.2.1),.v (.int .u8 ta6.2.2.2.2.2.2.2.2.2.2.2.2.2.1),.v (.int .u8 ta6.2.2.2.2.2.2.2.2.2.2.2.2.2.2.1),.v (.int .u8 ta6.2.2.2.2.2.2.2.2.2.2.2.2.2.2.2.1),.v (.int .u8 ta6.2.2.2.2.2.2.2.2.2.2.2.2.2.2.2.2.1),.v (.int .u8 ta6.2.2.2.2.2.2.2.2.2.2.2.2.2.2.2.2.2.1),.v (.int .u8 ta6.2.2.2.2.2.2.2.2.2.2.2.2.2.2.2.2.2.2.1),.v (.int .u8 ta6.2.2.2.2.2.2.2.2.2.2.2.2.2.2.2.2.2.2.2.1),.v (.int .u8 ta6.2.2.2.2.2.2.2.2.2.2.2.2.2.2.2.2.2.2.2.2.1),.v (.int .u8 ta6.2.2.2.2.2.2.2.2.2.2.2.2.2.2.2.2.2.2.2.2.2.1),.v (.int .u8 ta6.2.2.2.2.2.2.2.2.2.2.2.2.2.2.2.2.2.2.2.2.2.2.1),.v (.int .u8 ta6.2.2.2.2.2.2.2.2.2.2.2.2.2.2.2.2.2.2.2.2.2.2.2)]),.ret (.tup [.agg [I ta7.1,I ta7.2.1,I ta7.2.2.1,I ta7.2.2.2.1,I ta7.2.2.2.2.1,I ta7.2.2.2.2.2.1],I ta7.2.2.2.2.2.2]),.br false,.br true,.br true,.el (.agg [I ta12.1,I ta12.2]),.br true,.el (.agg [I ta12.1,I ta12.2]),.br true,.br true,.el (.agg [I ta12.1,I ta12.2]),.br true,.el (.agg [I ta12.1,I ta12.2])],[],[0,5,6,7],[9,10],Qi (ob:=[Qa (sa.1+1),nth (sa.2.2) (Int.toNat (((sa.2.2).length:Int) - 1))=some (.agg [I ta12.1,I ta12.2]),0≤(((sa.2.2).length:Int) - 1)∧(((sa.2.2).length:Int) - 1) < ((sa.2.2).length:Int),Qa (ta12.2+1),nth (sa.2.2) (Int.toNat (((sa.2.2).length:Int) - 1))=some (.agg [I ta12.1,I ta12.2]),0≤(((sa.2.2).length:Int) - 1)∧(((sa.2.2).length:Int) - 1) < ((sa.2.2).length:Int),Qa (((sa.2.2).length:Int) - 1),((ta12.1 == ta12.1) && ((ta12.2 == sa.1) && true))=true,nth (sa.2.2) (Int.toNat (((sa.2.2).length:Int) - 1))=some (.agg [I ta12.1,I ta12.2]),0≤(((sa.2.2).length:Int) - 1)∧(((sa.2.2).length:Int) - 1) < ((sa.2.2).length:Int),Qa (((sa.2.2).length:Int) - 1),nth (sa.2.2) (Int.toNat (((sa.2.2).length:Int) - 1))=some (.agg [I ta12.1,I ta12.2]),0≤(((sa.2.2).length:Int) - 1)∧(((sa.2.2).length:Int) - 1) < ((sa.2.2).length:Int),Qa (((sa.2.2).length:Int) - 1),(decide (((sa.2.2).length:Int) > 0))=true,(ta7.2.2.2.2.2.2 == 0)=false,Computes cx 24 [.agg [.v (.int .u8 ta6.1),.v (.int .u8 ta6.2.1),.v (.int .u8 ta6.2.2.1),.v (.int .u8 ta6.2.2.2.1),.v (.int .u8 ta6.2.2.2.2.1),.v (.int .u8 ta6.2.2.2.2.2.1),.v (.int .u8 ta6.2.2.2.2.2.2.1),.v (.int .u8 ta6.2.2.2.2.2.2.2.1),.v (.int .u8 ta6.2.2.2.2.2.2.2.2.1),.v (.int .u8 ta6.2.2.2.2.2.2.2.2.2.1),.v (.int .u8 ta6.2.2.2.2.2.2.2.2.2.2.1),.v (.int .u8 ta6.2.2.2.2.2.2.2.2.2.2.2.1),.v (.int .u8 ta6.2.2.2.2.2.2.2.2.2.2.2.2.1),.v (.int .u8 ta6.2.2.2.2.2.2.2.2.2.2.2.2.2.1),.v (.int .u8 ta6.2.2.2.2.2.2.2.2.2.2.2.2.2.2.1),.v (.int .u8 ta6.2.2.2.2.2.2.2.2.2.2.2.2.2.2.2.1),.v (.int .u8 ta6.2.2.2.2.2.2.2.2.2.2.2.2.2.2.2.2.1),.v (.int .u8 ta6.2.2.2.2.2.2.2.2.2.2.2.2.2.2.2.2.2.1),.v (.int .u8 ta6.2.2.2.2.2.2.2.2.2.2.2.2.2.2.2.2.2.2.1),.v (.int .u8 ta6.2.2.2.2.2.2.2.2.2.2.2.2.2.2.2.2.2.2.2.1),.v (.int .u8 ta6.2.2.2.2.2.2.2.2.2.2.2.2.2.2.2.2.2.2.2.2.1),.v (.int .u8 ta6.2.2.2.2.2.2.2.2.2.2.2.2.2.2.2.2.2.2.2.2.2.1),.v (.int .u8 ta6.2.2.2.2.2.2.2.2.2.2.2.2.2.2.2.2.2.2.2.2.2.2.1),.v (.int .u8 ta6.2.2.2.2.2.2.2.2.2.2.2.2.2.2.2.2.2.2.2.2.2.2.2)]] (.tup [.agg [I ta7.1,I ta7.2.1,I ta7.2.2.1,I ta7.2.2.2.1,I ta7.2.2.2.2.1,I ta7.2.2.2.2.2.1],I ta7.2.2.2.2.2.2]),List.take 24 ((a0.take (Int.toNat (sa.1+24))).drop (Int.toNat sa.1))=[.v (.int .u8 ta6.1),.v (.int .u8 ta6.2.1),.v (.int .u8 ta6.2.2.1),.v (.int .u8 ta6.2.2.2.1),.v (.int .u8 ta6.2.2.2.2.1),.v (.int .u8 ta6.2.2.2.2.2.1),.v (.int .u8 ta6.2.2.2.2.2.2.1),.v (.int .u8 ta6.2.2.2.2.2.2.2.1),.v (.int .u8 ta6.2.2.2.2.2.2.2.2.1),.v (.int .u8 ta6.2.2.2.2.2.2.2.2.2.1),.v (.int .u8 ta6.2.2.2.2.2.2.2.2.2.2.1),.v (.int .u8 ta6.2.2.2.2.2.2.2.2.2.2.2.1),.v (.int .u8 ta6.2.2.2.2.2.2.2.2.2.2.2.2.1),.v (.int .u8 ta6.2.2.2.2.2.2.2.2.2.2.2.2.2.1),.v (.int .u8 ta6.2.2.2.2.2.2.2.2.2.2.2.2.2.2.1),.v (.int .u8 ta6.2.2.2.2.2.2.2.2.2.2.2.2.2.2.2.1),.v (.int .u8 ta6.2.2.2.2.2.2.2.2.2.2.2.2.2.2.2.2.1),.v (.int .u8 ta6.2.2.2.2.2.2.2.2.2.2.2.2.2.2.2.2.2.1),.v (.int .u8 ta6.2.2.2.2.2.2.2.2.2.2.2.2.2.2.2.2.2.2.1),.v (.int .u8 ta6.2.2.2.2.2.2.2.2.2.2.2.2.2.2.2.2.2.2.2.1),.v (.int .u8 ta6.2.2.2.2.2.2.2.2.2.2.2.2.2.2.2.2.2.2.2.2.1),.v (.int .u8 ta6.2.2.2.2.2.2.2.2.2.2.2.2.2.2.2.2.2.2.2.2.2.1),.v (.int .u8 ta6.2.2.2.2.2.2.2.2.2.2.2.2.2.2.2.2.2.2.2.2.2.2.1),.v (.int .u8 ta6.2.2.2.2.2.2.2.2.2.2.2.2.2.2.2.2.2.2.2.2.2.2.2)],0≤sa.1∧sa.1≤(sa.1+24)∧(sa.1+24)≤((a0).length:Int)∧(a0=[] ∨ 1=1),Qa (sa.1+24),(decide ((((a0).length:Int) - sa.1) ≥ 24))=true,Qa (((a0).length:Int) - sa.1),(decide (sa.1 < ((a0).length:Int)))=true]) (by kernel_rfl) ⟨ha15,Qo ZY ha12,ha11,ha14,Qo ZY ha12,ha11,ha10,ha13,Qo ZY ha12,ha11,ha10,Qo ZY ha12,ha11,ha10,(decide_eq_true ha9),(eqf ha8),(VN ha7),qA (Qn ha6),ha5,ha4,(decide_eq_true ha3),ha2,(decide_eq_true ha1),trivial⟩⟩
     ·replace h:=Ql h ha13
      obtain ⟨ha14,h⟩:=Qf h
      obtain ⟨ha15,h⟩:=Qf h
      replace h:=Option.some.inj h
      subst h
      exact ⟨100,11,[.br true,.br true,.br true,.ret (.lst false 1 [.v (.int .u8 ta6.1),.v (.int .u8 ta6.2.1),.v (.int .u8 ta6.2.2.1),.v (.int .u8 ta6.2.2.2.1),.v (.int .u8 ta6.2.2.2.2.1),.v (.int .u8 ta6.2.2.2.2.2.1),.v (.int .u8 ta6.2.2.2.2.2.2.1),.v (.int .u8 ta6.2.2.2.2.2.2.2.1),.v (.int .u8 ta6.2.2.2.2.2.2.2.2.1),.v (.int .u8 ta6.2.2.2.2.2.2.2.2.2.1),.v (.int .u8 ta6.2.2.2.2.2.2.2.2.2.2.1),.v (.int .u8 ta6.2.2.2.2.2.2.2.2.2.2.2.1),.v (.int .u8 ta6.2.2.2.2.2.2.2.2.2.2.2.2.1),.v (.int .u8 ta6.2.2.2.2.2.2.2.2.2.2.2.2.2.1),.v (.int .u8 ta6.2.2.2.2.2.2.2.2.2.2.2.2.2.2.1),.v (.int .u8 ta6.2.2.2.2.2.2.2.2.2.2.2.2.2.2.2.1),.v (.int .u8 ta6.2.2.2.2.2.2.2.2.2.2.2.2.2.2.2.2.1),.v (.int .u8 ta6.2.2.2.2.2.2.2.2.2.2.2.2.2.2.2.2.2.1),.v (.int .u8 ta6.2.2.2.2.2.2.2.2.2.2.2.2.2.2.2.2.2.2.1),.v (.int .u8 ta6.2.2.2.2.2.2.2.2.2.2.2.2.2.2.2.2.2.2.2.1),.v (.int .u8 ta6.2.2.2.2.2.2.2.2.2.2.2.2.2.2.2.2.2.2.2.2.1),.v (.int .u8 ta6.2.2.2.2.2.2.2.2.2.2.2.2.2.2.2.2.2.2.2.2.2.1),.v (.int .u8 ta6.2.2.2.2.2.2.2.2.2.2.2.2.2.2.2.2.2.2.2.2.2.2.1),.v (.int .u8 ta6.2.2.2.2.2.2.2.2.2.2.2.2.2.2.2.2.2.2.2.2.2.2.2)]),.ret (.tup [.agg [I ta7.1,I ta7.2.1,I ta7.2.2.1,I ta7.2.2.2.1,I ta7.2.2.2.2.1,I ta7.2.2.2.2.2.1],I ta7.2.2.2.2.2.2]),.br false,.br true,.br true,.el (.agg [I ta12.1,I ta12.2]),.br true,.el (.agg [I ta12.1,I ta12.2]),.br false,.br true],[],[0,5,6,7],[9,10],Qi (ob:=[Qa (sa.1+1),room cx 69 ((sa.2.2).length+1),Qa (sa.1+1),((ta12.1 == ta12.1) && ((ta12.2 == sa.1) && true))=false,nth (sa.2.2) (Int.toNat (((sa.2.2).length:Int) - 1))=some (.agg [I ta12.1,I ta12.2]),0≤(((sa.2.2).length:Int) - 1)∧(((sa.2.2).length:Int) - 1) < ((sa.2.2).length:Int),Qa (((sa.2.2).length:Int) - 1),nth (sa.2.2) (Int.toNat (((sa.2.2).length:Int) - 1))=some (.agg [I ta12.1,I ta12.2]),0≤(((sa.2.2).length:Int) - 1)∧(((sa.2.2).length:Int) - 1) < ((sa.2.2).length:Int),Qa (((sa.2.2).length:Int) - 1),(decide (((sa.2.2).length:Int) > 0))=true,(ta7.2.2.2.2.2.2 == 0)=false,Computes cx 24 [.agg [.v (.int .u8 ta6.1),.v (.int .u8 ta6.2.1),.v (.int .u8 ta6.2.2.1),.v (.int .u8 ta6.2.2.2.1),.v (.int .u8 ta6.2.2.2.2.1),.v (.int .u8 ta6.2.2.2.2.2.1),.v (.int .u8 ta6.2.2.2.2.2.2.1),.v (.int .u8 ta6.2.2.2.2.2.2.2.1),.v (.int .u8 ta6.2.2.2.2.2.2.2.2.1),.v (.int .u8 ta6.2.2.2.2.2.2.2.2.2.1),.v (.int .u8 ta6.2.2.2.2.2.2.2.2.2.2.1),.v (.int .u8 ta6.2.2.2.2.2.2.2.2.2.2.2.1),.v (.int .u8 ta6.2.2.2.2.2.2.2.2.2.2.2.2.1),.v (.int .u8 ta6.2.2.2.2.2.2.2.2.2.2.2.2.2.1),.v (.int .u8 ta6.2.2.2.2.2.2.2.2.2.2.2.2.2.2.1),.v (.int .u8 ta6.2.2.2.2.2.2.2.2.2.2.2.2.2.2.2.1),.v (.int .u8 ta6.2.2.2.2.2.2.2.2.2.2.2.2.2.2.2.2.1),.v (.int .u8 ta6.2.2.2.2.2.2.2.2.2.2.2.2.2.2.2.2.2.1),.v (.int .u8 ta6.2.2.2.2.2.2.2.2.2.2.2.2.2.2.2.2.2.2.1),.v (.int .u8 ta6.2.2.2.2.2.2.2.2.2.2.2.2.2.2.2.2.2.2.2.1),.v (.int .u8 ta6.2.2.2.2.2.2.2.2.2.2.2.2.2.2.2.2.2.2.2.2.1),.v (.int .u8 ta6.2.2.2.2.2.2.2.2.2.2.2.2.2.2.2.2.2.2.2.2.2.1),.v (.int .u8 ta6.2.2.2.2.2.2.2.2.2.2.2.2.2.2.2.2.2.2.2.2.2.2.1),.v (.int .u8 ta6.2.2.2.2.2.2.2.2.2.2.2.2.2.2.2.2.2.2.2.2.2.2.2)]] (.tup [.agg [I ta7.1,I ta7.2.1,I ta7.2.2.1,I ta7.2.2.2.1,I ta7.2.2.2.2.1,I ta7.2.2.2.2.2.1],I ta7.2.2.2.2.2.2]),List.take 24 ((a0.take (Int.toNat (sa.1+24))).drop (Int.toNat sa.1))=[.v (.int .u8 ta6.1),.v (.int .u8 ta6.2.1),.v (.int .u8 ta6.2.2.1),.v (.int .u8 ta6.2.2.2.1),.v (.int .u8 ta6.2.2.2.2.1),.v (.int .u8 ta6.2.2.2.2.2.1),.v (.int .u8 ta6.2.2.2.2.2.2.1),.v (.int .u8 ta6.2.2.2.2.2.2.2.1),.v (.int .u8 ta6.2.2.2.2.2.2.2.2.1),.v (.int .u8 ta6.2.2.2.2.2.2.2.2.2.1),.v (.int .u8 ta6.2.2.2.2.2.2.2.2.2.2.1),.v (.int .u8 ta6.2.2.2.2.2.2.2.2.2.2.2.1),.v (.int .u8 ta6.2.2.2.2.2.2.2.2.2.2.2.2.1),.v (.int .u8 ta6.2.2.2.2.2.2.2.2.2.2.2.2.2.1),.v (.int .u8 ta6.2.2.2.2.2.2.2.2.2.2.2.2.2.2.1),.v (.int .u8 ta6.2.2.2.2.2.2.2.2.2.2.2.2.2.2.2.1),.v (.int .u8 ta6.2.2.2.2.2.2.2.2.2.2.2.2.2.2.2.2.1),.v (.int .u8 ta6.2.2.2.2.2.2.2.2.2.2.2.2.2.2.2.2.2.1),.v (.int .u8 ta6.2.2.2.2.2.2.2.2.2.2.2.2.2.2.2.2.2.2.1),.v (.int .u8 ta6.2.2.2.2.2.2.2.2.2.2.2.2.2.2.2.2.2.2.2.1),.v (.int .u8 ta6.2.2.2.2.2.2.2.2.2.2.2.2.2.2.2.2.2.2.2.2.1),.v (.int .u8 ta6.2.2.2.2.2.2.2.2.2.2.2.2.2.2.2.2.2.2.2.2.2.1),.v (.int .u8 ta6.2.2.2.2.2.2.2.2.2.2.2.2.2.2.2.2.2.2.2.2.2.2.1),.v (.int .u8 ta6.2.2.2.2.2.2.2.2.2.2.2.2.2.2.2.2.2.2.2.2.2.2.2)],0≤sa.1∧sa.1≤(sa.1+24)∧(sa.1+24)≤((a0).length:Int)∧(a0=[] ∨ 1=1),Qa (sa.1+24),(decide ((((a0).length:Int) - sa.1) ≥ 24))=true,Qa (((a0).length:Int) - sa.1),(decide (sa.1 < ((a0).length:Int)))=true]) (by kernel_rfl) ⟨ha14,(Qz (b:=16) (by kernel_rfl) (by decide) ha15),ha14,(Qy ha13),Qo ZY ha12,ha11,ha10,Qo ZY ha12,ha11,ha10,(decide_eq_true ha9),(eqf ha8),(VN ha7),qA (Qn ha6),ha5,ha4,(decide_eq_true ha3),ha2,(decide_eq_true ha1),trivial⟩⟩
    ·replace h:=Ql h ha9
     obtain ⟨ha10,h⟩:=Qf h
     obtain ⟨ha11,h⟩:=Qf h
     replace h:=Option.some.inj h
     subst h
     exact ⟨100,11,[.br true,.br true,.br true,.ret (.lst false 1 [.v (.int .u8 ta6.1),.v (.int .u8 ta6.2.1),.v (.int .u8 ta6.2.2.1),.v (.int .u8 ta6.2.2.2.1),.v (.int .u8 ta6.2.2.2.2.1),.v (.int .u8 ta6.2.2.2.2.2.1),.v (.int .u8 ta6.2.2.2.2.2.2.1),.v (.int .u8 ta6.2.2.2.2.2.2.2.1),.v (.int .u8 ta6.2.2.2.2.2.2.2.2.1),.v (.int .u8 ta6.2.2.2.2.2.2.2.2.2.1),.v (.int .u8 ta6.2.2.2.2.2.2.2.2.2.2.1),.v (.int .u8 ta6.2.2.2.2.2.2.2.2.2.2.2.1),.v (.int .u8 ta6.2.2.2.2.2.2.2.2.2.2.2.2.1),.v (.int .u8 ta6.2.2.2.2.2.2.2.2.2.2.2.2.2.1),.v (.int .u8 ta6.2.2.2.2.2.2.2.2.2.2.2.2.2.2.1),.v (.int .u8 ta6.2.2.2.2.2.2.2.2.2.2.2.2.2.2.2.1),.v (.int .u8 ta6.2.2.2.2.2.2.2.2.2.2.2.2.2.2.2.2.1),.v (.int .u8 ta6.2.2.2.2.2.2.2.2.2.2.2.2.2.2.2.2.2.1),.v (.int .u8 ta6.2.2.2.2.2.2.2.2.2.2.2.2.2.2.2.2.2.2.1),.v (.int .u8 ta6.2.2.2.2.2.2.2.2.2.2.2.2.2.2.2.2.2.2.2.1),.v (.int .u8 ta6.2.2.2.2.2.2.2.2.2.2.2.2.2.2.2.2.2.2.2.2.1),.v (.int .u8 ta6.2.2.2.2.2.2.2.2.2.2.2.2.2.2.2.2.2.2.2.2.2.1),.v (.int .u8 ta6.2.2.2.2.2.2.2.2.2.2.2.2.2.2.2.2.2.2.2.2.2.2.1),.v (.int .u8 ta6.2.2.2.2.2.2.2.2.2.2.2.2.2.2.2.2.2.2.2.2.2.2.2)]),.ret (.tup [.agg [I ta7.1,I ta7.2.1,I ta7.2.2.1,I ta7.2.2.2.1,I ta7.2.2.2.2.1,I ta7.2.2.2.2.2.1],I ta7.2.2.2.2.2.2]),.br false,.br false,.no,.br true],[],[0,5,6,7],[9,10],Qi (ob:=[Qa (sa.1+1),room cx 69 ((sa.2.2).length+1),Qa (sa.1+1),(decide (((sa.2.2).length:Int) > 0))=false,(ta7.2.2.2.2.2.2 == 0)=false,Computes cx 24 [.agg [.v (.int .u8 ta6.1),.v (.int .u8 ta6.2.1),.v (.int .u8 ta6.2.2.1),.v (.int .u8 ta6.2.2.2.1),.v (.int .u8 ta6.2.2.2.2.1),.v (.int .u8 ta6.2.2.2.2.2.1),.v (.int .u8 ta6.2.2.2.2.2.2.1),.v (.int .u8 ta6.2.2.2.2.2.2.2.1),.v (.int .u8 ta6.2.2.2.2.2.2.2.2.1),.v (.int .u8 ta6.2.2.2.2.2.2.2.2.2.1),.v (.int .u8 ta6.2.2.2.2.2.2.2.2.2.2.1),.v (.int .u8 ta6.2.2.2.2.2.2.2.2.2.2.2.1),.v (.int .u8 ta6.2.2.2.2.2.2.2.2.2.2.2.2.1),.v (.int .u8 ta6.2.2.2.2.2.2.2.2.2.2.2.2.2.1),.v (.int .u8 ta6.2.2.2.2.2.2.2.2.2.2.2.2.2.2.1),.v (.int .u8 ta6.2.2.2.2.2.2.2.2.2.2.2.2.2.2.2.1),.v (.int .u8 ta6.2.2.2.2.2.2.2.2.2.2.2.2.2.2.2.2.1),.v (.int .u8 ta6.2.2.2.2.2.2.2.2.2.2.2.2.2.2.2.2.2.1),.v (.int .u8 ta6.2.2.2.2.2.2.2.2.2.2.2.2.2.2.2.2.2.2.1),.v (.int .u8 ta6.2.2.2.2.2.2.2.2.2.2.2.2.2.2.2.2.2.2.2.1),.v (.int .u8 ta6.2.2.2.2.2.2.2.2.2.2.2.2.2.2.2.2.2.2.2.2.1),.v (.int .u8 ta6.2.2.2.2.2.2.2.2.2.2.2.2.2.2.2.2.2.2.2.2.2.1),.v (.int .u8 ta6.2.2.2.2.2.2.2.2.2.2.2.2.2.2.2.2.2.2.2.2.2.2.1),.v (.int .u8 ta6.2.2.2.2.2.2.2.2.2.2.2.2.2.2.2.2.2.2.2.2.2.2.2)]] (.tup [.agg [I ta7.1,I ta7.2.1,I ta7.2.2.1,I ta7.2.2.2.1,I ta7.2.2.2.2.1,I ta7.2.2.2.2.2.1],I ta7.2.2.2.2.2.2]),List.take 24 ((a0.take (Int.toNat (sa.1+24))).drop (Int.toNat sa.1))=[.v (.int .u8 ta6.1),.v (.int .u8 ta6.2.1),.v (.int .u8 ta6.2.2.1),.v (.int .u8 ta6.2.2.2.1),.v (.int .u8 ta6.2.2.2.2.1),.v (.int .u8 ta6.2.2.2.2.2.1),.v (.int .u8 ta6.2.2.2.2.2.2.1),.v (.int .u8 ta6.2.2.2.2.2.2.2.1),.v (.int .u8 ta6.2.2.2.2.2.2.2.2.1),.v (.int .u8 ta6.2.2.2.2.2.2.2.2.2.1),.v (.int .u8 ta6.2.2.2.2.2.2.2.2.2.2.1),.v (.int .u8 ta6.2.2.2.2.2.2.2.2.2.2.2.1),.v (.int .u8 ta6.2.2.2.2.2.2.2.2.2.2.2.2.1),.v (.int .u8 ta6.2.2.2.2.2.2.2.2.2.2.2.2.2.1),.v (.int .u8 ta6.2.2.2.2.2.2.2.2.2.2.2.2.2.2.1),.v (.int .u8 ta6.2.2.2.2.2.2.2.2.2.2.2.2.2.2.2.1),.v (.int .u8 ta6.2.2.2.2.2.2.2.2.2.2.2.2.2.2.2.2.1),.v (.int .u8 ta6.2.2.2.2.2.2.2.2.2.2.2.2.2.2.2.2.2.1),.v (.int .u8 ta6.2.2.2.2.2.2.2.2.2.2.2.2.2.2.2.2.2.2.1),.v (.int .u8 ta6.2.2.2.2.2.2.2.2.2.2.2.2.2.2.2.2.2.2.2.1),.v (.int .u8 ta6.2.2.2.2.2.2.2.2.2.2.2.2.2.2.2.2.2.2.2.2.1),.v (.int .u8 ta6.2.2.2.2.2.2.2.2.2.2.2.2.2.2.2.2.2.2.2.2.2.1),.v (.int .u8 ta6.2.2.2.2.2.2.2.2.2.2.2.2.2.2.2.2.2.2.2.2.2.2.1),.v (.int .u8 ta6.2.2.2.2.2.2.2.2.2.2.2.2.2.2.2.2.2.2.2.2.2.2.2)],0≤sa.1∧sa.1≤(sa.1+24)∧(sa.1+24)≤((a0).length:Int)∧(a0=[] ∨ 1=1),Qa (sa.1+24),(decide ((((a0).length:Int) - sa.1) ≥ 24))=true,Qa (((a0).length:Int) - sa.1),(decide (sa.1 < ((a0).length:Int)))=true]) (by kernel_rfl) ⟨ha10,(Qz (b:=16) (by kernel_rfl) (by decide) ha11),ha10,(decide_eq_false ha9),(eqf ha8),(VN ha7),qA (Qn ha6),ha5,ha4,(decide_eq_true ha3),ha2,(decide_eq_true ha1),trivial⟩⟩
  ·replace h:=Ql h ha3
   by_cases ha4:((sa.2.2).length:Int) > 0
   ·replace h:=Qk h ha4
    obtain ⟨ha5,h⟩:=Qf h
    obtain ⟨ha6,h⟩:=Qf h
    obtain ⟨ta7,ha7,h⟩:=Qe h
    by_cases ha8:((ta7.1 == ta7.1) && ((ta7.2 == sa.1) && true))=true
    ·replace h:=Qk h ha8
     obtain ⟨ha9,h⟩:=Qf h
     obtain ⟨ha10,h⟩:=Qf h
     replace h:=Option.some.inj h
     subst h
     exact ⟨100,11,[.br true,.br false,.br true,.br true,.el (.agg [I ta7.1,I ta7.2]),.br true,.el (.agg [I ta7.1,I ta7.2]),.br true,.br true,.el (.agg [I ta7.1,I ta7.2]),.br true,.el (.agg [I ta7.1,I ta7.2])],[],[0,5,6,7],[9,10],Qi (ob:=[Qa (sa.1+1),nth (sa.2.2) (Int.toNat (((sa.2.2).length:Int) - 1))=some (.agg [I ta7.1,I ta7.2]),0≤(((sa.2.2).length:Int) - 1)∧(((sa.2.2).length:Int) - 1) < ((sa.2.2).length:Int),Qa (ta7.2+1),nth (sa.2.2) (Int.toNat (((sa.2.2).length:Int) - 1))=some (.agg [I ta7.1,I ta7.2]),0≤(((sa.2.2).length:Int) - 1)∧(((sa.2.2).length:Int) - 1) < ((sa.2.2).length:Int),Qa (((sa.2.2).length:Int) - 1),((ta7.1 == ta7.1) && ((ta7.2 == sa.1) && true))=true,nth (sa.2.2) (Int.toNat (((sa.2.2).length:Int) - 1))=some (.agg [I ta7.1,I ta7.2]),0≤(((sa.2.2).length:Int) - 1)∧(((sa.2.2).length:Int) - 1) < ((sa.2.2).length:Int),Qa (((sa.2.2).length:Int) - 1),nth (sa.2.2) (Int.toNat (((sa.2.2).length:Int) - 1))=some (.agg [I ta7.1,I ta7.2]),0≤(((sa.2.2).length:Int) - 1)∧(((sa.2.2).length:Int) - 1) < ((sa.2.2).length:Int),Qa (((sa.2.2).length:Int) - 1),(decide (((sa.2.2).length:Int) > 0))=true,(decide ((((a0).length:Int) - sa.1) ≥ 24))=false,Qa (((a0).length:Int) - sa.1),(decide (sa.1 < ((a0).length:Int)))=true]) (by kernel_rfl) ⟨ha10,Qo ZY ha7,ha6,ha9,Qo ZY ha7,ha6,ha5,ha8,Qo ZY ha7,ha6,ha5,Qo ZY ha7,ha6,ha5,(decide_eq_true ha4),(decide_eq_false ha3),ha2,(decide_eq_true ha1),trivial⟩⟩
    ·replace h:=Ql h ha8
     obtain ⟨ha9,h⟩:=Qf h
     obtain ⟨ha10,h⟩:=Qf h
     replace h:=Option.some.inj h
     subst h
     exact ⟨100,11,[.br true,.br false,.br true,.br true,.el (.agg [I ta7.1,I ta7.2]),.br true,.el (.agg [I ta7.1,I ta7.2]),.br false,.br true],[],[0,5,6,7],[9,10],Qi (ob:=[Qa (sa.1+1),room cx 69 ((sa.2.2).length+1),Qa (sa.1+1),((ta7.1 == ta7.1) && ((ta7.2 == sa.1) && true))=false,nth (sa.2.2) (Int.toNat (((sa.2.2).length:Int) - 1))=some (.agg [I ta7.1,I ta7.2]),0≤(((sa.2.2).length:Int) - 1)∧(((sa.2.2).length:Int) - 1) < ((sa.2.2).length:Int),Qa (((sa.2.2).length:Int) - 1),nth (sa.2.2) (Int.toNat (((sa.2.2).length:Int) - 1))=some (.agg [I ta7.1,I ta7.2]),0≤(((sa.2.2).length:Int) - 1)∧(((sa.2.2).length:Int) - 1) < ((sa.2.2).length:Int),Qa (((sa.2.2).length:Int) - 1),(decide (((sa.2.2).length:Int) > 0))=true,(decide ((((a0).length:Int) - sa.1) ≥ 24))=false,Qa (((a0).length:Int) - sa.1),(decide (sa.1 < ((a0).length:Int)))=true]) (by kernel_rfl) ⟨ha9,(Qz (b:=16) (by kernel_rfl) (by decide) ha10),ha9,(Qy ha8),Qo ZY ha7,ha6,ha5,Qo ZY ha7,ha6,ha5,(decide_eq_true ha4),(decide_eq_false ha3),ha2,(decide_eq_true ha1),trivial⟩⟩
   ·replace h:=Ql h ha4
    obtain ⟨ha5,h⟩:=Qf h
    obtain ⟨ha6,h⟩:=Qf h
    replace h:=Option.some.inj h
    subst h
    exact ⟨100,11,[.br true,.br false,.br false,.no,.br true],[],[0,5,6,7],[9,10],Qi (ob:=[Qa (sa.1+1),room cx 69 ((sa.2.2).length+1),Qa (sa.1+1),(decide (((sa.2.2).length:Int) > 0))=false,(decide ((((a0).length:Int) - sa.1) ≥ 24))=false,Qa (((a0).length:Int) - sa.1),(decide (sa.1 < ((a0).length:Int)))=true]) (by kernel_rfl) ⟨ha5,(Qz (b:=16) (by kernel_rfl) (by decide) ha6),ha5,(decide_eq_false ha4),(decide_eq_false ha3),ha2,(decide_eq_true ha1),trivial⟩⟩
 ·replace h:=Ql h ha1
  replace h:=Option.some.inj h
  subst h
  exact ⟨⟨100,11,[.br false],[],[5,6],[9,10],Qi (ob:=[(decide (sa.1 < ((a0).length:Int)))=false]) (by kernel_rfl) ⟨(decide_eq_false ha1),trivial⟩⟩,nofun⟩
def Wh (n:Nat) (a0:List D):Option (List D×List D×Int) :=
 if ((a0).length:Int) > 12288 then
  some ([],[],26)
 else
 (QS (QX n a0) n (0,[],[])).bind fun t2 =>
 some (t2.1,t2.2,0)
theorem Ud {n:Nat} {a0:List D} {r:List D×List D×Int} (h:Wh n a0=some r):Computes cx 8 [.lst false 1 a0] (.tup [.lst false 6 r.1,.lst false 2 r.2.1,I r.2.2]):=by
 unfold Wh at h
 by_cases h1:((a0).length:Int) > 12288
 ·replace h:=Qk h h1
  replace h:=Option.some.inj h
  subst h
  exact (run (n:=100) (f:=8) (args:=[.lst false 1 a0]) (orc:=[.br true]) (r:=.tup [.lst true 0 [],.lst true 0 [],I 26]) (ob:=[(decide (((a0).length:Int) > 12288))=true]) (by kernel_rfl) ⟨(decide_eq_true h1),trivial⟩).le (LEs.refl _) (.tups (.cons (.nilF) (.cons (.nilF) (.cons (.refl _) (.nil)))))
 ·replace h:=Ql h h1
  obtain ⟨t2,h2,h⟩:=Qe h
  replace h:=Option.some.inj h
  subst h
  exact run (n:=100) (f:=8) (args:=[.lst false 1 a0]) (orc:=[.br false,.lp [5,6,6,2] [0,5,6,7] [9,10] (.exit 0) [(5,.own 9 0),(6,.own 10 0)] [(9,.row 0 6 t2.1),(10,.row 0 2 t2.2)] 81]) (r:=.tup [.lst false 6 t2.1,.lst false 2 t2.2,I 0]) (ob:=[QI cx (Qp cx.P 8 0) 82 0 false [(0,.d (.lst false 1 a0)),(5,.own 9 0),(6,.own 10 0),(7,.d (I 0))] [(9,.row 0 6 []),(10,.row 0 2 [])] (.exit 0) [(5,.own 9 0),(6,.own 10 0)] [(9,.row 0 6 t2.1),(10,.row 0 2 t2.2)],(decide (((a0).length:Int) > 12288))=false]) (by kernel_rfl) ⟨(Qx Jk h2),(decide_eq_false h1),trivial⟩
def Q8 (n:Nat) (a0 a1:Int) (a2:List D) (sa:(Int×List D)):Option (((Int×List D))⊕((List D))) :=
 if sa.1 < ((a2).length:Int) then
  (el YB a2 sa.1).bind fun ta2 =>
  (ZK n ta2).bind fun ta3 =>
  if Q5 8 ((sa.2).length+1) then
  if Qa (sa.1+1) then
  some (.inl ((sa.1+1),(sa.2++([I ta3]:List D))))
  else none
  else none
 else
 some (.inr sa.2)
noncomputable def Ja (a0 a1:Int) (a2:List D) (sa:(Int×List D)):List (Nat×AV):=[(1,.ptr 8 0 0 0 0),(3,.own 12 0),(4,.d (I sa.1))]
noncomputable def Jp (a0 a1:Int) (a2:List D) (sa:(Int×List D)):List (Nat×Blk):=[(0,.box (.d (.agg [I a0,I a1,.lst false 1 a2]))),(8,.box (.d (.agg [I a0,I a1,.lst false 1 a2]))),(12,.row 0 1 sa.2)]
noncomputable def KV (a0 a1:Int) (a2:List D) (e:(List D)):Ex:=(.exit 0)
noncomputable def Kt (a0 a1:Int) (a2:List D) (e:(List D)):List (Nat×AV):=[(3,.own 12 0)]
noncomputable def KD (a0 a1:Int) (a2:List D) (e:(List D)):List (Nat×Blk):=[(0,.box (.d (.agg [I a0,I a1,.lst false 1 a2]))),(12,.row 0 1 e)]
theorem Wm {n:Nat} {a0 a1:Int} {a2:List D} (sa:(Int×List D)) (r) (h:Q8 n a0 a1 a2 sa=some r):Rd cx (Qp cx.P 6 0) 22 8 false (Ja a0 a1 a2) (Jp a0 a1 a2) (KV a0 a1 a2) (Kt a0 a1 a2) (KD a0 a1 a2) sa r:=by
 unfold Q8 at h
 by_cases ha1:sa.1 < ((a2).length:Int)
 ·replace h:=Qk h ha1
  obtain ⟨ta2,ha2,h⟩:=Qe h
  obtain ⟨ta3,ha3,h⟩:=Qe h
  obtain ⟨ha4,h⟩:=Qf h
  obtain ⟨ha5,h⟩:=Qf h
  replace h:=Option.some.inj h
  subst h
  exact ⟨100,13,[.br true,.el (.v (.float .f32 ta2)),.ret (I ta3),.br true],[],[1,3,4],[0,8,12],Qi (ob:=[Qa (sa.1+1),room cx 3 ((sa.2).length+1),Computes cx 21 [.v (.float .f32 ta2)] (I ta3),(0:Int)≤sa.1,nth (a2) (Int.toNat sa.1)=some (.v (.float .f32 ta2)),(decide (sa.1 < ((a2).length:Int)))=true]) (by kernel_rfl) ⟨ha5,(Qz (b:=8) (by kernel_rfl) (by decide) ha4),(GW ha3),(Qw QN ha2).1,(Qw QN ha2).2,(decide_eq_true ha1),trivial⟩⟩
 ·replace h:=Ql h ha1
  replace h:=Option.some.inj h
  subst h
  exact ⟨⟨100,13,[.br false],[],[3],[0,12],Qi (ob:=[(decide (sa.1 < ((a2).length:Int)))=false]) (by kernel_rfl) ⟨(decide_eq_false ha1),trivial⟩⟩,nofun⟩
def Zp (n:Nat) (a0 a1:Int) (a2:List D) (a3:Int) (t3:List D) (sa:(List D)):Option (((List D))⊕((List D))) :=
 if Qa (3 * (Int.tdiv (((t3).length:Int)+2) 3)) then
 if ((sa).length:Int) < (3 * (Int.tdiv (((t3).length:Int)+2) 3)) then
  if Q5 8 ((sa).length+1) then
  some (.inl (sa++([I 0]:List D)))
  else none
 else
 some (.inr sa)
 else none
noncomputable def K9 (a0 a1:Int) (a2:List D) (a3:Int) (t3:List D) (sa:(List D)):List (Nat×AV):=[(1,.d (.v (.int .u16 a3))),(2,.ptr 0 0 0 0 0),(5,.own 12 0),(6,.d (I (Int.tdiv (((t3).length:Int)+2) 3)))]
noncomputable def Jo (a0 a1:Int) (a2:List D) (a3:Int) (t3:List D) (sa:(List D)):List (Nat×Blk):=[(0,.box (.d (.agg [I a0,I a1,.lst false 1 a2]))),(12,.row 0 1 sa)]
noncomputable def KU (a0 a1:Int) (a2:List D) (a3:Int) (t3:List D) (e:(List D)):Ex:=(.exit 0)
noncomputable def Ks (a0 a1:Int) (a2:List D) (a3:Int) (t3:List D) (e:(List D)):List (Nat×AV):=[(1,.d (.v (.int .u16 a3))),(2,.ptr 0 0 0 0 0),(5,.own 12 0),(6,.d (I (Int.tdiv (((t3).length:Int)+2) 3)))]
noncomputable def KC (a0 a1:Int) (a2:List D) (a3:Int) (t3:List D) (e:(List D)):List (Nat×Blk):=[(0,.box (.d (.agg [I a0,I a1,.lst false 1 a2]))),(12,.row 0 1 e)]
theorem Wl {n:Nat} {a0 a1:Int} {a2:List D} {a3:Int} {t3:List D} (sa:(List D)) (r) (h:Zp n a0 a1 a2 a3 t3 sa=some r):Rd cx (Qp cx.P 3 0) 358 0 false (K9 a0 a1 a2 a3 t3) (Jo a0 a1 a2 a3 t3) (KU a0 a1 a2 a3 t3) (Ks a0 a1 a2 a3 t3) (KC a0 a1 a2 a3 t3) sa r:=by
 unfold Zp at h
 obtain ⟨ha1,h⟩:=Qf h
 by_cases ha2:((sa).length:Int) < (3 * (Int.tdiv (((t3).length:Int)+2) 3))
 ·replace h:=Qk h ha2
  obtain ⟨ha3,h⟩:=Qf h
  replace h:=Option.some.inj h
  subst h
  exact ⟨100,49,[.br true,.br true],[],[1,2,5,6],[0,12],Qi (ob:=[room cx 3 ((sa).length+1),(decide (((sa).length:Int) < (3 * (Int.tdiv (((t3).length:Int)+2) 3))))=true,Qa (3 * (Int.tdiv (((t3).length:Int)+2) 3))]) (by kernel_rfl) ⟨(Qz (b:=8) (by kernel_rfl) (by decide) ha3),(decide_eq_true ha2),ha1,trivial⟩⟩
 ·replace h:=Ql h ha2
  replace h:=Option.some.inj h
  subst h
  exact ⟨⟨100,49,[.br false],[],[1,2,5,6],[0,12],Qi (ob:=[(decide (((sa).length:Int) < (3 * (Int.tdiv (((t3).length:Int)+2) 3))))=false,Qa (3 * (Int.tdiv (((t3).length:Int)+2) 3))]) (by kernel_rfl) ⟨(decide_eq_false ha2),ha1,trivial⟩⟩,nofun⟩
def QW (n:Nat) (a0 a1:Int) (a2:List D) (a3:Int) (t3 t6:List D) (sa:(Int×List D)):Option (((Int×List D))⊕((List D))) :=
 if sa.1 < (Int.tdiv (((t3).length:Int)+2) 3) then
  if Qa (3 * sa.1) then
  if 0≤(3 * sa.1)∧(3 * sa.1) < ((t6).length:Int) then
  ((nth (t6) (Int.toNat (3 * sa.1))).bind U0).bind fun ta4 =>
  if Qa ((3 * sa.1)+1) then
  if 0≤((3 * sa.1)+1)∧((3 * sa.1)+1) < ((t6).length:Int) then
  ((nth (t6) (Int.toNat ((3 * sa.1)+1))).bind U0).bind fun ta7 =>
  if Qa ((3 * sa.1)+2) then
  if 0≤((3 * sa.1)+2)∧((3 * sa.1)+2) < ((t6).length:Int) then
  ((nth (t6) (Int.toNat ((3 * sa.1)+2))).bind U0).bind fun ta10 =>
  (ZU n 7 sa.1 1 ta4 ta7 ta10).bind fun ta11 =>
  (ZU n 8 sa.1 1 ta4 ta7 ta10).bind fun ta12 =>
  if ta11.2.2.2.2.2.2.2.2.2.2.2.2.2.2.2.2.2.2.2.2.2.2.2.2=0 then
   if ta12.2.2.2.2.2.2.2.2.2.2.2.2.2.2.2.2.2.2.2.2.2.2.2.2=0 then
    if 0≤sa.1 then
    if (IntKind.wrap .u16 (((BitVec.ofInt 16 (Int.fdiv a3 (2 ^ (min (Int.toNat sa.1) 16))) &&& BitVec.ofInt 16 1).toNat:Nat):Int))=0 then
     if Q5 1 ((sa.2).length+24) then
     if Q5 1 (((sa.2++([.v (.int .u8 ta11.1),.v (.int .u8 ta11.2.1),.v (.int .u8 ta11.2.2.1),.v (.int .u8 ta11.2.2.2.1),.v (.int .u8 ta11.2.2.2.2.1),.v (.int .u8 ta11.2.2.2.2.2.1),.v (.int .u8 ta11.2.2.2.2.2.2.1),.v (.int .u8 ta11.2.2.2.2.2.2.2.1),.v (.int .u8 ta11.2.2.2.2.2.2.2.2.1),.v (.int .u8 ta11.2.2.2.2.2.2.2.2.2.1),.v (.int .u8 ta11.2.2.2.2.2.2.2.2.2.2.1),.v (.int .u8 ta11.2.2.2.2.2.2.2.2.2.2.2.1),.v (.int .u8 ta11.2.2.2.2.2.2.2.2.2.2.2.2.1),.v (.int .u8 ta11.2.2.2.2.2.2.2.2.2.2.2.2.2.1),.v (.int .u8 ta11.2.2.2.2.2.2.2.2.2.2.2.2.2.2.1),.v (.int .u8 ta11.2.2.2.2.2.2.2.2.2.2.2.2.2.2.2.1),.v (.int .u8 ta11.2.2.2.2.2.2.2.2.2.2.2.2.2.2.2.2.1),.v (.int .u8 ta11.2.2.2.2.2.2.2.2.2.2.2.2.2.2.2.2.2.1),.v (.int .u8 ta11.2.2.2.2.2.2.2.2.2.2.2.2.2.2.2.2.2.2.1),.v (.int .u8 ta11.2.2.2.2.2.2.2.2.2.2.2.2.2.2.2.2.2.2.2.1),.v (.int .u8 ta11.2.2.2.2.2.2.2.2.2.2.2.2.2.2.2.2.2.2.2.2.1),.v (.int .u8 ta11.2.2.2.2.2.2.2.2.2.2.2.2.2.2.2.2.2.2.2.2.2.1),.v (.int .u8 ta11.2.2.2.2.2.2.2.2.2.2.2.2.2.2.2.2.2.2.2.2.2.2.1),.v (.int .u8 ta11.2.2.2.2.2.2.2.2.2.2.2.2.2.2.2.2.2.2.2.2.2.2.2.1)]:List D)):List D).length+24) then
     if Qa (sa.1+1) then
     some (.inl ((sa.1+1),((sa.2++([.v (.int .u8 ta11.1),.v (.int .u8 ta11.2.1),.v (.int .u8 ta11.2.2.1),.v (.int .u8 ta11.2.2.2.1),.v (.int .u8 ta11.2.2.2.2.1),.v (.int .u8 ta11.2.2.2.2.2.1),.v (.int .u8 ta11.2.2.2.2.2.2.1),.v (.int .u8 ta11.2.2.2.2.2.2.2.1),.v (.int .u8 ta11.2.2.2.2.2.2.2.2.1),.v (.int .u8 ta11.2.2.2.2.2.2.2.2.2.1),.v (.int .u8 ta11.2.2.2.2.2.2.2.2.2.2.1),.v (.int .u8 ta11.2.2.2.2.2.2.2.2.2.2.2.1),.v (.int .u8 ta11.2.2.2.2.2.2.2.2.2.2.2.2.1),.v (.int .u8 ta11.2.2.2.2.2.2.2.2.2.2.2.2.2.1),.v (.int .u8 ta11.2.2.2.2.2.2.2.2.2.2.2.2.2.2.1),.v (.int .u8 ta11.2.2.2.2.2.2.2.2.2.2.2.2.2.2.2.1),.v (.int .u8 ta11.2.2.2.2.2.2.2.2.2.2.2.2.2.2.2.2.1),.v (.int .u8 ta11.2.2.2.2.2.2.2.2.2.2.2.2.2.2.2.2.2.1),.v (.int .u8 ta11.2.2.2.2.2.2.2.2.2.2.2.2.2.2.2.2.2.2.1),.v (.int .u8 ta11.2.2.2.2.2.2.2.2.2.2.2.2.2.2.2.2.2.2.2.1),.v (.int .u8 ta11.2.2.2.2.2.2.2.2.2.2.2.2.2.2.2.2.2.2.2.2.1),.v (.int .u8 ta11.2.2.2.2.2.2.2.2.2.2.2.2.2.2.2.2.2.2.2.2.2.1),.v (.int .u8 ta11.2.2.2.2.2.2.2.2.2.2.2.2.2.2.2.2.2.2.2.2.2.2.1),.v (.int .u8 ta11.2.2.2.2.2.2.2.2.2.2.2.2.2.2.2.2.2.2.2.2.2.2.2.1)]:List D))++([.v (.int .u8 ta12.1),.v (.int .u8 ta12.2.1),.v (.int .u8 ta12.2.2.1),.v (.int .u8 ta12.2.2.2.1),.v (.int .u8 ta12.2.2.2.2.1),.v (.int .u8 ta12.2.2.2.2.2.1),.v (.int .u8 ta12.2.2.2.2.2.2.1),.v (.int .u8 ta12.2.2.2.2.2.2.2.1),.v (.int .u8 ta12.2.2.2.2.2.2.2.2.1),.v (.int .u8 ta12.2.2.2.2.2.2.2.2.2.1),.v (.int .u8 ta12.2.2.2.2.2.2.2.2.2.2.1),.v (.int .u8 ta12.2.2.2.2.2.2.2.2.2.2.2.1),.v (.int .u8 ta12.2.2.2.2.2.2.2.2.2.2.2.2.1),.v (.int .u8 ta12.2.2.2.2.2.2.2.2.2.2.2.2.2.1),.v (.int .u8 ta12.2.2.2.2.2.2.2.2.2.2.2.2.2.2.1),.v (.int .u8 ta12.2.2.2.2.2.2.2.2.2.2.2.2.2.2.2.1),.v (.int .u8 ta12.2.2.2.2.2.2.2.2.2.2.2.2.2.2.2.2.1),.v (.int .u8 ta12.2.2.2.2.2.2.2.2.2.2.2.2.2.2.2.2.2.1),.v (.int .u8 ta12.2.2.2.2.2.2.2.2.2.2.2.2.2.2.2.2.2.2.1),.v (.int .u8 ta12.2.2.2.2.2.2.2.2.2.2.2.2.2.2.2.2.2.2.2.1),.v (.int .u8 ta12.2.2.2.2.2.2.2.2.2.2.2.2.2.2.2.2.2.2.2.2.1),.v (.int .u8 ta12.2.2.2.2.2.2.2.2.2.2.2.2.2.2.2.2.2.2.2.2.2.1),.v (.int .u8 ta12.2.2.2.2.2.2.2.2.2.2.2.2.2.2.2.2.2.2.2.2.2.2.1),.v (.int .u8 ta12.2.2.2.2.2.2.2.2.2.2.2.2.2.2.2.2.2.2.2.2.2.2.2.1)]:List D))))
     else none
     else none
     else none
    else
    if Q5 1 ((sa.2).length+24) then
    if Qa (sa.1+1) then
    some (.inl ((sa.1+1),(sa.2++([.v (.int .u8 ta12.1),.v (.int .u8 ta12.2.1),.v (.int .u8 ta12.2.2.1),.v (.int .u8 ta12.2.2.2.1),.v (.int .u8 ta12.2.2.2.2.1),.v (.int .u8 ta12.2.2.2.2.2.1),.v (.int .u8 ta12.2.2.2.2.2.2.1),.v (.int .u8 ta12.2.2.2.2.2.2.2.1),.v (.int .u8 ta12.2.2.2.2.2.2.2.2.1),.v (.int .u8 ta12.2.2.2.2.2.2.2.2.2.1),.v (.int .u8 ta12.2.2.2.2.2.2.2.2.2.2.1),.v (.int .u8 ta12.2.2.2.2.2.2.2.2.2.2.2.1),.v (.int .u8 ta12.2.2.2.2.2.2.2.2.2.2.2.2.1),.v (.int .u8 ta12.2.2.2.2.2.2.2.2.2.2.2.2.2.1),.v (.int .u8 ta12.2.2.2.2.2.2.2.2.2.2.2.2.2.2.1),.v (.int .u8 ta12.2.2.2.2.2.2.2.2.2.2.2.2.2.2.2.1),.v (.int .u8 ta12.2.2.2.2.2.2.2.2.2.2.2.2.2.2.2.2.1),.v (.int .u8 ta12.2.2.2.2.2.2.2.2.2.2.2.2.2.2.2.2.2.1),.v (.int .u8 ta12.2.2.2.2.2.2.2.2.2.2.2.2.2.2.2.2.2.2.1),.v (.int .u8 ta12.2.2.2.2.2.2.2.2.2.2.2.2.2.2.2.2.2.2.2.1),.v (.int .u8 ta12.2.2.2.2.2.2.2.2.2.2.2.2.2.2.2.2.2.2.2.2.1),.v (.int .u8 ta12.2.2.2.2.2.2.2.2.2.2.2.2.2.2.2.2.2.2.2.2.2.1),.v (.int .u8 ta12.2.2.2.2.2.2.2.2.2.2.2.2.2.2.2.2.2.2.2.2.2.2.1),.v (.int .u8 ta12.2.2.2.2.2.2.2.2.2.2.2.2.2.2.2.2.2.2.2.2.2.2.2.1)]:List D))))
    else none
    else none
    else none
   else
   none
  else
  none
  else none
  else none
  else none
  else none
  else none
  else none
 else
 some (.inr sa.2)
noncomputable def K8 (a0 a1:Int) (a2:List D) (a3:Int) (t3 t6:List D) (sa:(Int×List D)):List (Nat×AV):=[(1,.d (.v (.int .u16 a3))),(2,.ptr 0 0 0 0 0),(5,.own 12 0),(6,.d (I (Int.tdiv (((t3).length:Int)+2) 3))),(7,.own 72 0),(59,.d (I (Int.tdiv (((t3).length:Int)+2) 3))),(60,.d (I sa.1))]
noncomputable def Jn (a0 a1:Int) (a2:List D) (a3:Int) (t3 t6:List D) (sa:(Int×List D)):List (Nat×Blk):=[(0,.box (.d (.agg [I a0,I a1,.lst false 1 a2]))),(12,.row 0 1 t6),(72,.row 0 1 sa.2)]
noncomputable def KT (a0 a1:Int) (a2:List D) (a3:Int) (t3 t6:List D) (e:(List D)):Ex:=(.exit 2)
noncomputable def Kr (a0 a1:Int) (a2:List D) (a3:Int) (t3 t6:List D) (e:(List D)):List (Nat×AV):=[(1,.d (.v (.int .u16 a3))),(2,.ptr 0 0 0 0 0),(5,.own 12 0),(6,.d (I (Int.tdiv (((t3).length:Int)+2) 3))),(7,.own 72 0)]
noncomputable def KB (a0 a1:Int) (a2:List D) (a3:Int) (t3 t6:List D) (e:(List D)):List (Nat×Blk):=[(0,.box (.d (.agg [I a0,I a1,.lst false 1 a2]))),(12,.row 0 1 t6),(72,.row 0 1 e)]
theorem Wk {n:Nat} {a0 a1:Int} {a2:List D} {a3:Int} {t3 t6:List D} (sa:(Int×List D)) (r) (h:QW n a0 a1 a2 a3 t3 t6 sa=some r):Rd cx (Qp cx.P 3 1) 358 0 false (K8 a0 a1 a2 a3 t3 t6) (Jn a0 a1 a2 a3 t3 t6) (KT a0 a1 a2 a3 t3 t6) (Kr a0 a1 a2 a3 t3 t6) (KB a0 a1 a2 a3 t3 t6) sa r:=by
 unfold QW at h
 by_cases ha1:sa.1 < (Int.tdiv (((t3).length:Int)+2) 3)
 ·replace h:=Qk h ha1
  obtain ⟨ha2,h⟩:=Qf h
  obtain ⟨ha3,h⟩:=Qf h
  obtain ⟨ta4,ha4,h⟩:=Qe h
  obtain ⟨ha5,h⟩:=Qf h
  obtain ⟨ha6,h⟩:=Qf h
  obtain ⟨ta7,ha7,h⟩:=Qe h
  obtain ⟨ha8,h⟩:=Qf h
  obtain ⟨ha9,h⟩:=Qf h
  obtain ⟨ta10,ha10,h⟩:=Qe h
  obtain ⟨ta11,ha11,h⟩:=Qe h
  obtain ⟨ta12,ha12,h⟩:=Qe h
  by_cases ha13:ta11.2.2.2.2.2.2.2.2.2.2.2.2.2.2.2.2.2.2.2.2.2.2.2.2=0
  ·replace h:=Qk h ha13
   by_cases ha14:ta12.2.2.2.2.2.2.2.2.2.2.2.2.2.2.2.2.2.2.2.2.2.2.2.2=0
   ·replace h:=Qk h ha14
    obtain ⟨ha15,h⟩:=Qf h
    by_cases ha16:(IntKind.wrap .u16 (((BitVec.ofInt 16 (Int.fdiv a3 (2 ^ (min (Int.toNat sa.1) 16))) &&& BitVec.ofInt 16 1).toNat:Nat):Int))=0
    ·replace h:=Qk h ha16
     obtain ⟨ha17,h⟩:=Qf h
     obtain ⟨ha18,h⟩:=Qf h
     obtain ⟨ha19,h⟩:=Qf h
     replace h:=Option.some.inj h
     subst h
     exact ⟨100,73,[.br true,.br true,.el (I ta4),.br true,.el (I ta7),.br true,.el (I ta10),.ret (.tup [.agg [.v (.int .u8 ta11.1),.v (.int .u8 ta11.2.1),.v (.int .u8 ta11.2.2.1),.v (.int .u8 ta11.2.2.2.1),.v (.int .u8 ta11.2.2.2.2.1),.v (.int .u8 ta11.2.2.2.2.2.1),.v (.int .u8 ta11.2.2.2.2.2.2.1),.v (.int .u8 ta11.2.2.2.2.2.2.2.1),.v (.int .u8 ta11.2.2.2.2.2.2.2.2.1),.v (.int .u8 ta11.2.2.2.2.2.2.2.2.2.1),.v (.int .u8 ta11.2.2.2.2.2.2.2.2.2.2.1),.v (.int .u8 ta11.2.2.2.2.2.2.2.2.2.2.2.1),.v (.int .u8 ta11.2.2.2.2.2.2.2.2.2.2.2.2.1),.v (.int .u8 ta11.2.2.2.2.2.2.2.2.2.2.2.2.2.1),.v (.int .u8 ta11.2.2.2.2.2.2.2.2.2.2.2.2.2.2.1),.v (.int .u8 ta11.2.2.2.2.2.2.2.2.2.2.2.2.2.2.2.1),.v (.int .u8 ta11.2.2.2.2.2.2.2.2.2.2.2.2.2.2.2.2.1),.v (.int .u8 ta11.2.2.2.2.2.2.2.2.2.2.2.2.2.2.2.2.2.1),.v (.int .u8 ta11.2.2.2.2.2.2.2.2.2.2.2.2.2.2.2.2.2.2.1),.v (.int .u8 ta11.2.2.2.2.2.2.2.2.2.2.2.2.2.2.2.2.2.2.2.1),.v (.int .u8 ta11.2.2.2.2.2.2.2.2.2.2.2.2.2.2.2.2.2.2.2.2.1),.v (.int .u8 ta11.2.2.2.2.2.2.2.2.2.2.2.2.2.2.2.2.2.2.2.2.2.1),.v (.int .u8 ta11.2.2.2.2.2.2.2.2.2.2.2.2.2.2.2.2.2.2.2.2.2.2.1),.v (.int .u8 ta11.2.2.2.2.2.2.2.2.2.2.2.2.2.2.2.2.2.2.2.2.2.2.2.1)],I ta11.2.2.2.2.2.2.2.2.2.2.2.2.2.2.2.2.2.2.2.2.2.2.2.2]),.ret (.tup [.agg [.v (.int .u8 ta12.1),.v (.int .u8 ta12.2.1),.v (.int .u8 ta12.2.2.1),.v (.int .u8 ta12.2.2.2.1),.v (.int .u8 ta12.2.2.2.2.1),.v (.int .u8 ta12.2.2.2.2.2.1),.v (.int .u8 ta12.2.2.2.2.2.2.1),.v (.int .u8 ta12.2.2.2.2.2.2.2.1),.v (.int .u8 ta12.2.2.2.2.2.2.2.2.1),.v (.int .u8 ta12.2.2.2.2.2.2.2.2.2.1),.v (.int .u8 ta12.2.2.2.2.2.2.2.2.2.2.1),.v (.int .u8 ta12.2.2.2.2.2.2.2.2.2.2.2.1),.v (.int .u8 ta12.2.2.2.2.2.2.2.2.2.2.2.2.1),.v (.int .u8 ta12.2.2.2.2.2.2.2.2.2.2.2.2.2.1),.v (.int .u8 ta12.2.2.2.2.2.2.2.2.2.2.2.2.2.2.1),.v (.int .u8 ta12.2.2.2.2.2.2.2.2.2.2.2.2.2.2.2.1),.v (.int .u8 ta12.2.2.2.2.2.2.2.2.2.2.2.2.2.2.2.2.1),.v (.int .u8 ta12.2.2.2.2.2.2.2.2.2.2.2.2.2.2.2.2.2.1),.v (.int .u8 ta12.2.2.2.2.2.2.2.2.2.2.2.2.2.2.2.2.2.2.1),.v (.int .u8 ta12.2.2.2.2.2.2.2.2.2.2.2.2.2.2.2.2.2.2.2.1),.v (.int .u8 ta12.2.2.2.2.2.2.2.2.2.2.2.2.2.2.2.2.2.2.2.2.1),.v (.int .u8 ta12.2.2.2.2.2.2.2.2.2.2.2.2.2.2.2.2.2.2.2.2.2.1),.v (.int .u8 ta12.2.2.2.2.2.2.2.2.2.2.2.2.2.2.2.2.2.2.2.2.2.2.1),.v (.int .u8 ta12.2.2.2.2.2.2.2.2.2.2.2.2.2.2.2.2.2.2.2.2.2.2.2.1)],I ta12.2.2.2.2.2.2.2.2.2.2.2.2.2.2.2.2.2.2.2.2.2.2.2.2]),.br false,.br false,.br true,.br true,.br true],[],[1,2,5,6,7,59,60],[0,12,72],Qi (ob:=[Qa (sa.1+1),room cx 5 (((sa.2++([.v (.int .u8 ta11.1),.v (.int .u8 ta11.2.1),.v (.int .u8 ta11.2.2.1),.v (.int .u8 ta11.2.2.2.1),.v (.int .u8 ta11.2.2.2.2.1),.v (.int .u8 ta11.2.2.2.2.2.1),.v (.int .u8 ta11.2.2.2.2.2.2.1),.v (.int .u8 ta11.2.2.2.2.2.2.2.1),.v (.int .u8 ta11.2.2.2.2.2.2.2.2.1),.v (.int .u8 ta11.2.2.2.2.2.2.2.2.2.1),.v (.int .u8 ta11.2.2.2.2.2.2.2.2.2.2.1),.v (.int .u8 ta11.2.2.2.2.2.2.2.2.2.2.2.1),.v (.int .u8 ta11.2.2.2.2.2.2.2.2.2.2.2.2.1),.v (.int .u8 ta11.2.2.2.2.2.2.2.2.2.2.2.2.2.1),.v (.int .u8 ta11.2.2.2.2.2.2.2.2.2.2.2.2.2.2.1),.v (.int .u8 ta11.2.2.2.2.2.2.2.2.2.2.2.2.2.2.2.1),.v (.int .u8 ta11.2.2.2.2.2.2.2.2.2.2.2.2.2.2.2.2.1),.v (.int .u8 ta11.2.2.2.2.2.2.2.2.2.2.2.2.2.2.2.2.2.1),.v (.int .u8 ta11.2.2.2.2.2.2.2.2.2.2.2.2.2.2.2.2.2.2.1),.v (.int .u8 ta11.2.2.2.2.2.2.2.2.2.2.2.2.2.2.2.2.2.2.2.1),.v (.int .u8 ta11.2.2.2.2.2.2.2.2.2.2.2.2.2.2.2.2.2.2.2.2.1),.v (.int .u8 ta11.2.2.2.2.2.2.2.2.2.2.2.2.2.2.2.2.2.2.2.2.2.1),.v (.int .u8 ta11.2.2.2.2.2.2.2.2.2.2.2.2.2.2.2.2.2.2.2.2.2.2.1),.v (.int .u8 ta11.2.2.2.2.2.2.2.2.2.2.2.2.2.2.2.2.2.2.2.2.2.2.2.1)]:List D)):List D).length+24),room cx 5 ((sa.2).length+24),((IntKind.wrap .u16 (((BitVec.ofInt 16 (Int.fdiv a3 (2 ^ (min (Int.toNat sa.1) 16))) &&& BitVec.ofInt 16 1).toNat:Nat):Int)) == 0)=true,0≤sa.1,(ta12.2.2.2.2.2.2.2.2.2.2.2.2.2.2.2.2.2.2.2.2.2.2.2.2 != 0)=false,(ta11.2.2.2.2.2.2.2.2.2.2.2.2.2.2.2.2.2.2.2.2.2.2.2.2 != 0)=false,Computes cx 7 [.agg [I 8,I sa.1,I 1,I ta4,I ta7,I ta10]] (.tup [.agg [.v (.int .u8 ta12.1),.v (.int .u8 ta12.2.1),.v (.int .u8 ta12.2.2.1),.v (.int .u8 ta12.2.2.2.1),.v (.int .u8 ta12.2.2.2.2.1),.v (.int .u8 ta12.2.2.2.2.2.1),.v (.int .u8 ta12.2.2.2.2.2.2.1),.v (.int .u8 ta12.2.2.2.2.2.2.2.1),.v (.int .u8 ta12.2.2.2.2.2.2.2.2.1),.v (.int .u8 ta12.2.2.2.2.2.2.2.2.2.1),.v (.int .u8 ta12.2.2.2.2.2.2.2.2.2.2.1),.v (.int .u8 ta12.2.2.2.2.2.2.2.2.2.2.2.1),.v (.int .u8 ta12.2.2.2.2.2.2.2.2.2.2.2.2.1),.v (.int .u8 ta12.2.2.2.2.2.2.2.2.2.2.2.2.2.1),.v (.int .u8 ta12.2.2.2.2.2.2.2.2.2.2.2.2.2.2.1),.v (.int .u8 ta12.2.2.2.2.2.2.2.2.2.2.2.2.2.2.2.1),.v (.int .u8 ta12.2.2.2.2.2.2.2.2.2.2.2.2.2.2.2.2.1),.v (.int .u8 ta12.2.2.2.2.2.2.2.2.2.2.2.2.2.2.2.2.2.1),.v (.int .u8 ta12.2.2.2.2.2.2.2.2.2.2.2.2.2.2.2.2.2.2.1),.v (.int .u8 ta12.2.2.2.2.2.2.2.2.2.2.2.2.2.2.2.2.2.2.2.1),.v (.int .u8 ta12.2.2.2.2.2.2.2.2.2.2.2.2.2.2.2.2.2.2.2.2.1),.v (.int .u8 ta12.2.2.2.2.2.2.2.2.2.2.2.2.2.2.2.2.2.2.2.2.2.1),.v (.int .u8 ta12.2.2.2.2.2.2.2.2.2.2.2.2.2.2.2.2.2.2.2.2.2.2.1),.v (.int .u8 ta12.2.2.2.2.2.2.2.2.2.2.2.2.2.2.2.2.2.2.2.2.2.2.2.1)],I ta12.2.2.2.2.2.2.2.2.2.2.2.2.2.2.2.2.2.2.2.2.2.2.2.2]),Computes cx 7 [.agg [I 7,I sa.1,I 1,I ta4,I ta7,I ta10]] (.tup [.agg [.v (.int .u8 ta11.1),.v (.int .u8 ta11.2.1),.v (.int .u8 ta11.2.2.1),.v (.int .u8 ta11.2.2.2.1),.v (.int .u8 ta11.2.2.2.2.1),.v (.int .u8 ta11.2.2.2.2.2.1),.v (.int .u8 ta11.2.2.2.2.2.2.1),.v (.int .u8 ta11.2.2.2.2.2.2.2.1),.v (.int .u8 ta11.2.2.2.2.2.2.2.2.1),.v (.int .u8 ta11.2.2.2.2.2.2.2.2.2.1),.v (.int .u8 ta11.2.2.2.2.2.2.2.2.2.2.1),.v (.int .u8 ta11.2.2.2.2.2.2.2.2.2.2.2.1),.v (.int .u8 ta11.2.2.2.2.2.2.2.2.2.2.2.2.1),.v (.int .u8 ta11.2.2.2.2.2.2.2.2.2.2.2.2.2.1),.v (.int .u8 ta11.2.2.2.2.2.2.2.2.2.2.2.2.2.2.1),.v (.int .u8 ta11.2.2.2.2.2.2.2.2.2.2.2.2.2.2.2.1),.v (.int .u8 ta11.2.2.2.2.2.2.2.2.2.2.2.2.2.2.2.2.1),.v (.int .u8 ta11.2.2.2.2.2.2.2.2.2.2.2.2.2.2.2.2.2.1),.v (.int .u8 ta11.2.2.2.2.2.2.2.2.2.2.2.2.2.2.2.2.2.2.1),.v (.int .u8 ta11.2.2.2.2.2.2.2.2.2.2.2.2.2.2.2.2.2.2.2.1),.v (.int .u8 ta11.2.2.2.2.2.2.2.2.2.2.2.2.2.2.2.2.2.2.2.2.1),.v (.int .u8 ta11.2.2.2.2.2.2.2.2.2.2.2.2.2.2.2.2.2.2.2.2.2.1),.v (.int .u8 ta11.2.2.2.2.2.2.2.2.2.2.2.2.2.2.2.2.2.2.2.2.2.2.1),.v (.int .u8 ta11.2.2.2.2.2.2.2.2.2.2.2.2.2.2.2.2.2.2.2.2.2.2.2.1)],I ta11.2.2.2.2.2.2.2.2.2.2.2.2.2.2.2.2.2.2.2.2.2.2.2.2]),nth (t6) (Int.toNat ((3 * sa.1)+2))=some (I ta10),0≤((3 * sa.1)+2)∧((3 * sa.1)+2) < ((t6).length:Int),Qa ((3 * sa.1)+2),Qa (3 * sa.1),nth (t6) (Int.toNat ((3 * sa.1)+1))=some (I ta7),0≤((3 * sa.1)+1)∧((3 * sa.1)+1) < ((t6).length:Int),Qa ((3 * sa.1)+1),Qa (3 * sa.1),nth (t6) (Int.toNat (3 * sa.1))=some (I ta4),0≤(3 * sa.1)∧(3 * sa.1) < ((t6).length:Int),Qa (3 * sa.1),(decide (sa.1 < (Int.tdiv (((t3).length:Int)+2) 3)))=true]) (by kernel_rfl) ⟨ha19,(Qz (b:=1) (by kernel_rfl) (by decide) ha18),(Qz (b:=1) (by kernel_rfl) (by decide) ha17),(eqt ha16),ha15,(nef ha14),(nef ha13),(VM ha12),(VM ha11),Qo Qm ha10,ha9,ha8,ha2,Qo Qm ha7,ha6,ha5,ha2,Qo Qm ha4,ha3,ha2,(decide_eq_true ha1),trivial⟩⟩
    ·replace h:=Ql h ha16
     obtain ⟨ha17,h⟩:=Qf h
     obtain ⟨ha18,h⟩:=Qf h
     replace h:=Option.some.inj h
     subst h
     exact ⟨100,73,[.br true,.br true,.el (I ta4),.br true,.el (I ta7),.br true,.el (I ta10),.ret (.tup [.agg [.v (.int .u8 ta11.1),.v (.int .u8 ta11.2.1),.v (.int .u8 ta11.2.2.1),.v (.int .u8 ta11.2.2.2.1),.v (.int .u8 ta11.2.2.2.2.1),.v (.int .u8 ta11.2.2.2.2.2.1),.v (.int .u8 ta11.2.2.2.2.2.2.1),.v (.int .u8 ta11.2.2.2.2.2.2.2.1),.v (.int .u8 ta11.2.2.2.2.2.2.2.2.1),.v (.int .u8 ta11.2.2.2.2.2.2.2.2.2.1),.v (.int .u8 ta11.2.2.2.2.2.2.2.2.2.2.1),.v (.int .u8 ta11.2.2.2.2.2.2.2.2.2.2.2.1),.v (.int .u8 ta11.2.2.2.2.2.2.2.2.2.2.2.2.1),.v (.int .u8 ta11.2.2.2.2.2.2.2.2.2.2.2.2.2.1),.v (.int .u8 ta11.2.2.2.2.2.2.2.2.2.2.2.2.2.2.1),.v (.int .u8 ta11.2.2.2.2.2.2.2.2.2.2.2.2.2.2.2.1),.v (.int .u8 ta11.2.2.2.2.2.2.2.2.2.2.2.2.2.2.2.2.1),.v (.int .u8 ta11.2.2.2.2.2.2.2.2.2.2.2.2.2.2.2.2.2.1),.v (.int .u8 ta11.2.2.2.2.2.2.2.2.2.2.2.2.2.2.2.2.2.2.1),.v (.int .u8 ta11.2.2.2.2.2.2.2.2.2.2.2.2.2.2.2.2.2.2.2.1),.v (.int .u8 ta11.2.2.2.2.2.2.2.2.2.2.2.2.2.2.2.2.2.2.2.2.1),.v (.int .u8 ta11.2.2.2.2.2.2.2.2.2.2.2.2.2.2.2.2.2.2.2.2.2.1),.v (.int .u8 ta11.2.2.2.2.2.2.2.2.2.2.2.2.2.2.2.2.2.2.2.2.2.2.1),.v (.int .u8 ta11.2.2.2.2.2.2.2.2.2.2.2.2.2.2.2.2.2.2.2.2.2.2.2.1)],I ta11.2.2.2.2.2.2.2.2.2.2.2.2.2.2.2.2.2.2.2.2.2.2.2.2]),.ret (.tup [.agg [.v (.int .u8 ta12.1),.v (.int .u8 ta12.2.1),.v (.int .u8 ta12.2.2.1),.v (.int .u8 ta12.2.2.2.1),.v (.int .u8 ta12.2.2.2.2.1),.v (.int .u8 ta12.2.2.2.2.2.1),.v (.int .u8 ta12.2.2.2.2.2.2.1),.v (.int .u8 ta12.2.2.2.2.2.2.2.1),.v (.int .u8 ta12.2.2.2.2.2.2.2.2.1),.v (.int .u8 ta12.2.2.2.2.2.2.2.2.2.1),.v (.int .u8 ta12.2.2.2.2.2.2.2.2.2.2.1),.v (.int .u8 ta12.2.2.2.2.2.2.2.2.2.2.2.1),.v (.int .u8 ta12.2.2.2.2.2.2.2.2.2.2.2.2.1),.v (.int .u8 ta12.2.2.2.2.2.2.2.2.2.2.2.2.2.1),.v (.int .u8 ta12.2.2.2.2.2.2.2.2.2.2.2.2.2.2.1),.v (.int .u8 ta12.2.2.2.2.2.2.2.2.2.2.2.2.2.2.2.1),.v (.int .u8 ta12.2.2.2.2.2.2.2.2.2.2.2.2.2.2.2.2.1),.v (.int .u8 ta12.2.2.2.2.2.2.2.2.2.2.2.2.2.2.2.2.2.1),.v (.int .u8 ta12.2.2.2.2.2.2.2.2.2.2.2.2.2.2.2.2.2.2.1),.v (.int .u8 ta12.2.2.2.2.2.2.2.2.2.2.2.2.2.2.2.2.2.2.2.1),.v (.int .u8 ta12.2.2.2.2.2.2.2.2.2.2.2.2.2.2.2.2.2.2.2.2.1),.v (.int .u8 ta12.2.2.2.2.2.2.2.2.2.2.2.2.2.2.2.2.2.2.2.2.2.1),.v (.int .u8 ta12.2.2.2.2.2.2.2.2.2.2.2.2.2.2.2.2.2.2.2.2.2.2.1),.v (.int .u8 ta12.2.2.2.2.2.2.2.2.2.2.2.2.2.2.2.2.2.2.2.2.2.2.2.1)],I ta12.2.2.2.2.2.2.2.2.2.2.2.2.2.2.2.2.2.2.2.2.2.2.2.2]),.br false,.br false,.br false,.br true],[],[1,2,5,6,7,59,60],[0,12,72],Qi (ob:=[Qa (sa.1+1),room cx 5 ((sa.2).length+24),((IntKind.wrap .u16 (((BitVec.ofInt 16 (Int.fdiv a3 (2 ^ (min (Int.toNat sa.1) 16))) &&& BitVec.ofInt 16 1).toNat:Nat):Int)) == 0)=false,0≤sa.1,(ta12.2.2.2.2.2.2.2.2.2.2.2.2.2.2.2.2.2.2.2.2.2.2.2.2 != 0)=false,(ta11.2.2.2.2.2.2.2.2.2.2.2.2.2.2.2.2.2.2.2.2.2.2.2.2 != 0)=false,Computes cx 7 [.agg [I 8,I sa.1,I 1,I ta4,I ta7,I ta10]] (.tup [.agg [.v (.int .u8 ta12.1),.v (.int .u8 ta12.2.1),.v (.int .u8 ta12.2.2.1),.v (.int .u8 ta12.2.2.2.1),.v (.int .u8 ta12.2.2.2.2.1),.v (.int .u8 ta12.2.2.2.2.2.1),.v (.int .u8 ta12.2.2.2.2.2.2.1),.v (.int .u8 ta12.2.2.2.2.2.2.2.1),.v (.int .u8 ta12.2.2.2.2.2.2.2.2.1),.v (.int .u8 ta12.2.2.2.2.2.2.2.2.2.1),.v (.int .u8 ta12.2.2.2.2.2.2.2.2.2.2.1),.v (.int .u8 ta12.2.2.2.2.2.2.2.2.2.2.2.1),.v (.int .u8 ta12.2.2.2.2.2.2.2.2.2.2.2.2.1),.v (.int .u8 ta12.2.2.2.2.2.2.2.2.2.2.2.2.2.1),.v (.int .u8 ta12.2.2.2.2.2.2.2.2.2.2.2.2.2.2.1),.v (.int .u8 ta12.2.2.2.2.2.2.2.2.2.2.2.2.2.2.2.1),.v (.int .u8 ta12.2.2.2.2.2.2.2.2.2.2.2.2.2.2.2.2.1),.v (.int .u8 ta12.2.2.2.2.2.2.2.2.2.2.2.2.2.2.2.2.2.1),.v (.int .u8 ta12.2.2.2.2.2.2.2.2.2.2.2.2.2.2.2.2.2.2.1),.v (.int .u8 ta12.2.2.2.2.2.2.2.2.2.2.2.2.2.2.2.2.2.2.2.1),.v (.int .u8 ta12.2.2.2.2.2.2.2.2.2.2.2.2.2.2.2.2.2.2.2.2.1),.v (.int .u8 ta12.2.2.2.2.2.2.2.2.2.2.2.2.2.2.2.2.2.2.2.2.2.1),.v (.int .u8 ta12.2.2.2.2.2.2.2.2.2.2.2.2.2.2.2.2.2.2.2.2.2.2.1),.v (.int .u8 ta12.2.2.2.2.2.2.2.2.2.2.2.2.2.2.2.2.2.2.2.2.2.2.2.1)],I ta12.2.2.2.2.2.2.2.2.2.2.2.2.2.2.2.2.2.2.2.2.2.2.2.2]),Computes cx 7 [.agg [I 7,I sa.1,I 1,I ta4,I ta7,I ta10]] (.tup [.agg [.v (.int .u8 ta11.1),.v (.int .u8 ta11.2.1),.v (.int .u8 ta11.2.2.1),.v (.int .u8 ta11.2.2.2.1),.v (.int .u8 ta11.2.2.2.2.1),.v (.int .u8 ta11.2.2.2.2.2.1),.v (.int .u8 ta11.2.2.2.2.2.2.1),.v (.int .u8 ta11.2.2.2.2.2.2.2.1),.v (.int .u8 ta11.2.2.2.2.2.2.2.2.1),.v (.int .u8 ta11.2.2.2.2.2.2.2.2.2.1),.v (.int .u8 ta11.2.2.2.2.2.2.2.2.2.2.1),.v (.int .u8 ta11.2.2.2.2.2.2.2.2.2.2.2.1),.v (.int .u8 ta11.2.2.2.2.2.2.2.2.2.2.2.2.1),.v (.int .u8 ta11.2.2.2.2.2.2.2.2.2.2.2.2.2.1),.v (.int .u8 ta11.2.2.2.2.2.2.2.2.2.2.2.2.2.2.1),.v (.int .u8 ta11.2.2.2.2.2.2.2.2.2.2.2.2.2.2.2.1),.v (.int .u8 ta11.2.2.2.2.2.2.2.2.2.2.2.2.2.2.2.2.1),.v (.int .u8 ta11.2.2.2.2.2.2.2.2.2.2.2.2.2.2.2.2.2.1),.v (.int .u8 ta11.2.2.2.2.2.2.2.2.2.2.2.2.2.2.2.2.2.2.1),.v (.int .u8 ta11.2.2.2.2.2.2.2.2.2.2.2.2.2.2.2.2.2.2.2.1),.v (.int .u8 ta11.2.2.2.2.2.2.2.2.2.2.2.2.2.2.2.2.2.2.2.2.1),.v (.int .u8 ta11.2.2.2.2.2.2.2.2.2.2.2.2.2.2.2.2.2.2.2.2.2.1),.v (.int .u8 ta11.2.2.2.2.2.2.2.2.2.2.2.2.2.2.2.2.2.2.2.2.2.2.1),.v (.int .u8 ta11.2.2.2.2.2.2.2.2.2.2.2.2.2.2.2.2.2.2.2.2.2.2.2.1)],I ta11.2.2.2.2.2.2.2.2.2.2.2.2.2.2.2.2.2.2.2.2.2.2.2.2]),nth (t6) (Int.toNat ((3 * sa.1)+2))=some (I ta10),0≤((3 * sa.1)+2)∧((3 * sa.1)+2) < ((t6).length:Int),Qa ((3 * sa.1)+2),Qa (3 * sa.1),nth (t6) (Int.toNat ((3 * sa.1)+1))=some (I ta7),0≤((3 * sa.1)+1)∧((3 * sa.1)+1) < ((t6).length:Int),Qa ((3 * sa.1)+1),Qa (3 * sa.1),nth (t6) (Int.toNat (3 * sa.1))=some (I ta4),0≤(3 * sa.1)∧(3 * sa.1) < ((t6).length:Int),Qa (3 * sa.1),(decide (sa.1 < (Int.tdiv (((t3).length:Int)+2) 3)))=true]) (by kernel_rfl) ⟨ha18,(Qz (b:=1) (by kernel_rfl) (by decide) ha17),(eqf ha16),ha15,(nef ha14),(nef ha13),(VM ha12),(VM ha11),Qo Qm ha10,ha9,ha8,ha2,Qo Qm ha7,ha6,ha5,ha2,Qo Qm ha4,ha3,ha2,(decide_eq_true ha1),trivial⟩⟩
   ·replace h:=Ql h ha14
    cases h
  ·replace h:=Ql h ha13
   cases h
 ·replace h:=Ql h ha1
  replace h:=Option.some.inj h
  subst h
  exact ⟨⟨100,73,[.br false],[],[1,2,5,6,7],[0,12,72],Qi (ob:=[(decide (sa.1 < (Int.tdiv (((t3).length:Int)+2) 3)))=false]) (by kernel_rfl) ⟨(decide_eq_false ha1),trivial⟩⟩,nofun⟩
def Qs (n:Nat) (a0 a1:Int) (a2:List D) (a3:Int) (t3 t6:List D) (t10:List D×List D×Int) (sa:(Int×Int×Int×List D×List D×List D)):Option (((Int×Int×Int×List D×List D×List D))⊕((Int×Int×List D×List D×List D))) :=
 if sa.2.2.1 < ((t10.1).length:Int) then
  (el U1 t10.1 sa.2.2.1).bind fun ta2 =>
  if ta2.2.1 < 0 then
   none
  else
  if ta2.2.1 ≥ (Int.tdiv (((t3).length:Int)+2) 3) then
   none
  else
  if ta2.2.2.1=1 then
   if ta2.1=7 then
    if 0≤ta2.2.1∧ta2.2.1 < ((sa.2.2.2.1).length:Int) then
    ((nth (sa.2.2.2.1) (Int.toNat ta2.2.1)).bind un_b).bind fun ta8 =>
    if ta8=true then
     none
    else
    if Qa (3 * ta2.2.1) then
    if 0≤(3 * ta2.2.1)∧(3 * ta2.2.1) < ((t6).length:Int) then
    ((nth (t6) (Int.toNat (3 * ta2.2.1))).bind U0).bind fun ta12 =>
    if Qa ((3 * ta2.2.1)+1) then
    if 0≤((3 * ta2.2.1)+1)∧((3 * ta2.2.1)+1) < ((t6).length:Int) then
    ((nth (t6) (Int.toNat ((3 * ta2.2.1)+1))).bind U0).bind fun ta15 =>
    if Qa ((3 * ta2.2.1)+2) then
    if 0≤((3 * ta2.2.1)+2)∧((3 * ta2.2.1)+2) < ((t6).length:Int) then
    ((nth (t6) (Int.toNat ((3 * ta2.2.1)+2))).bind U0).bind fun ta18 =>
    if ((ta2.2.2.2.1 == ta12) && ((ta2.2.2.2.2.1 == ta15) && ((ta2.2.2.2.2.2 == ta18) && true)))=true then
     if (Int.toNat ta2.2.1) < (sa.2.2.2.1).length then
     if sa.1 < 0 then
      if Qa ((3 * ta2.2.1)+0) then
      if ((3 * ta2.2.1)+0) < ((a2).length:Int) then
       (QG n ta2.2.2.2.1).bind fun ta24 =>
       if 0≤((3 * ta2.2.1)+0)∧((3 * ta2.2.1)+0) < ((sa.2.2.2.2.1).length:Int) then
       if (Int.toNat ((3 * ta2.2.1)+0)) < (sa.2.2.2.2.1).length then
       if 0≤((3 * ta2.2.1)+0)∧((3 * ta2.2.1)+0) < ((sa.2.2.2.2.2).length:Int) then
       if (Int.toNat ((3 * ta2.2.1)+0)) < (sa.2.2.2.2.2).length then
       if ((3 * ta2.2.1)+1) < ((a2).length:Int) then
        (QG n ta2.2.2.2.2.1).bind fun ta30 =>
        if 0≤((3 * ta2.2.1)+1)∧((3 * ta2.2.1)+1) < (((List.set sa.2.2.2.2.1 (Int.toNat ((3 * ta2.2.1)+0)) (.v (.float .f32 ta24):D)):List D).length:Int) then
        if (Int.toNat ((3 * ta2.2.1)+1)) < ((List.set sa.2.2.2.2.1 (Int.toNat ((3 * ta2.2.1)+0)) (.v (.float .f32 ta24):D)):List D).length then
        if 0≤((3 * ta2.2.1)+1)∧((3 * ta2.2.1)+1) < (((List.set sa.2.2.2.2.2 (Int.toNat ((3 * ta2.2.1)+0)) (.v (.float .f32 0):D)):List D).length:Int) then
        if (Int.toNat ((3 * ta2.2.1)+1)) < ((List.set sa.2.2.2.2.2 (Int.toNat ((3 * ta2.2.1)+0)) (.v (.float .f32 0):D)):List D).length then
        if ((3 * ta2.2.1)+2) < ((a2).length:Int) then
         (QG n ta2.2.2.2.2.2).bind fun ta36 =>
         if 0≤((3 * ta2.2.1)+2)∧((3 * ta2.2.1)+2) < (((List.set (List.set sa.2.2.2.2.1 (Int.toNat ((3 * ta2.2.1)+0)) (.v (.float .f32 ta24):D)) (Int.toNat ((3 * ta2.2.1)+1)) (.v (.float .f32 ta30):D)):List D).length:Int) then
         if (Int.toNat ((3 * ta2.2.1)+2)) < ((List.set (List.set sa.2.2.2.2.1 (Int.toNat ((3 * ta2.2.1)+0)) (.v (.float .f32 ta24):D)) (Int.toNat ((3 * ta2.2.1)+1)) (.v (.float .f32 ta30):D)):List D).length then
         if 0≤((3 * ta2.2.1)+2)∧((3 * ta2.2.1)+2) < (((List.set (List.set sa.2.2.2.2.2 (Int.toNat ((3 * ta2.2.1)+0)) (.v (.float .f32 0):D)) (Int.toNat ((3 * ta2.2.1)+1)) (.v (.float .f32 0):D)):List D).length:Int) then
         if (Int.toNat ((3 * ta2.2.1)+2)) < ((List.set (List.set sa.2.2.2.2.2 (Int.toNat ((3 * ta2.2.1)+0)) (.v (.float .f32 0):D)) (Int.toNat ((3 * ta2.2.1)+1)) (.v (.float .f32 0):D)):List D).length then
         if Qa (sa.2.2.1+1) then
         some (.inl (ta2.2.1,ta2.2.1,(sa.2.2.1+1),(List.set sa.2.2.2.1 (Int.toNat ta2.2.1) (B true:D)),(List.set (List.set (List.set sa.2.2.2.2.1 (Int.toNat ((3 * ta2.2.1)+0)) (.v (.float .f32 ta24):D)) (Int.toNat ((3 * ta2.2.1)+1)) (.v (.float .f32 ta30):D)) (Int.toNat ((3 * ta2.2.1)+2)) (.v (.float .f32 ta36):D)),(List.set (List.set (List.set sa.2.2.2.2.2 (Int.toNat ((3 * ta2.2.1)+0)) (.v (.float .f32 0):D)) (Int.toNat ((3 * ta2.2.1)+1)) (.v (.float .f32 0):D)) (Int.toNat ((3 * ta2.2.1)+2)) (.v (.float .f32 0):D))))
         else none
         else none
         else none
         else none
         else none
        else
        if Qa (sa.2.2.1+1) then
        some (.inl (ta2.2.1,ta2.2.1,(sa.2.2.1+1),(List.set sa.2.2.2.1 (Int.toNat ta2.2.1) (B true:D)),(List.set (List.set sa.2.2.2.2.1 (Int.toNat ((3 * ta2.2.1)+0)) (.v (.float .f32 ta24):D)) (Int.toNat ((3 * ta2.2.1)+1)) (.v (.float .f32 ta30):D)),(List.set (List.set sa.2.2.2.2.2 (Int.toNat ((3 * ta2.2.1)+0)) (.v (.float .f32 0):D)) (Int.toNat ((3 * ta2.2.1)+1)) (.v (.float .f32 0):D))))
        else none
        else none
        else none
        else none
        else none
       else
       if ((3 * ta2.2.1)+2) < ((a2).length:Int) then
        (QG n ta2.2.2.2.2.2).bind fun ta31 =>
        if 0≤((3 * ta2.2.1)+2)∧((3 * ta2.2.1)+2) < (((List.set sa.2.2.2.2.1 (Int.toNat ((3 * ta2.2.1)+0)) (.v (.float .f32 ta24):D)):List D).length:Int) then
        if (Int.toNat ((3 * ta2.2.1)+2)) < ((List.set sa.2.2.2.2.1 (Int.toNat ((3 * ta2.2.1)+0)) (.v (.float .f32 ta24):D)):List D).length then
        if 0≤((3 * ta2.2.1)+2)∧((3 * ta2.2.1)+2) < (((List.set sa.2.2.2.2.2 (Int.toNat ((3 * ta2.2.1)+0)) (.v (.float .f32 0):D)):List D).length:Int) then
        if (Int.toNat ((3 * ta2.2.1)+2)) < ((List.set sa.2.2.2.2.2 (Int.toNat ((3 * ta2.2.1)+0)) (.v (.float .f32 0):D)):List D).length then
        if Qa (sa.2.2.1+1) then
        some (.inl (ta2.2.1,ta2.2.1,(sa.2.2.1+1),(List.set sa.2.2.2.1 (Int.toNat ta2.2.1) (B true:D)),(List.set (List.set sa.2.2.2.2.1 (Int.toNat ((3 * ta2.2.1)+0)) (.v (.float .f32 ta24):D)) (Int.toNat ((3 * ta2.2.1)+2)) (.v (.float .f32 ta31):D)),(List.set (List.set sa.2.2.2.2.2 (Int.toNat ((3 * ta2.2.1)+0)) (.v (.float .f32 0):D)) (Int.toNat ((3 * ta2.2.1)+2)) (.v (.float .f32 0):D))))
        else none
        else none
        else none
        else none
        else none
       else
       if Qa (sa.2.2.1+1) then
       some (.inl (ta2.2.1,ta2.2.1,(sa.2.2.1+1),(List.set sa.2.2.2.1 (Int.toNat ta2.2.1) (B true:D)),(List.set sa.2.2.2.2.1 (Int.toNat ((3 * ta2.2.1)+0)) (.v (.float .f32 ta24):D)),(List.set sa.2.2.2.2.2 (Int.toNat ((3 * ta2.2.1)+0)) (.v (.float .f32 0):D))))
       else none
       else none
       else none
       else none
       else none
      else
      if ((3 * ta2.2.1)+1) < ((a2).length:Int) then
       (QG n ta2.2.2.2.2.1).bind fun ta25 =>
       if 0≤((3 * ta2.2.1)+1)∧((3 * ta2.2.1)+1) < ((sa.2.2.2.2.1).length:Int) then
       if (Int.toNat ((3 * ta2.2.1)+1)) < (sa.2.2.2.2.1).length then
       if 0≤((3 * ta2.2.1)+1)∧((3 * ta2.2.1)+1) < ((sa.2.2.2.2.2).length:Int) then
       if (Int.toNat ((3 * ta2.2.1)+1)) < (sa.2.2.2.2.2).length then
       if ((3 * ta2.2.1)+2) < ((a2).length:Int) then
        (QG n ta2.2.2.2.2.2).bind fun ta31 =>
        if 0≤((3 * ta2.2.1)+2)∧((3 * ta2.2.1)+2) < (((List.set sa.2.2.2.2.1 (Int.toNat ((3 * ta2.2.1)+1)) (.v (.float .f32 ta25):D)):List D).length:Int) then
        if (Int.toNat ((3 * ta2.2.1)+2)) < ((List.set sa.2.2.2.2.1 (Int.toNat ((3 * ta2.2.1)+1)) (.v (.float .f32 ta25):D)):List D).length then
        if 0≤((3 * ta2.2.1)+2)∧((3 * ta2.2.1)+2) < (((List.set sa.2.2.2.2.2 (Int.toNat ((3 * ta2.2.1)+1)) (.v (.float .f32 0):D)):List D).length:Int) then
        if (Int.toNat ((3 * ta2.2.1)+2)) < ((List.set sa.2.2.2.2.2 (Int.toNat ((3 * ta2.2.1)+1)) (.v (.float .f32 0):D)):List D).length then
        if Qa (sa.2.2.1+1) then
        some (.inl (ta2.2.1,ta2.2.1,(sa.2.2.1+1),(List.set sa.2.2.2.1 (Int.toNat ta2.2.1) (B true:D)),(List.set (List.set sa.2.2.2.2.1 (Int.toNat ((3 * ta2.2.1)+1)) (.v (.float .f32 ta25):D)) (Int.toNat ((3 * ta2.2.1)+2)) (.v (.float .f32 ta31):D)),(List.set (List.set sa.2.2.2.2.2 (Int.toNat ((3 * ta2.2.1)+1)) (.v (.float .f32 0):D)) (Int.toNat ((3 * ta2.2.1)+2)) (.v (.float .f32 0):D))))
        else none
        else none
        else none
        else none
        else none
       else
       if Qa (sa.2.2.1+1) then
       some (.inl (ta2.2.1,ta2.2.1,(sa.2.2.1+1),(List.set sa.2.2.2.1 (Int.toNat ta2.2.1) (B true:D)),(List.set sa.2.2.2.2.1 (Int.toNat ((3 * ta2.2.1)+1)) (.v (.float .f32 ta25):D)),(List.set sa.2.2.2.2.2 (Int.toNat ((3 * ta2.2.1)+1)) (.v (.float .f32 0):D))))
       else none
       else none
       else none
       else none
       else none
      else
      if ((3 * ta2.2.1)+2) < ((a2).length:Int) then
       (QG n ta2.2.2.2.2.2).bind fun ta26 =>
       if 0≤((3 * ta2.2.1)+2)∧((3 * ta2.2.1)+2) < ((sa.2.2.2.2.1).length:Int) then
       if (Int.toNat ((3 * ta2.2.1)+2)) < (sa.2.2.2.2.1).length then
       if 0≤((3 * ta2.2.1)+2)∧((3 * ta2.2.1)+2) < ((sa.2.2.2.2.2).length:Int) then
       if (Int.toNat ((3 * ta2.2.1)+2)) < (sa.2.2.2.2.2).length then
       if Qa (sa.2.2.1+1) then
       some (.inl (ta2.2.1,ta2.2.1,(sa.2.2.1+1),(List.set sa.2.2.2.1 (Int.toNat ta2.2.1) (B true:D)),(List.set sa.2.2.2.2.1 (Int.toNat ((3 * ta2.2.1)+2)) (.v (.float .f32 ta26):D)),(List.set sa.2.2.2.2.2 (Int.toNat ((3 * ta2.2.1)+2)) (.v (.float .f32 0):D))))
       else none
       else none
       else none
       else none
       else none
      else
      if Qa (sa.2.2.1+1) then
      some (.inl (ta2.2.1,ta2.2.1,(sa.2.2.1+1),(List.set sa.2.2.2.1 (Int.toNat ta2.2.1) (B true:D)),sa.2.2.2.2.1,sa.2.2.2.2.2))
      else none
      else none
     else
     if Qa ((3 * ta2.2.1)+0) then
     if ((3 * ta2.2.1)+0) < ((a2).length:Int) then
      (QG n ta2.2.2.2.1).bind fun ta24 =>
      if 0≤((3 * ta2.2.1)+0)∧((3 * ta2.2.1)+0) < ((sa.2.2.2.2.1).length:Int) then
      if (Int.toNat ((3 * ta2.2.1)+0)) < (sa.2.2.2.2.1).length then
      if 0≤((3 * ta2.2.1)+0)∧((3 * ta2.2.1)+0) < ((sa.2.2.2.2.2).length:Int) then
      if (Int.toNat ((3 * ta2.2.1)+0)) < (sa.2.2.2.2.2).length then
      if ((3 * ta2.2.1)+1) < ((a2).length:Int) then
       (QG n ta2.2.2.2.2.1).bind fun ta30 =>
       if 0≤((3 * ta2.2.1)+1)∧((3 * ta2.2.1)+1) < (((List.set sa.2.2.2.2.1 (Int.toNat ((3 * ta2.2.1)+0)) (.v (.float .f32 ta24):D)):List D).length:Int) then
       if (Int.toNat ((3 * ta2.2.1)+1)) < ((List.set sa.2.2.2.2.1 (Int.toNat ((3 * ta2.2.1)+0)) (.v (.float .f32 ta24):D)):List D).length then
       if 0≤((3 * ta2.2.1)+1)∧((3 * ta2.2.1)+1) < (((List.set sa.2.2.2.2.2 (Int.toNat ((3 * ta2.2.1)+0)) (.v (.float .f32 0):D)):List D).length:Int) then
       if (Int.toNat ((3 * ta2.2.1)+1)) < ((List.set sa.2.2.2.2.2 (Int.toNat ((3 * ta2.2.1)+0)) (.v (.float .f32 0):D)):List D).length then
       if ((3 * ta2.2.1)+2) < ((a2).length:Int) then
        (QG n ta2.2.2.2.2.2).bind fun ta36 =>
        if 0≤((3 * ta2.2.1)+2)∧((3 * ta2.2.1)+2) < (((List.set (List.set sa.2.2.2.2.1 (Int.toNat ((3 * ta2.2.1)+0)) (.v (.float .f32 ta24):D)) (Int.toNat ((3 * ta2.2.1)+1)) (.v (.float .f32 ta30):D)):List D).length:Int) then
        if (Int.toNat ((3 * ta2.2.1)+2)) < ((List.set (List.set sa.2.2.2.2.1 (Int.toNat ((3 * ta2.2.1)+0)) (.v (.float .f32 ta24):D)) (Int.toNat ((3 * ta2.2.1)+1)) (.v (.float .f32 ta30):D)):List D).length then
        if 0≤((3 * ta2.2.1)+2)∧((3 * ta2.2.1)+2) < (((List.set (List.set sa.2.2.2.2.2 (Int.toNat ((3 * ta2.2.1)+0)) (.v (.float .f32 0):D)) (Int.toNat ((3 * ta2.2.1)+1)) (.v (.float .f32 0):D)):List D).length:Int) then
        if (Int.toNat ((3 * ta2.2.1)+2)) < ((List.set (List.set sa.2.2.2.2.2 (Int.toNat ((3 * ta2.2.1)+0)) (.v (.float .f32 0):D)) (Int.toNat ((3 * ta2.2.1)+1)) (.v (.float .f32 0):D)):List D).length then
        if Qa (sa.2.2.1+1) then
        some (.inl (sa.1,ta2.2.1,(sa.2.2.1+1),(List.set sa.2.2.2.1 (Int.toNat ta2.2.1) (B true:D)),(List.set (List.set (List.set sa.2.2.2.2.1 (Int.toNat ((3 * ta2.2.1)+0)) (.v (.float .f32 ta24):D)) (Int.toNat ((3 * ta2.2.1)+1)) (.v (.float .f32 ta30):D)) (Int.toNat ((3 * ta2.2.1)+2)) (.v (.float .f32 ta36):D)),(List.set (List.set (List.set sa.2.2.2.2.2 (Int.toNat ((3 * ta2.2.1)+0)) (.v (.float .f32 0):D)) (Int.toNat ((3 * ta2.2.1)+1)) (.v (.float .f32 0):D)) (Int.toNat ((3 * ta2.2.1)+2)) (.v (.float .f32 0):D))))
        else none
        else none
        else none
        else none
        else none
       else
       if Qa (sa.2.2.1+1) then
       some (.inl (sa.1,ta2.2.1,(sa.2.2.1+1),(List.set sa.2.2.2.1 (Int.toNat ta2.2.1) (B true:D)),(List.set (List.set sa.2.2.2.2.1 (Int.toNat ((3 * ta2.2.1)+0)) (.v (.float .f32 ta24):D)) (Int.toNat ((3 * ta2.2.1)+1)) (.v (.float .f32 ta30):D)),(List.set (List.set sa.2.2.2.2.2 (Int.toNat ((3 * ta2.2.1)+0)) (.v (.float .f32 0):D)) (Int.toNat ((3 * ta2.2.1)+1)) (.v (.float .f32 0):D))))
       else none
       else none
       else none
       else none
       else none
      else
      if ((3 * ta2.2.1)+2) < ((a2).length:Int) then
       (QG n ta2.2.2.2.2.2).bind fun ta31 =>
       if 0≤((3 * ta2.2.1)+2)∧((3 * ta2.2.1)+2) < (((List.set sa.2.2.2.2.1 (Int.toNat ((3 * ta2.2.1)+0)) (.v (.float .f32 ta24):D)):List D).length:Int) then
       if (Int.toNat ((3 * ta2.2.1)+2)) < ((List.set sa.2.2.2.2.1 (Int.toNat ((3 * ta2.2.1)+0)) (.v (.float .f32 ta24):D)):List D).length then
       if 0≤((3 * ta2.2.1)+2)∧((3 * ta2.2.1)+2) < (((List.set sa.2.2.2.2.2 (Int.toNat ((3 * ta2.2.1)+0)) (.v (.float .f32 0):D)):List D).length:Int) then
       if (Int.toNat ((3 * ta2.2.1)+2)) < ((List.set sa.2.2.2.2.2 (Int.toNat ((3 * ta2.2.1)+0)) (.v (.float .f32 0):D)):List D).length then
       if Qa (sa.2.2.1+1) then
       some (.inl (sa.1,ta2.2.1,(sa.2.2.1+1),(List.set sa.2.2.2.1 (Int.toNat ta2.2.1) (B true:D)),(List.set (List.set sa.2.2.2.2.1 (Int.toNat ((3 * ta2.2.1)+0)) (.v (.float .f32 ta24):D)) (Int.toNat ((3 * ta2.2.1)+2)) (.v (.float .f32 ta31):D)),(List.set (List.set sa.2.2.2.2.2 (Int.toNat ((3 * ta2.2.1)+0)) (.v (.float .f32 0):D)) (Int.toNat ((3 * ta2.2.1)+2)) (.v (.float .f32 0):D))))
       else none
       else none
       else none
       else none
       else none
      else
      if Qa (sa.2.2.1+1) then
      some (.inl (sa.1,ta2.2.1,(sa.2.2.1+1),(List.set sa.2.2.2.1 (Int.toNat ta2.2.1) (B true:D)),(List.set sa.2.2.2.2.1 (Int.toNat ((3 * ta2.2.1)+0)) (.v (.float .f32 ta24):D)),(List.set sa.2.2.2.2.2 (Int.toNat ((3 * ta2.2.1)+0)) (.v (.float .f32 0):D))))
      else none
      else none
      else none
      else none
      else none
     else
     if ((3 * ta2.2.1)+1) < ((a2).length:Int) then
      (QG n ta2.2.2.2.2.1).bind fun ta25 =>
      if 0≤((3 * ta2.2.1)+1)∧((3 * ta2.2.1)+1) < ((sa.2.2.2.2.1).length:Int) then
      if (Int.toNat ((3 * ta2.2.1)+1)) < (sa.2.2.2.2.1).length then
      if 0≤((3 * ta2.2.1)+1)∧((3 * ta2.2.1)+1) < ((sa.2.2.2.2.2).length:Int) then
      if (Int.toNat ((3 * ta2.2.1)+1)) < (sa.2.2.2.2.2).length then
      if ((3 * ta2.2.1)+2) < ((a2).length:Int) then
       (QG n ta2.2.2.2.2.2).bind fun ta31 =>
       if 0≤((3 * ta2.2.1)+2)∧((3 * ta2.2.1)+2) < (((List.set sa.2.2.2.2.1 (Int.toNat ((3 * ta2.2.1)+1)) (.v (.float .f32 ta25):D)):List D).length:Int) then
       if (Int.toNat ((3 * ta2.2.1)+2)) < ((List.set sa.2.2.2.2.1 (Int.toNat ((3 * ta2.2.1)+1)) (.v (.float .f32 ta25):D)):List D).length then
       if 0≤((3 * ta2.2.1)+2)∧((3 * ta2.2.1)+2) < (((List.set sa.2.2.2.2.2 (Int.toNat ((3 * ta2.2.1)+1)) (.v (.float .f32 0):D)):List D).length:Int) then
       if (Int.toNat ((3 * ta2.2.1)+2)) < ((List.set sa.2.2.2.2.2 (Int.toNat ((3 * ta2.2.1)+1)) (.v (.float .f32 0):D)):List D).length then
       if Qa (sa.2.2.1+1) then
       some (.inl (sa.1,ta2.2.1,(sa.2.2.1+1),(List.set sa.2.2.2.1 (Int.toNat ta2.2.1) (B true:D)),(List.set (List.set sa.2.2.2.2.1 (Int.toNat ((3 * ta2.2.1)+1)) (.v (.float .f32 ta25):D)) (Int.toNat ((3 * ta2.2.1)+2)) (.v (.float .f32 ta31):D)),(List.set (List.set sa.2.2.2.2.2 (Int.toNat ((3 * ta2.2.1)+1)) (.v (.float .f32 0):D)) (Int.toNat ((3 * ta2.2.1)+2)) (.v (.float .f32 0):D))))
       else none
       else none
       else none
       else none
       else none
      else
      if Qa (sa.2.2.1+1) then
      some (.inl (sa.1,ta2.2.1,(sa.2.2.1+1),(List.set sa.2.2.2.1 (Int.toNat ta2.2.1) (B true:D)),(List.set sa.2.2.2.2.1 (Int.toNat ((3 * ta2.2.1)+1)) (.v (.float .f32 ta25):D)),(List.set sa.2.2.2.2.2 (Int.toNat ((3 * ta2.2.1)+1)) (.v (.float .f32 0):D))))
      else none
      else none
      else none
      else none
      else none
     else
     if ((3 * ta2.2.1)+2) < ((a2).length:Int) then
      (QG n ta2.2.2.2.2.2).bind fun ta26 =>
      if 0≤((3 * ta2.2.1)+2)∧((3 * ta2.2.1)+2) < ((sa.2.2.2.2.1).length:Int) then
      if (Int.toNat ((3 * ta2.2.1)+2)) < (sa.2.2.2.2.1).length then
      if 0≤((3 * ta2.2.1)+2)∧((3 * ta2.2.1)+2) < ((sa.2.2.2.2.2).length:Int) then
      if (Int.toNat ((3 * ta2.2.1)+2)) < (sa.2.2.2.2.2).length then
      if Qa (sa.2.2.1+1) then
      some (.inl (sa.1,ta2.2.1,(sa.2.2.1+1),(List.set sa.2.2.2.1 (Int.toNat ta2.2.1) (B true:D)),(List.set sa.2.2.2.2.1 (Int.toNat ((3 * ta2.2.1)+2)) (.v (.float .f32 ta26):D)),(List.set sa.2.2.2.2.2 (Int.toNat ((3 * ta2.2.1)+2)) (.v (.float .f32 0):D))))
      else none
      else none
      else none
      else none
      else none
     else
     if Qa (sa.2.2.1+1) then
     some (.inl (sa.1,ta2.2.1,(sa.2.2.1+1),(List.set sa.2.2.2.1 (Int.toNat ta2.2.1) (B true:D)),sa.2.2.2.2.1,sa.2.2.2.2.2))
     else none
     else none
     else none
    else
    none
    else none
    else none
    else none
    else none
    else none
    else none
    else none
   else
   if Qa (sa.2.2.1+1) then
   some (.inl (sa.1,sa.2.1,(sa.2.2.1+1),sa.2.2.2.1,sa.2.2.2.2.1,sa.2.2.2.2.2))
   else none
  else
  none
 else
 some (.inr (sa.1,sa.2.1,sa.2.2.2.1,sa.2.2.2.2.1,sa.2.2.2.2.2))
noncomputable def K7 (a0 a1:Int) (a2:List D) (a3:Int) (t3 t6:List D) (t10:List D×List D×Int) (sa:(Int×Int×Int×List D×List D×List D)):List (Nat×AV):=[(1,.d (.v (.int .u16 a3))),(2,.ptr 0 0 0 0 0),(5,.own 12 0),(6,.d (I (Int.tdiv (((t3).length:Int)+2) 3))),(14,.d (.lst false 6 t10.1)),(17,.own 174 0),(18,.ptr 185 0 0 0 0),(19,.ptr 189 0 0 0 0),(20,.d (I sa.1)),(21,.d (I sa.2.1)),(147,.d (.lst false 6 t10.1)),(148,.d (I ((t10.1).length:Int))),(149,.d (I sa.2.2.1))]
noncomputable def Jm (a0 a1:Int) (a2:List D) (a3:Int) (t3 t6:List D) (t10:List D×List D×Int) (sa:(Int×Int×Int×List D×List D×List D)):List (Nat×Blk):=[(0,.box (.d (.agg [I a0,I a1,.lst false 1 a2]))),(12,.row 0 1 t6),(174,.row 0 1 sa.2.2.2.1),(183,.row 0 1 sa.2.2.2.2.1),(185,.box (.agg [.d (I a0),.d (I a1),.own 183 0])),(189,.box (.agg [.d (I a0),.d (I a1),.own 196 0])),(196,.row 0 1 sa.2.2.2.2.2)]
noncomputable def KS (a0 a1:Int) (a2:List D) (a3:Int) (t3 t6:List D) (t10:List D×List D×Int) (e:(Int×Int×List D×List D×List D)):Ex:=(.exit 4)
noncomputable def Kq (a0 a1:Int) (a2:List D) (a3:Int) (t3 t6:List D) (t10:List D×List D×Int) (e:(Int×Int×List D×List D×List D)):List (Nat×AV):=[(1,.d (.v (.int .u16 a3))),(2,.ptr 0 0 0 0 0),(6,.d (I (Int.tdiv (((t3).length:Int)+2) 3))),(14,.d (.lst false 6 t10.1)),(17,.own 174 0),(18,.ptr 185 0 0 0 0),(19,.ptr 189 0 0 0 0),(20,.d (I e.1)),(21,.d (I e.2.1))]
noncomputable def KA (a0 a1:Int) (a2:List D) (a3:Int) (t3 t6:List D) (t10:List D×List D×Int) (e:(Int×Int×List D×List D×List D)):List (Nat×Blk):=[(0,.box (.d (.agg [I a0,I a1,.lst false 1 a2]))),(174,.row 0 1 e.2.2.1),(183,.row 0 1 e.2.2.2.1),(185,.box (.agg [.d (I a0),.d (I a1),.own 183 0])),(189,.box (.agg [.d (I a0),.d (I a1),.own 196 0])),(196,.row 0 1 e.2.2.2.2)]
theorem Wj {n:Nat} {a0 a1:Int} {a2:List D} {a3:Int} {t3 t6:List D} {t10:List D×List D×Int} (sa:(Int×Int×Int×List D×List D×List D)) (r) (h:Qs n a0 a1 a2 a3 t3 t6 t10 sa=some r):Rd cx (Qp cx.P 3 2) 358 0 false (K7 a0 a1 a2 a3 t3 t6 t10) (Jm a0 a1 a2 a3 t3 t6 t10) (KS a0 a1 a2 a3 t3 t6 t10) (Kq a0 a1 a2 a3 t3 t6 t10) (KA a0 a1 a2 a3 t3 t6 t10) sa r:=by
 unfold Qs at h
 by_cases ha1:sa.2.2.1 < ((t10.1).length:Int)
 ·replace h:=Qk h ha1
  obtain ⟨ta2,ha2,h⟩:=Qe h
  by_cases ha3:ta2.2.1 < 0
  ·replace h:=Qk h ha3
   cases h
  ·replace h:=Ql h ha3
   by_cases ha4:ta2.2.1 ≥ (Int.tdiv (((t3).length:Int)+2) 3)
   ·replace h:=Qk h ha4
    cases h
   ·replace h:=Ql h ha4
    by_cases ha5:ta2.2.2.1=1
    ·replace h:=Qk h ha5
     by_cases ha6:ta2.1=7
     ·replace h:=Qk h ha6
      obtain ⟨ha7,h⟩:=Qf h
      obtain ⟨ta8,ha8,h⟩:=Qe h
      by_cases ha9:ta8=true
      ·replace h:=Qk h ha9
       cases h
      ·replace h:=Ql h ha9
       obtain ⟨ha10,h⟩:=Qf h
       obtain ⟨ha11,h⟩:=Qf h
       obtain ⟨ta12,ha12,h⟩:=Qe h
       obtain ⟨ha13,h⟩:=Qf h
       obtain ⟨ha14,h⟩:=Qf h
       obtain ⟨ta15,ha15,h⟩:=Qe h
       obtain ⟨ha16,h⟩:=Qf h
       obtain ⟨ha17,h⟩:=Qf h
       obtain ⟨ta18,ha18,h⟩:=Qe h
       by_cases ha19:((ta2.2.2.2.1 == ta12) && ((ta2.2.2.2.2.1 == ta15) && ((ta2.2.2.2.2.2 == ta18) && true)))=true
       ·replace h:=Qk h ha19
        obtain ⟨ha20,h⟩:=Qf h
        by_cases ha21:sa.1 < 0
        ·replace h:=Qk h ha21
         obtain ⟨ha22,h⟩:=Qf h
         by_cases ha23:((3 * ta2.2.1)+0) < ((a2).length:Int)
         ·replace h:=Qk h ha23
          obtain ⟨ta24,ha24,h⟩:=Qe h
          obtain ⟨ha25,h⟩:=Qf h
          obtain ⟨ha26,h⟩:=Qf h
          obtain ⟨ha27,h⟩:=Qf h
          obtain ⟨ha28,h⟩:=Qf h
          by_cases ha29:((3 * ta2.2.1)+1) < ((a2).length:Int)
          ·replace h:=Qk h ha29
           obtain ⟨ta30,ha30,h⟩:=Qe h
           obtain ⟨ha31,h⟩:=Qf h
           obtain ⟨ha32,h⟩:=Qf h
           obtain ⟨ha33,h⟩:=Qf h
           obtain ⟨ha34,h⟩:=Qf h
           by_cases ha35:((3 * ta2.2.1)+2) < ((a2).length:Int)
           ·replace h:=Qk h ha35
            obtain ⟨ta36,ha36,h⟩:=Qe h
            obtain ⟨ha37,h⟩:=Qf h
            obtain ⟨ha38,h⟩:=Qf h
            obtain ⟨ha39,h⟩:=Qf h
            obtain ⟨ha40,h⟩:=Qf h
            obtain ⟨ha41,h⟩:=Qf h
            replace h:=Option.some.inj h
            subst h
            exact ⟨100,206,[.br true,.el (.agg [I ta2.1,I ta2.2.1,I ta2.2.2.1,I ta2.2.2.2.1,I ta2.2.2.2.2.1,I ta2.2.2.2.2.2]),.br false,.br false,.br false,.br false,.br true,.el (B ta8),.br false,.br true,.el (I ta12),.br true,.el (I ta15),.br true,.el (I ta18),.br false,.br true,.br true,.br true,.no,.no,.br true,.ret (.v (.float .f32 ta24)),.br true,.br true,.br true,.br true,.no,.no,.br true,.ret (.v (.float .f32 ta30)),.br true,.br true,.br true,.br true,.no,.no,.br true,.ret (.v (.float .f32 ta36)),.br true,.br true,.br true,.br true,.no,.no],[],[1,2,5,6,14,17,18,19,20,21,147,148,149],[0,12,174,183,185,189,196],Qi (ob:=[Qa (sa.2.2.1+1),Qa 3,(Int.toNat ((3 * ta2.2.1)+2)) < ((List.set (List.set sa.2.2.2.2.2 (Int.toNat ((3 * ta2.2.1)+0)) (.v (.float .f32 0):D)) (Int.toNat ((3 * ta2.2.1)+1)) (.v (.float .f32 0):D)):List D).length,0≤((3 * ta2.2.1)+2)∧((3 * ta2.2.1)+2) < (((List.set (List.set sa.2.2.2.2.2 (Int.toNat ((3 * ta2.2.1)+0)) (.v (.float .f32 0):D)) (Int.toNat ((3 * ta2.2.1)+1)) (.v (.float .f32 0):D)):List D).length:Int),(Int.toNat ((3 * ta2.2.1)+2)) < ((List.set (List.set sa.2.2.2.2.1 (Int.toNat ((3 * ta2.2.1)+0)) (.v (.float .f32 ta24):D)) (Int.toNat ((3 * ta2.2.1)+1)) (.v (.float .f32 ta30):D)):List D).length,0≤((3 * ta2.2.1)+2)∧((3 * ta2.2.1)+2) < (((List.set (List.set sa.2.2.2.2.1 (Int.toNat ((3 * ta2.2.1)+0)) (.v (.float .f32 ta24):D)) (Int.toNat ((3 * ta2.2.1)+1)) (.v (.float .f32 ta30):D)):List D).length:Int),Computes cx 10 [I ta2.2.2.2.2.2] (.v (.float .f32 ta36)),(decide (((3 * ta2.2.1)+2) < ((a2).length:Int)))=true,Qa ((3 * ta2.2.1)+2),Qa (3 * ta2.2.1),Qa 2,(Int.toNat ((3 * ta2.2.1)+1)) < ((List.set sa.2.2.2.2.2 (Int.toNat ((3 * ta2.2.1)+0)) (.v (.float .f32 0):D)):List D).length,0≤((3 * ta2.2.1)+1)∧((3 * ta2.2.1)+1) < (((List.set sa.2.2.2.2.2 (Int.toNat ((3 * ta2.2.1)+0)) (.v (.float .f32 0):D)):List D).length:Int),(Int.toNat ((3 * ta2.2.1)+1)) < ((List.set sa.2.2.2.2.1 (Int.toNat ((3 * ta2.2.1)+0)) (.v (.float .f32 ta24):D)):List D).length,0≤((3 * ta2.2.1)+1)∧((3 * ta2.2.1)+1) < (((List.set sa.2.2.2.2.1 (Int.toNat ((3 * ta2.2.1)+0)) (.v (.float .f32 ta24):D)):List D).length:Int),Computes cx 10 [I ta2.2.2.2.2.1] (.v (.float .f32 ta30)),(decide (((3 * ta2.2.1)+1) < ((a2).length:Int)))=true,Qa ((3 * ta2.2.1)+1),Qa (3 * ta2.2.1),Qa 1,(Int.toNat ((3 * ta2.2.1)+0)) < (sa.2.2.2.2.2).length,0≤((3 * ta2.2.1)+0)∧((3 * ta2.2.1)+0) < ((sa.2.2.2.2.2).length:Int),(Int.toNat ((3 * ta2.2.1)+0)) < (sa.2.2.2.2.1).length,0≤((3 * ta2.2.1)+0)∧((3 * ta2.2.1)+0) < ((sa.2.2.2.2.1).length:Int),Computes cx 10 [I ta2.2.2.2.1] (.v (.float .f32 ta24)),(decide (((3 * ta2.2.1)+0) < ((a2).length:Int)))=true,Qa ((3 * ta2.2.1)+0),Qa (3 * ta2.2.1),(decide (sa.1 < 0))=true,(Int.toNat ta2.2.1) < (sa.2.2.2.1).length,0≤ta2.2.1∧ta2.2.1 < ((sa.2.2.2.1).length:Int),(!((ta2.2.2.2.1 == ta12) && ((ta2.2.2.2.2.1 == ta15) && ((ta2.2.2.2.2.2 == ta18) && true))))=false,nth (t6) (Int.toNat ((3 * ta2.2.1)+2))=some (I ta18),0≤((3 * ta2.2.1)+2)∧((3 * ta2.2.1)+2) < ((t6).length:Int),Qa ((3 * ta2.2.1)+2),Qa (3 * ta2.2.1),nth (t6) (Int.toNat ((3 * ta2.2.1)+1))=some (I ta15),0≤((3 * ta2.2.1)+1)∧((3 * ta2.2.1)+1) < ((t6).length:Int),Qa ((3 * ta2.2.1)+1),Qa (3 * ta2.2.1),nth (t6) (Int.toNat (3 * ta2.2.1))=some (I ta12),0≤(3 * ta2.2.1)∧(3 * ta2.2.1) < ((t6).length:Int),Qa (3 * ta2.2.1),ta8=false,nth (sa.2.2.2.1) (Int.toNat ta2.2.1)=some (B ta8),0≤ta2.2.1∧ta2.2.1 < ((sa.2.2.2.1).length:Int),(ta2.1 != 7)=false,(ta2.2.2.1 != 1)=false,(decide (ta2.2.1 ≥ (Int.tdiv (((t3).length:Int)+2) 3)))=false,(decide (ta2.2.1 < 0))=false,(0:Int)≤sa.2.2.1,nth (t10.1) (Int.toNat sa.2.2.1)=some (.agg [I ta2.1,I ta2.2.1,I ta2.2.2.1,I ta2.2.2.2.1,I ta2.2.2.2.2.1,I ta2.2.2.2.2.2]),(decide (sa.2.2.1 < ((t10.1).length:Int)))=true]) (by kernel_rfl) ⟨ha41,(by unfold Qa;omega),ha40,ha39,ha38,ha37,(Qv ha36),(decide_eq_true ha35),ha16,ha10,(by unfold Qa;omega),ha34,ha33,ha32,ha31,(Qv ha30),(decide_eq_true ha29),ha13,ha10,(by unfold Qa;omega),ha28,ha27,ha26,ha25,(Qv ha24),(decide_eq_true ha23),ha22,ha10,(decide_eq_true ha21),ha20,ha7,(VS ha19),Qo Qm ha18,ha17,ha16,ha10,Qo Qm ha15,ha14,ha13,ha10,Qo Qm ha12,ha11,ha10,(Qy ha9),Qo ZD ha8,ha7,(nef ha6),(nef ha5),(decide_eq_false ha4),(decide_eq_false ha3),(Qw Qq ha2).1,(Qw Qq ha2).2,(decide_eq_true ha1),trivial⟩⟩
           ·replace h:=Ql h ha35
            obtain ⟨ha36,h⟩:=Qf h
            replace h:=Option.some.inj h
            subst h
            exact ⟨100,206,[.br true,.el (.agg [I ta2.1,I ta2.2.1,I ta2.2.2.1,I ta2.2.2.2.1,I ta2.2.2.2.2.1,I ta2.2.2.2.2.2]),.br false,.br false,.br false,.br false,.br true,.el (B ta8),.br false,.br true,.el (I ta12),.br true,.el (I ta15),.br true,.el (I ta18),.br false,.br true,.br true,.br true,.no,.no,.br true,.ret (.v (.float .f32 ta24)),.br true,.br true,.br true,.br true,.no,.no,.br true,.ret (.v (.float .f32 ta30)),.br true,.br true,.br true,.br true,.no,.no,.br false,.no,.no],[],[1,2,5,6,14,17,18,19,20,21,147,148,149],[0,12,174,183,185,189,196],Qi (ob:=[Qa (sa.2.2.1+1),Qa 3,(decide (((3 * ta2.2.1)+2) < ((a2).length:Int)))=false,Qa ((3 * ta2.2.1)+2),Qa (3 * ta2.2.1),Qa 2,(Int.toNat ((3 * ta2.2.1)+1)) < ((List.set sa.2.2.2.2.2 (Int.toNat ((3 * ta2.2.1)+0)) (.v (.float .f32 0):D)):List D).length,0≤((3 * ta2.2.1)+1)∧((3 * ta2.2.1)+1) < (((List.set sa.2.2.2.2.2 (Int.toNat ((3 * ta2.2.1)+0)) (.v (.float .f32 0):D)):List D).length:Int),(Int.toNat ((3 * ta2.2.1)+1)) < ((List.set sa.2.2.2.2.1 (Int.toNat ((3 * ta2.2.1)+0)) (.v (.float .f32 ta24):D)):List D).length,0≤((3 * ta2.2.1)+1)∧((3 * ta2.2.1)+1) < (((List.set sa.2.2.2.2.1 (Int.toNat ((3 * ta2.2.1)+0)) (.v (.float .f32 ta24):D)):List D).length:Int),Computes cx 10 [I ta2.2.2.2.2.1] (.v (.float .f32 ta30)),(decide (((3 * ta2.2.1)+1) < ((a2).length:Int)))=true,Qa ((3 * ta2.2.1)+1),Qa (3 * ta2.2.1),Qa 1,(Int.toNat ((3 * ta2.2.1)+0)) < (sa.2.2.2.2.2).length,0≤((3 * ta2.2.1)+0)∧((3 * ta2.2.1)+0) < ((sa.2.2.2.2.2).length:Int),(Int.toNat ((3 * ta2.2.1)+0)) < (sa.2.2.2.2.1).length,0≤((3 * ta2.2.1)+0)∧((3 * ta2.2.1)+0) < ((sa.2.2.2.2.1).length:Int),Computes cx 10 [I ta2.2.2.2.1] (.v (.float .f32 ta24)),(decide (((3 * ta2.2.1)+0) < ((a2).length:Int)))=true,Qa ((3 * ta2.2.1)+0),Qa (3 * ta2.2.1),(decide (sa.1 < 0))=true,(Int.toNat ta2.2.1) < (sa.2.2.2.1).length,0≤ta2.2.1∧ta2.2.1 < ((sa.2.2.2.1).length:Int),(!((ta2.2.2.2.1 == ta12) && ((ta2.2.2.2.2.1 == ta15) && ((ta2.2.2.2.2.2 == ta18) && true))))=false,nth (t6) (Int.toNat ((3 * ta2.2.1)+2))=some (I ta18),0≤((3 * ta2.2.1)+2)∧((3 * ta2.2.1)+2) < ((t6).length:Int),Qa ((3 * ta2.2.1)+2),Qa (3 * ta2.2.1),nth (t6) (Int.toNat ((3 * ta2.2.1)+1))=some (I ta15),0≤((3 * ta2.2.1)+1)∧((3 * ta2.2.1)+1) < ((t6).length:Int),Qa ((3 * ta2.2.1)+1),Qa (3 * ta2.2.1),nth (t6) (Int.toNat (3 * ta2.2.1))=some (I ta12),0≤(3 * ta2.2.1)∧(3 * ta2.2.1) < ((t6).length:Int),Qa (3 * ta2.2.1),ta8=false,nth (sa.2.2.2.1) (Int.toNat ta2.2.1)=some (B ta8),0≤ta2.2.1∧ta2.2.1 < ((sa.2.2.2.1).length:Int),(ta2.1 != 7)=false,(ta2.2.2.1 != 1)=false,(decide (ta2.2.1 ≥ (Int.tdiv (((t3).length:Int)+2) 3)))=false,(decide (ta2.2.1 < 0))=false,(0:Int)≤sa.2.2.1,nth (t10.1) (Int.toNat sa.2.2.1)=some (.agg [I ta2.1,I ta2.2.1,I ta2.2.2.1,I ta2.2.2.2.1,I ta2.2.2.2.2.1,I ta2.2.2.2.2.2]),(decide (sa.2.2.1 < ((t10.1).length:Int)))=true]) (by kernel_rfl) ⟨ha36,(by unfold Qa;omega),(decide_eq_false ha35),ha16,ha10,(by unfold Qa;omega),ha34,ha33,ha32,ha31,(Qv ha30),(decide_eq_true ha29),ha13,ha10,(by unfold Qa;omega),ha28,ha27,ha26,ha25,(Qv ha24),(decide_eq_true ha23),ha22,ha10,(decide_eq_true ha21),ha20,ha7,(VS ha19),Qo Qm ha18,ha17,ha16,ha10,Qo Qm ha15,ha14,ha13,ha10,Qo Qm ha12,ha11,ha10,(Qy ha9),Qo ZD ha8,ha7,(nef ha6),(nef ha5),(decide_eq_false ha4),(decide_eq_false ha3),(Qw Qq ha2).1,(Qw Qq ha2).2,(decide_eq_true ha1),trivial⟩⟩
          ·replace h:=Ql h ha29
           by_cases ha30:((3 * ta2.2.1)+2) < ((a2).length:Int)
           ·replace h:=Qk h ha30
            obtain ⟨ta31,ha31,h⟩:=Qe h
            obtain ⟨ha32,h⟩:=Qf h
            obtain ⟨ha33,h⟩:=Qf h
            obtain ⟨ha34,h⟩:=Qf h
            obtain ⟨ha35,h⟩:=Qf h
            obtain ⟨ha36,h⟩:=Qf h
            replace h:=Option.some.inj h
            subst h
            exact ⟨100,206,[.br true,.el (.agg [I ta2.1,I ta2.2.1,I ta2.2.2.1,I ta2.2.2.2.1,I ta2.2.2.2.2.1,I ta2.2.2.2.2.2]),.br false,.br false,.br false,.br false,.br true,.el (B ta8),.br false,.br true,.el (I ta12),.br true,.el (I ta15),.br true,.el (I ta18),.br false,.br true,.br true,.br true,.no,.no,.br true,.ret (.v (.float .f32 ta24)),.br true,.br true,.br true,.br true,.no,.no,.br false,.no,.no,.br true,.ret (.v (.float .f32 ta31)),.br true,.br true,.br true,.br true,.no,.no],[],[1,2,5,6,14,17,18,19,20,21,147,148,149],[0,12,174,183,185,189,196],Qi (ob:=[Qa (sa.2.2.1+1),Qa 3,(Int.toNat ((3 * ta2.2.1)+2)) < ((List.set sa.2.2.2.2.2 (Int.toNat ((3 * ta2.2.1)+0)) (.v (.float .f32 0):D)):List D).length,0≤((3 * ta2.2.1)+2)∧((3 * ta2.2.1)+2) < (((List.set sa.2.2.2.2.2 (Int.toNat ((3 * ta2.2.1)+0)) (.v (.float .f32 0):D)):List D).length:Int),(Int.toNat ((3 * ta2.2.1)+2)) < ((List.set sa.2.2.2.2.1 (Int.toNat ((3 * ta2.2.1)+0)) (.v (.float .f32 ta24):D)):List D).length,0≤((3 * ta2.2.1)+2)∧((3 * ta2.2.1)+2) < (((List.set sa.2.2.2.2.1 (Int.toNat ((3 * ta2.2.1)+0)) (.v (.float .f32 ta24):D)):List D).length:Int),Computes cx 10 [I ta2.2.2.2.2.2] (.v (.float .f32 ta31)),(decide (((3 * ta2.2.1)+2) < ((a2).length:Int)))=true,Qa ((3 * ta2.2.1)+2),Qa (3 * ta2.2.1),Qa 2,(decide (((3 * ta2.2.1)+1) < ((a2).length:Int)))=false,Qa ((3 * ta2.2.1)+1),Qa (3 * ta2.2.1),Qa 1,(Int.toNat ((3 * ta2.2.1)+0)) < (sa.2.2.2.2.2).length,0≤((3 * ta2.2.1)+0)∧((3 * ta2.2.1)+0) < ((sa.2.2.2.2.2).length:Int),(Int.toNat ((3 * ta2.2.1)+0)) < (sa.2.2.2.2.1).length,0≤((3 * ta2.2.1)+0)∧((3 * ta2.2.1)+0) < ((sa.2.2.2.2.1).length:Int),Computes cx 10 [I ta2.2.2.2.1] (.v (.float .f32 ta24)),(decide (((3 * ta2.2.1)+0) < ((a2).length:Int)))=true,Qa ((3 * ta2.2.1)+0),Qa (3 * ta2.2.1),(decide (sa.1 < 0))=true,(Int.toNat ta2.2.1) < (sa.2.2.2.1).length,0≤ta2.2.1∧ta2.2.1 < ((sa.2.2.2.1).length:Int),(!((ta2.2.2.2.1 == ta12) && ((ta2.2.2.2.2.1 == ta15) && ((ta2.2.2.2.2.2 == ta18) && true))))=false,nth (t6) (Int.toNat ((3 * ta2.2.1)+2))=some (I ta18),0≤((3 * ta2.2.1)+2)∧((3 * ta2.2.1)+2) < ((t6).length:Int),Qa ((3 * ta2.2.1)+2),Qa (3 * ta2.2.1),nth (t6) (Int.toNat ((3 * ta2.2.1)+1))=some (I ta15),0≤((3 * ta2.2.1)+1)∧((3 * ta2.2.1)+1) < ((t6).length:Int),Qa ((3 * ta2.2.1)+1),Qa (3 * ta2.2.1),nth (t6) (Int.toNat (3 * ta2.2.1))=some (I ta12),0≤(3 * ta2.2.1)∧(3 * ta2.2.1) < ((t6).length:Int),Qa (3 * ta2.2.1),ta8=false,nth (sa.2.2.2.1) (Int.toNat ta2.2.1)=some (B ta8),0≤ta2.2.1∧ta2.2.1 < ((sa.2.2.2.1).length:Int),(ta2.1 != 7)=false,(ta2.2.2.1 != 1)=false,(decide (ta2.2.1 ≥ (Int.tdiv (((t3).length:Int)+2) 3)))=false,(decide (ta2.2.1 < 0))=false,(0:Int)≤sa.2.2.1,nth (t10.1) (Int.toNat sa.2.2.1)=some (.agg [I ta2.1,I ta2.2.1,I ta2.2.2.1,I ta2.2.2.2.1,I ta2.2.2.2.2.1,I ta2.2.2.2.2.2]),(decide (sa.2.2.1 < ((t10.1).length:Int)))=true]) (by kernel_rfl) ⟨ha36,(by unfold Qa;omega),ha35,ha34,ha33,ha32,(Qv ha31),(decide_eq_true ha30),ha16,ha10,(by unfold Qa;omega),(decide_eq_false ha29),ha13,ha10,(by unfold Qa;omega),ha28,ha27,ha26,ha25,(Qv ha24),(decide_eq_true ha23),ha22,ha10,(decide_eq_true ha21),ha20,ha7,(VS ha19),Qo Qm ha18,ha17,ha16,ha10,Qo Qm ha15,ha14,ha13,ha10,Qo Qm ha12,ha11,ha10,(Qy ha9),Qo ZD ha8,ha7,(nef ha6),(nef ha5),(decide_eq_false ha4),(decide_eq_false ha3),(Qw Qq ha2).1,(Qw Qq ha2).2,(decide_eq_true ha1),trivial⟩⟩
           ·replace h:=Ql h ha30
            obtain ⟨ha31,h⟩:=Qf h
            replace h:=Option.some.inj h
            subst h
            exact ⟨100,206,[.br true,.el (.agg [I ta2.1,I ta2.2.1,I ta2.2.2.1,I ta2.2.2.2.1,I ta2.2.2.2.2.1,I ta2.2.2.2.2.2]),.br false,.br false,.br false,.br false,.br true,.el (B ta8),.br false,.br true,.el (I ta12),.br true,.el (I ta15),.br true,.el (I ta18),.br false,.br true,.br true,.br true,.no,.no,.br true,.ret (.v (.float .f32 ta24)),.br true,.br true,.br true,.br true,.no,.no,.br false,.no,.no,.br false,.no,.no],[],[1,2,5,6,14,17,18,19,20,21,147,148,149],[0,12,174,183,185,189,196],Qi (ob:=[Qa (sa.2.2.1+1),Qa 3,(decide (((3 * ta2.2.1)+2) < ((a2).length:Int)))=false,Qa ((3 * ta2.2.1)+2),Qa (3 * ta2.2.1),Qa 2,(decide (((3 * ta2.2.1)+1) < ((a2).length:Int)))=false,Qa ((3 * ta2.2.1)+1),Qa (3 * ta2.2.1),Qa 1,(Int.toNat ((3 * ta2.2.1)+0)) < (sa.2.2.2.2.2).length,0≤((3 * ta2.2.1)+0)∧((3 * ta2.2.1)+0) < ((sa.2.2.2.2.2).length:Int),(Int.toNat ((3 * ta2.2.1)+0)) < (sa.2.2.2.2.1).length,0≤((3 * ta2.2.1)+0)∧((3 * ta2.2.1)+0) < ((sa.2.2.2.2.1).length:Int),Computes cx 10 [I ta2.2.2.2.1] (.v (.float .f32 ta24)),(decide (((3 * ta2.2.1)+0) < ((a2).length:Int)))=true,Qa ((3 * ta2.2.1)+0),Qa (3 * ta2.2.1),(decide (sa.1 < 0))=true,(Int.toNat ta2.2.1) < (sa.2.2.2.1).length,0≤ta2.2.1∧ta2.2.1 < ((sa.2.2.2.1).length:Int),(!((ta2.2.2.2.1 == ta12) && ((ta2.2.2.2.2.1 == ta15) && ((ta2.2.2.2.2.2 == ta18) && true))))=false,nth (t6) (Int.toNat ((3 * ta2.2.1)+2))=some (I ta18),0≤((3 * ta2.2.1)+2)∧((3 * ta2.2.1)+2) < ((t6).length:Int),Qa ((3 * ta2.2.1)+2),Qa (3 * ta2.2.1),nth (t6) (Int.toNat ((3 * ta2.2.1)+1))=some (I ta15),0≤((3 * ta2.2.1)+1)∧((3 * ta2.2.1)+1) < ((t6).length:Int),Qa ((3 * ta2.2.1)+1),Qa (3 * ta2.2.1),nth (t6) (Int.toNat (3 * ta2.2.1))=some (I ta12),0≤(3 * ta2.2.1)∧(3 * ta2.2.1) < ((t6).length:Int),Qa (3 * ta2.2.1),ta8=false,nth (sa.2.2.2.1) (Int.toNat ta2.2.1)=some (B ta8),0≤ta2.2.1∧ta2.2.1 < ((sa.2.2.2.1).length:Int),(ta2.1 != 7)=false,(ta2.2.2.1 != 1)=false,(decide (ta2.2.1 ≥ (Int.tdiv (((t3).length:Int)+2) 3)))=false,(decide (ta2.2.1 < 0))=false,(0:Int)≤sa.2.2.1,nth (t10.1) (Int.toNat sa.2.2.1)=some (.agg [I ta2.1,I ta2.2.1,I ta2.2.2.1,I ta2.2.2.2.1,I ta2.2.2.2.2.1,I ta2.2.2.2.2.2]),(decide (sa.2.2.1 < ((t10.1).length:Int)))=true]) (by kernel_rfl) ⟨ha31,(by unfold Qa;omega),(decide_eq_false ha30),ha16,ha10,(by unfold Qa;omega),(decide_eq_false ha29),ha13,ha10,(by unfold Qa;omega),ha28,ha27,ha26,ha25,(Qv ha24),(decide_eq_true ha23),ha22,ha10,(decide_eq_true ha21),ha20,ha7,(VS ha19),Qo Qm ha18,ha17,ha16,ha10,Qo Qm ha15,ha14,ha13,ha10,Qo Qm ha12,ha11,ha10,(Qy ha9),Qo ZD ha8,ha7,(nef ha6),(nef ha5),(decide_eq_false ha4),(decide_eq_false ha3),(Qw Qq ha2).1,(Qw Qq ha2).2,(decide_eq_true ha1),trivial⟩⟩
         ·replace h:=Ql h ha23
          by_cases ha24:((3 * ta2.2.1)+1) < ((a2).length:Int)
          ·replace h:=Qk h ha24
           obtain ⟨ta25,ha25,h⟩:=Qe h
           obtain ⟨ha26,h⟩:=Qf h
           obtain ⟨ha27,h⟩:=Qf h
           obtain ⟨ha28,h⟩:=Qf h
           obtain ⟨ha29,h⟩:=Qf h
           by_cases ha30:((3 * ta2.2.1)+2) < ((a2).length:Int)
           ·replace h:=Qk h ha30
            obtain ⟨ta31,ha31,h⟩:=Qe h
            obtain ⟨ha32,h⟩:=Qf h
            obtain ⟨ha33,h⟩:=Qf h
            obtain ⟨ha34,h⟩:=Qf h
            obtain ⟨ha35,h⟩:=Qf h
            obtain ⟨ha36,h⟩:=Qf h
            replace h:=Option.some.inj h
            subst h
            exact ⟨100,206,[.br true,.el (.agg [I ta2.1,I ta2.2.1,I ta2.2.2.1,I ta2.2.2.2.1,I ta2.2.2.2.2.1,I ta2.2.2.2.2.2]),.br false,.br false,.br false,.br false,.br true,.el (B ta8),.br false,.br true,.el (I ta12),.br true,.el (I ta15),.br true,.el (I ta18),.br false,.br true,.br true,.br true,.no,.no,.br false,.no,.no,.br true,.ret (.v (.float .f32 ta25)),.br true,.br true,.br true,.br true,.no,.no,.br true,.ret (.v (.float .f32 ta31)),.br true,.br true,.br true,.br true,.no,.no],[],[1,2,5,6,14,17,18,19,20,21,147,148,149],[0,12,174,183,185,189,196],Qi (ob:=[Qa (sa.2.2.1+1),Qa 3,(Int.toNat ((3 * ta2.2.1)+2)) < ((List.set sa.2.2.2.2.2 (Int.toNat ((3 * ta2.2.1)+1)) (.v (.float .f32 0):D)):List D).length,0≤((3 * ta2.2.1)+2)∧((3 * ta2.2.1)+2) < (((List.set sa.2.2.2.2.2 (Int.toNat ((3 * ta2.2.1)+1)) (.v (.float .f32 0):D)):List D).length:Int),(Int.toNat ((3 * ta2.2.1)+2)) < ((List.set sa.2.2.2.2.1 (Int.toNat ((3 * ta2.2.1)+1)) (.v (.float .f32 ta25):D)):List D).length,0≤((3 * ta2.2.1)+2)∧((3 * ta2.2.1)+2) < (((List.set sa.2.2.2.2.1 (Int.toNat ((3 * ta2.2.1)+1)) (.v (.float .f32 ta25):D)):List D).length:Int),Computes cx 10 [I ta2.2.2.2.2.2] (.v (.float .f32 ta31)),(decide (((3 * ta2.2.1)+2) < ((a2).length:Int)))=true,Qa ((3 * ta2.2.1)+2),Qa (3 * ta2.2.1),Qa 2,(Int.toNat ((3 * ta2.2.1)+1)) < (sa.2.2.2.2.2).length,0≤((3 * ta2.2.1)+1)∧((3 * ta2.2.1)+1) < ((sa.2.2.2.2.2).length:Int),(Int.toNat ((3 * ta2.2.1)+1)) < (sa.2.2.2.2.1).length,0≤((3 * ta2.2.1)+1)∧((3 * ta2.2.1)+1) < ((sa.2.2.2.2.1).length:Int),Computes cx 10 [I ta2.2.2.2.2.1] (.v (.float .f32 ta25)),(decide (((3 * ta2.2.1)+1) < ((a2).length:Int)))=true,Qa ((3 * ta2.2.1)+1),Qa (3 * ta2.2.1),Qa 1,(decide (((3 * ta2.2.1)+0) < ((a2).length:Int)))=false,Qa ((3 * ta2.2.1)+0),Qa (3 * ta2.2.1),(decide (sa.1 < 0))=true,(Int.toNat ta2.2.1) < (sa.2.2.2.1).length,0≤ta2.2.1∧ta2.2.1 < ((sa.2.2.2.1).length:Int),(!((ta2.2.2.2.1 == ta12) && ((ta2.2.2.2.2.1 == ta15) && ((ta2.2.2.2.2.2 == ta18) && true))))=false,nth (t6) (Int.toNat ((3 * ta2.2.1)+2))=some (I ta18),0≤((3 * ta2.2.1)+2)∧((3 * ta2.2.1)+2) < ((t6).length:Int),Qa ((3 * ta2.2.1)+2),Qa (3 * ta2.2.1),nth (t6) (Int.toNat ((3 * ta2.2.1)+1))=some (I ta15),0≤((3 * ta2.2.1)+1)∧((3 * ta2.2.1)+1) < ((t6).length:Int),Qa ((3 * ta2.2.1)+1),Qa (3 * ta2.2.1),nth (t6) (Int.toNat (3 * ta2.2.1))=some (I ta12),0≤(3 * ta2.2.1)∧(3 * ta2.2.1) < ((t6).length:Int),Qa (3 * ta2.2.1),ta8=false,nth (sa.2.2.2.1) (Int.toNat ta2.2.1)=some (B ta8),0≤ta2.2.1∧ta2.2.1 < ((sa.2.2.2.1).length:Int),(ta2.1 != 7)=false,(ta2.2.2.1 != 1)=false,(decide (ta2.2.1 ≥ (Int.tdiv (((t3).length:Int)+2) 3)))=false,(decide (ta2.2.1 < 0))=false,(0:Int)≤sa.2.2.1,nth (t10.1) (Int.toNat sa.2.2.1)=some (.agg [I ta2.1,I ta2.2.1,I ta2.2.2.1,I ta2.2.2.2.1,I ta2.2.2.2.2.1,I ta2.2.2.2.2.2]),(decide (sa.2.2.1 < ((t10.1).length:Int)))=true]) (by kernel_rfl) ⟨ha36,(by unfold Qa;omega),ha35,ha34,ha33,ha32,(Qv ha31),(decide_eq_true ha30),ha16,ha10,(by unfold Qa;omega),ha29,ha28,ha27,ha26,(Qv ha25),(decide_eq_true ha24),ha13,ha10,(by unfold Qa;omega),(decide_eq_false ha23),ha22,ha10,(decide_eq_true ha21),ha20,ha7,(VS ha19),Qo Qm ha18,ha17,ha16,ha10,Qo Qm ha15,ha14,ha13,ha10,Qo Qm ha12,ha11,ha10,(Qy ha9),Qo ZD ha8,ha7,(nef ha6),(nef ha5),(decide_eq_false ha4),(decide_eq_false ha3),(Qw Qq ha2).1,(Qw Qq ha2).2,(decide_eq_true ha1),trivial⟩⟩
           ·replace h:=Ql h ha30
            obtain ⟨ha31,h⟩:=Qf h
            replace h:=Option.some.inj h
            subst h
            exact ⟨100,206,[.br true,.el (.agg [I ta2.1,I ta2.2.1,I ta2.2.2.1,I ta2.2.2.2.1,I ta2.2.2.2.2.1,I ta2.2.2.2.2.2]),.br false,.br false,.br false,.br false,.br true,.el (B ta8),.br false,.br true,.el (I ta12),.br true,.el (I ta15),.br true,.el (I ta18),.br false,.br true,.br true,.br true,.no,.no,.br false,.no,.no,.br true,.ret (.v (.float .f32 ta25)),.br true,.br true,.br true,.br true,.no,.no,.br false,.no,.no],[],[1,2,5,6,14,17,18,19,20,21,147,148,149],[0,12,174,183,185,189,196],Qi (ob:=[Qa (sa.2.2.1+1),Qa 3,(decide (((3 * ta2.2.1)+2) < ((a2).length:Int)))=false,Qa ((3 * ta2.2.1)+2),Qa (3 * ta2.2.1),Qa 2,(Int.toNat ((3 * ta2.2.1)+1)) < (sa.2.2.2.2.2).length,0≤((3 * ta2.2.1)+1)∧((3 * ta2.2.1)+1) < ((sa.2.2.2.2.2).length:Int),(Int.toNat ((3 * ta2.2.1)+1)) < (sa.2.2.2.2.1).length,0≤((3 * ta2.2.1)+1)∧((3 * ta2.2.1)+1) < ((sa.2.2.2.2.1).length:Int),Computes cx 10 [I ta2.2.2.2.2.1] (.v (.float .f32 ta25)),(decide (((3 * ta2.2.1)+1) < ((a2).length:Int)))=true,Qa ((3 * ta2.2.1)+1),Qa (3 * ta2.2.1),Qa 1,(decide (((3 * ta2.2.1)+0) < ((a2).length:Int)))=false,Qa ((3 * ta2.2.1)+0),Qa (3 * ta2.2.1),(decide (sa.1 < 0))=true,(Int.toNat ta2.2.1) < (sa.2.2.2.1).length,0≤ta2.2.1∧ta2.2.1 < ((sa.2.2.2.1).length:Int),(!((ta2.2.2.2.1 == ta12) && ((ta2.2.2.2.2.1 == ta15) && ((ta2.2.2.2.2.2 == ta18) && true))))=false,nth (t6) (Int.toNat ((3 * ta2.2.1)+2))=some (I ta18),0≤((3 * ta2.2.1)+2)∧((3 * ta2.2.1)+2) < ((t6).length:Int),Qa ((3 * ta2.2.1)+2),Qa (3 * ta2.2.1),nth (t6) (Int.toNat ((3 * ta2.2.1)+1))=some (I ta15),0≤((3 * ta2.2.1)+1)∧((3 * ta2.2.1)+1) < ((t6).length:Int),Qa ((3 * ta2.2.1)+1),Qa (3 * ta2.2.1),nth (t6) (Int.toNat (3 * ta2.2.1))=some (I ta12),0≤(3 * ta2.2.1)∧(3 * ta2.2.1) < ((t6).length:Int),Qa (3 * ta2.2.1),ta8=false,nth (sa.2.2.2.1) (Int.toNat ta2.2.1)=some (B ta8),0≤ta2.2.1∧ta2.2.1 < ((sa.2.2.2.1).length:Int),(ta2.1 != 7)=false,(ta2.2.2.1 != 1)=false,(decide (ta2.2.1 ≥ (Int.tdiv (((t3).length:Int)+2) 3)))=false,(decide (ta2.2.1 < 0))=false,(0:Int)≤sa.2.2.1,nth (t10.1) (Int.toNat sa.2.2.1)=some (.agg [I ta2.1,I ta2.2.1,I ta2.2.2.1,I ta2.2.2.2.1,I ta2.2.2.2.2.1,I ta2.2.2.2.2.2]),(decide (sa.2.2.1 < ((t10.1).length:Int)))=true]) (by kernel_rfl) ⟨ha31,(by unfold Qa;omega),(decide_eq_false ha30),ha16,ha10,(by unfold Qa;omega),ha29,ha28,ha27,ha26,(Qv ha25),(decide_eq_true ha24),ha13,ha10,(by unfold Qa;omega),(decide_eq_false ha23),ha22,ha10,(decide_eq_true ha21),ha20,ha7,(VS ha19),Qo Qm ha18,ha17,ha16,ha10,Qo Qm ha15,ha14,ha13,ha10,Qo Qm ha12,ha11,ha10,(Qy ha9),Qo ZD ha8,ha7,(nef ha6),(nef ha5),(decide_eq_false ha4),(decide_eq_false ha3),(Qw Qq ha2).1,(Qw Qq ha2).2,(decide_eq_true ha1),trivial⟩⟩
          ·replace h:=Ql h ha24
           by_cases ha25:((3 * ta2.2.1)+2) < ((a2).length:Int)
           ·replace h:=Qk h ha25
            obtain ⟨ta26,ha26,h⟩:=Qe h
            obtain ⟨ha27,h⟩:=Qf h
            obtain ⟨ha28,h⟩:=Qf h
            obtain ⟨ha29,h⟩:=Qf h
            obtain ⟨ha30,h⟩:=Qf h
            obtain ⟨ha31,h⟩:=Qf h
            replace h:=Option.some.inj h
            subst h
            exact ⟨100,206,[.br true,.el (.agg [I ta2.1,I ta2.2.1,I ta2.2.2.1,I ta2.2.2.2.1,I ta2.2.2.2.2.1,I ta2.2.2.2.2.2]),.br false,.br false,.br false,.br false,.br true,.el (B ta8),.br false,.br true,.el (I ta12),.br true,.el (I ta15),.br true,.el (I ta18),.br false,.br true,.br true,.br true,.no,.no,.br false,.no,.no,.br false,.no,.no,.br true,.ret (.v (.float .f32 ta26)),.br true,.br true,.br true,.br true,.no,.no],[],[1,2,5,6,14,17,18,19,20,21,147,148,149],[0,12,174,183,185,189,196],Qi (ob:=[Qa (sa.2.2.1+1),Qa 3,(Int.toNat ((3 * ta2.2.1)+2)) < (sa.2.2.2.2.2).length,0≤((3 * ta2.2.1)+2)∧((3 * ta2.2.1)+2) < ((sa.2.2.2.2.2).length:Int),(Int.toNat ((3 * ta2.2.1)+2)) < (sa.2.2.2.2.1).length,0≤((3 * ta2.2.1)+2)∧((3 * ta2.2.1)+2) < ((sa.2.2.2.2.1).length:Int),Computes cx 10 [I ta2.2.2.2.2.2] (.v (.float .f32 ta26)),(decide (((3 * ta2.2.1)+2) < ((a2).length:Int)))=true,Qa ((3 * ta2.2.1)+2),Qa (3 * ta2.2.1),Qa 2,(decide (((3 * ta2.2.1)+1) < ((a2).length:Int)))=false,Qa ((3 * ta2.2.1)+1),Qa (3 * ta2.2.1),Qa 1,(decide (((3 * ta2.2.1)+0) < ((a2).length:Int)))=false,Qa ((3 * ta2.2.1)+0),Qa (3 * ta2.2.1),(decide (sa.1 < 0))=true,(Int.toNat ta2.2.1) < (sa.2.2.2.1).length,0≤ta2.2.1∧ta2.2.1 < ((sa.2.2.2.1).length:Int),(!((ta2.2.2.2.1 == ta12) && ((ta2.2.2.2.2.1 == ta15) && ((ta2.2.2.2.2.2 == ta18) && true))))=false,nth (t6) (Int.toNat ((3 * ta2.2.1)+2))=some (I ta18),0≤((3 * ta2.2.1)+2)∧((3 * ta2.2.1)+2) < ((t6).length:Int),Qa ((3 * ta2.2.1)+2),Qa (3 * ta2.2.1),nth (t6) (Int.toNat ((3 * ta2.2.1)+1))=some (I ta15),0≤((3 * ta2.2.1)+1)∧((3 * ta2.2.1)+1) < ((t6).length:Int),Qa ((3 * ta2.2.1)+1),Qa (3 * ta2.2.1),nth (t6) (Int.toNat (3 * ta2.2.1))=some (I ta12),0≤(3 * ta2.2.1)∧(3 * ta2.2.1) < ((t6).length:Int),Qa (3 * ta2.2.1),ta8=false,nth (sa.2.2.2.1) (Int.toNat ta2.2.1)=some (B ta8),0≤ta2.2.1∧ta2.2.1 < ((sa.2.2.2.1).length:Int),(ta2.1 != 7)=false,(ta2.2.2.1 != 1)=false,(decide (ta2.2.1 ≥ (Int.tdiv (((t3).length:Int)+2) 3)))=false,(decide (ta2.2.1 < 0))=false,(0:Int)≤sa.2.2.1,nth (t10.1) (Int.toNat sa.2.2.1)=some (.agg [I ta2.1,I ta2.2.1,I ta2.2.2.1,I ta2.2.2.2.1,I ta2.2.2.2.2.1,I ta2.2.2.2.2.2]),(decide (sa.2.2.1 < ((t10.1).length:Int)))=true]) (by kernel_rfl) ⟨ha31,(by unfold Qa;omega),ha30,ha29,ha28,ha27,(Qv ha26),(decide_eq_true ha25),ha16,ha10,(by unfold Qa;omega),(decide_eq_false ha24),ha13,ha10,(by unfold Qa;omega),(decide_eq_false ha23),ha22,ha10,(decide_eq_true ha21),ha20,ha7,(VS ha19),Qo Qm ha18,ha17,ha16,ha10,Qo Qm ha15,ha14,ha13,ha10,Qo Qm ha12,ha11,ha10,(Qy ha9),Qo ZD ha8,ha7,(nef ha6),(nef ha5),(decide_eq_false ha4),(decide_eq_false ha3),(Qw Qq ha2).1,(Qw Qq ha2).2,(decide_eq_true ha1),trivial⟩⟩
           ·replace h:=Ql h ha25
            obtain ⟨ha26,h⟩:=Qf h
            replace h:=Option.some.inj h
            subst h
            exact ⟨100,206,[.br true,.el (.agg [I ta2.1,I ta2.2.1,I ta2.2.2.1,I ta2.2.2.2.1,I ta2.2.2.2.2.1,I ta2.2.2.2.2.2]),.br false,.br false,.br false,.br false,.br true,.el (B ta8),.br false,.br true,.el (I ta12),.br true,.el (I ta15),.br true,.el (I ta18),.br false,.br true,.br true,.br true,.no,.no,.br false,.no,.no,.br false,.no,.no,.br false,.no,.no],[],[1,2,5,6,14,17,18,19,20,21,147,148,149],[0,12,174,183,185,189,196],Qi (ob:=[Qa (sa.2.2.1+1),Qa 3,(decide (((3 * ta2.2.1)+2) < ((a2).length:Int)))=false,Qa ((3 * ta2.2.1)+2),Qa (3 * ta2.2.1),Qa 2,(decide (((3 * ta2.2.1)+1) < ((a2).length:Int)))=false,Qa ((3 * ta2.2.1)+1),Qa (3 * ta2.2.1),Qa 1,(decide (((3 * ta2.2.1)+0) < ((a2).length:Int)))=false,Qa ((3 * ta2.2.1)+0),Qa (3 * ta2.2.1),(decide (sa.1 < 0))=true,(Int.toNat ta2.2.1) < (sa.2.2.2.1).length,0≤ta2.2.1∧ta2.2.1 < ((sa.2.2.2.1).length:Int),(!((ta2.2.2.2.1 == ta12) && ((ta2.2.2.2.2.1 == ta15) && ((ta2.2.2.2.2.2 == ta18) && true))))=false,nth (t6) (Int.toNat ((3 * ta2.2.1)+2))=some (I ta18),0≤((3 * ta2.2.1)+2)∧((3 * ta2.2.1)+2) < ((t6).length:Int),Qa ((3 * ta2.2.1)+2),Qa (3 * ta2.2.1),nth (t6) (Int.toNat ((3 * ta2.2.1)+1))=some (I ta15),0≤((3 * ta2.2.1)+1)∧((3 * ta2.2.1)+1) < ((t6).length:Int),Qa ((3 * ta2.2.1)+1),Qa (3 * ta2.2.1),nth (t6) (Int.toNat (3 * ta2.2.1))=some (I ta12),0≤(3 * ta2.2.1)∧(3 * ta2.2.1) < ((t6).length:Int),Qa (3 * ta2.2.1),ta8=false,nth (sa.2.2.2.1) (Int.toNat ta2.2.1)=some (B ta8),0≤ta2.2.1∧ta2.2.1 < ((sa.2.2.2.1).length:Int),(ta2.1 != 7)=false,(ta2.2.2.1 != 1)=false,(decide (ta2.2.1 ≥ (Int.tdiv (((t3).length:Int)+2) 3)))=false,(decide (ta2.2.1 < 0))=false,(0:Int)≤sa.2.2.1,nth (t10.1) (Int.toNat sa.2.2.1)=some (.agg [I ta2.1,I ta2.2.1,I ta2.2.2.1,I ta2.2.2.2.1,I ta2.2.2.2.2.1,I ta2.2.2.2.2.2]),(decide (sa.2.2.1 < ((t10.1).length:Int)))=true]) (by kernel_rfl) ⟨ha26,(by unfold Qa;omega),(decide_eq_false ha25),ha16,ha10,(by unfold Qa;omega),(decide_eq_false ha24),ha13,ha10,(by unfold Qa;omega),(decide_eq_false ha23),ha22,ha10,(decide_eq_true ha21),ha20,ha7,(VS ha19),Qo Qm ha18,ha17,ha16,ha10,Qo Qm ha15,ha14,ha13,ha10,Qo Qm ha12,ha11,ha10,(Qy ha9),Qo ZD ha8,ha7,(nef ha6),(nef ha5),(decide_eq_false ha4),(decide_eq_false ha3),(Qw Qq ha2).1,(Qw Qq ha2).2,(decide_eq_true ha1),trivial⟩⟩
        ·replace h:=Ql h ha21
         obtain ⟨ha22,h⟩:=Qf h
         by_cases ha23:((3 * ta2.2.1)+0) < ((a2).length:Int)
         ·replace h:=Qk h ha23
          obtain ⟨ta24,ha24,h⟩:=Qe h
          obtain ⟨ha25,h⟩:=Qf h
          obtain ⟨ha26,h⟩:=Qf h
          obtain ⟨ha27,h⟩:=Qf h
          obtain ⟨ha28,h⟩:=Qf h
          by_cases ha29:((3 * ta2.2.1)+1) < ((a2).length:Int)
          ·replace h:=Qk h ha29
           obtain ⟨ta30,ha30,h⟩:=Qe h
           obtain ⟨ha31,h⟩:=Qf h
           obtain ⟨ha32,h⟩:=Qf h
           obtain ⟨ha33,h⟩:=Qf h
           obtain ⟨ha34,h⟩:=Qf h
           by_cases ha35:((3 * ta2.2.1)+2) < ((a2).length:Int)
           ·replace h:=Qk h ha35
            obtain ⟨ta36,ha36,h⟩:=Qe h
            obtain ⟨ha37,h⟩:=Qf h
            obtain ⟨ha38,h⟩:=Qf h
            obtain ⟨ha39,h⟩:=Qf h
            obtain ⟨ha40,h⟩:=Qf h
            obtain ⟨ha41,h⟩:=Qf h
            replace h:=Option.some.inj h
            subst h
            exact ⟨100,206,[.br true,.el (.agg [I ta2.1,I ta2.2.1,I ta2.2.2.1,I ta2.2.2.2.1,I ta2.2.2.2.2.1,I ta2.2.2.2.2.2]),.br false,.br false,.br false,.br false,.br true,.el (B ta8),.br false,.br true,.el (I ta12),.br true,.el (I ta15),.br true,.el (I ta18),.br false,.br true,.br true,.br false,.no,.no,.br true,.ret (.v (.float .f32 ta24)),.br true,.br true,.br true,.br true,.no,.no,.br true,.ret (.v (.float .f32 ta30)),.br true,.br true,.br true,.br true,.no,.no,.br true,.ret (.v (.float .f32 ta36)),.br true,.br true,.br true,.br true,.no,.no],[],[1,2,5,6,14,17,18,19,20,21,147,148,149],[0,12,174,183,185,189,196],Qi (ob:=[Qa (sa.2.2.1+1),Qa 3,(Int.toNat ((3 * ta2.2.1)+2)) < ((List.set (List.set sa.2.2.2.2.2 (Int.toNat ((3 * ta2.2.1)+0)) (.v (.float .f32 0):D)) (Int.toNat ((3 * ta2.2.1)+1)) (.v (.float .f32 0):D)):List D).length,0≤((3 * ta2.2.1)+2)∧((3 * ta2.2.1)+2) < (((List.set (List.set sa.2.2.2.2.2 (Int.toNat ((3 * ta2.2.1)+0)) (.v (.float .f32 0):D)) (Int.toNat ((3 * ta2.2.1)+1)) (.v (.float .f32 0):D)):List D).length:Int),(Int.toNat ((3 * ta2.2.1)+2)) < ((List.set (List.set sa.2.2.2.2.1 (Int.toNat ((3 * ta2.2.1)+0)) (.v (.float .f32 ta24):D)) (Int.toNat ((3 * ta2.2.1)+1)) (.v (.float .f32 ta30):D)):List D).length,0≤((3 * ta2.2.1)+2)∧((3 * ta2.2.1)+2) < (((List.set (List.set sa.2.2.2.2.1 (Int.toNat ((3 * ta2.2.1)+0)) (.v (.float .f32 ta24):D)) (Int.toNat ((3 * ta2.2.1)+1)) (.v (.float .f32 ta30):D)):List D).length:Int),Computes cx 10 [I ta2.2.2.2.2.2] (.v (.float .f32 ta36)),(decide (((3 * ta2.2.1)+2) < ((a2).length:Int)))=true,Qa ((3 * ta2.2.1)+2),Qa (3 * ta2.2.1),Qa 2,(Int.toNat ((3 * ta2.2.1)+1)) < ((List.set sa.2.2.2.2.2 (Int.toNat ((3 * ta2.2.1)+0)) (.v (.float .f32 0):D)):List D).length,0≤((3 * ta2.2.1)+1)∧((3 * ta2.2.1)+1) < (((List.set sa.2.2.2.2.2 (Int.toNat ((3 * ta2.2.1)+0)) (.v (.float .f32 0):D)):List D).length:Int),(Int.toNat ((3 * ta2.2.1)+1)) < ((List.set sa.2.2.2.2.1 (Int.toNat ((3 * ta2.2.1)+0)) (.v (.float .f32 ta24):D)):List D).length,0≤((3 * ta2.2.1)+1)∧((3 * ta2.2.1)+1) < (((List.set sa.2.2.2.2.1 (Int.toNat ((3 * ta2.2.1)+0)) (.v (.float .f32 ta24):D)):List D).length:Int),Computes cx 10 [I ta2.2.2.2.2.1] (.v (.float .f32 ta30)),(decide (((3 * ta2.2.1)+1) < ((a2).length:Int)))=true,Qa ((3 * ta2.2.1)+1),Qa (3 * ta2.2.1),Qa 1,(Int.toNat ((3 * ta2.2.1)+0)) < (sa.2.2.2.2.2).length,0≤((3 * ta2.2.1)+0)∧((3 * ta2.2.1)+0) < ((sa.2.2.2.2.2).length:Int),(Int.toNat ((3 * ta2.2.1)+0)) < (sa.2.2.2.2.1).length,0≤((3 * ta2.2.1)+0)∧((3 * ta2.2.1)+0) < ((sa.2.2.2.2.1).length:Int),Computes cx 10 [I ta2.2.2.2.1] (.v (.float .f32 ta24)),(decide (((3 * ta2.2.1)+0) < ((a2).length:Int)))=true,Qa ((3 * ta2.2.1)+0),Qa (3 * ta2.2.1),(decide (sa.1 < 0))=false,(Int.toNat ta2.2.1) < (sa.2.2.2.1).length,0≤ta2.2.1∧ta2.2.1 < ((sa.2.2.2.1).length:Int),(!((ta2.2.2.2.1 == ta12) && ((ta2.2.2.2.2.1 == ta15) && ((ta2.2.2.2.2.2 == ta18) && true))))=false,nth (t6) (Int.toNat ((3 * ta2.2.1)+2))=some (I ta18),0≤((3 * ta2.2.1)+2)∧((3 * ta2.2.1)+2) < ((t6).length:Int),Qa ((3 * ta2.2.1)+2),Qa (3 * ta2.2.1),nth (t6) (Int.toNat ((3 * ta2.2.1)+1))=some (I ta15),0≤((3 * ta2.2.1)+1)∧((3 * ta2.2.1)+1) < ((t6).length:Int),Qa ((3 * ta2.2.1)+1),Qa (3 * ta2.2.1),nth (t6) (Int.toNat (3 * ta2.2.1))=some (I ta12),0≤(3 * ta2.2.1)∧(3 * ta2.2.1) < ((t6).length:Int),Qa (3 * ta2.2.1),ta8=false,nth (sa.2.2.2.1) (Int.toNat ta2.2.1)=some (B ta8),0≤ta2.2.1∧ta2.2.1 < ((sa.2.2.2.1).length:Int),(ta2.1 != 7)=false,(ta2.2.2.1 != 1)=false,(decide (ta2.2.1 ≥ (Int.tdiv (((t3).length:Int)+2) 3)))=false,(decide (ta2.2.1 < 0))=false,(0:Int)≤sa.2.2.1,nth (t10.1) (Int.toNat sa.2.2.1)=some (.agg [I ta2.1,I ta2.2.1,I ta2.2.2.1,I ta2.2.2.2.1,I ta2.2.2.2.2.1,I ta2.2.2.2.2.2]),(decide (sa.2.2.1 < ((t10.1).length:Int)))=true]) (by kernel_rfl) ⟨ha41,(by unfold Qa;omega),ha40,ha39,ha38,ha37,(Qv ha36),(decide_eq_true ha35),ha16,ha10,(by unfold Qa;omega),ha34,ha33,ha32,ha31,(Qv ha30),(decide_eq_true ha29),ha13,ha10,(by unfold Qa;omega),ha28,ha27,ha26,ha25,(Qv ha24),(decide_eq_true ha23),ha22,ha10,(decide_eq_false ha21),ha20,ha7,(VS ha19),Qo Qm ha18,ha17,ha16,ha10,Qo Qm ha15,ha14,ha13,ha10,Qo Qm ha12,ha11,ha10,(Qy ha9),Qo ZD ha8,ha7,(nef ha6),(nef ha5),(decide_eq_false ha4),(decide_eq_false ha3),(Qw Qq ha2).1,(Qw Qq ha2).2,(decide_eq_true ha1),trivial⟩⟩
           ·replace h:=Ql h ha35
            obtain ⟨ha36,h⟩:=Qf h
            replace h:=Option.some.inj h
            subst h
            exact ⟨100,206,[.br true,.el (.agg [I ta2.1,I ta2.2.1,I ta2.2.2.1,I ta2.2.2.2.1,I ta2.2.2.2.2.1,I ta2.2.2.2.2.2]),.br false,.br false,.br false,.br false,.br true,.el (B ta8),.br false,.br true,.el (I ta12),.br true,.el (I ta15),.br true,.el (I ta18),.br false,.br true,.br true,.br false,.no,.no,.br true,.ret (.v (.float .f32 ta24)),.br true,.br true,.br true,.br true,.no,.no,.br true,.ret (.v (.float .f32 ta30)),.br true,.br true,.br true,.br true,.no,.no,.br false,.no,.no],[],[1,2,5,6,14,17,18,19,20,21,147,148,149],[0,12,174,183,185,189,196],Qi (ob:=[Qa (sa.2.2.1+1),Qa 3,(decide (((3 * ta2.2.1)+2) < ((a2).length:Int)))=false,Qa ((3 * ta2.2.1)+2),Qa (3 * ta2.2.1),Qa 2,(Int.toNat ((3 * ta2.2.1)+1)) < ((List.set sa.2.2.2.2.2 (Int.toNat ((3 * ta2.2.1)+0)) (.v (.float .f32 0):D)):List D).length,0≤((3 * ta2.2.1)+1)∧((3 * ta2.2.1)+1) < (((List.set sa.2.2.2.2.2 (Int.toNat ((3 * ta2.2.1)+0)) (.v (.float .f32 0):D)):List D).length:Int),(Int.toNat ((3 * ta2.2.1)+1)) < ((List.set sa.2.2.2.2.1 (Int.toNat ((3 * ta2.2.1)+0)) (.v (.float .f32 ta24):D)):List D).length,0≤((3 * ta2.2.1)+1)∧((3 * ta2.2.1)+1) < (((List.set sa.2.2.2.2.1 (Int.toNat ((3 * ta2.2.1)+0)) (.v (.float .f32 ta24):D)):List D).length:Int),Computes cx 10 [I ta2.2.2.2.2.1] (.v (.float .f32 ta30)),(decide (((3 * ta2.2.1)+1) < ((a2).length:Int)))=true,Qa ((3 * ta2.2.1)+1),Qa (3 * ta2.2.1),Qa 1,(Int.toNat ((3 * ta2.2.1)+0)) < (sa.2.2.2.2.2).length,0≤((3 * ta2.2.1)+0)∧((3 * ta2.2.1)+0) < ((sa.2.2.2.2.2).length:Int),(Int.toNat ((3 * ta2.2.1)+0)) < (sa.2.2.2.2.1).length,0≤((3 * ta2.2.1)+0)∧((3 * ta2.2.1)+0) < ((sa.2.2.2.2.1).length:Int),Computes cx 10 [I ta2.2.2.2.1] (.v (.float .f32 ta24)),(decide (((3 * ta2.2.1)+0) < ((a2).length:Int)))=true,Qa ((3 * ta2.2.1)+0),Qa (3 * ta2.2.1),(decide (sa.1 < 0))=false,(Int.toNat ta2.2.1) < (sa.2.2.2.1).length,0≤ta2.2.1∧ta2.2.1 < ((sa.2.2.2.1).length:Int),(!((ta2.2.2.2.1 == ta12) && ((ta2.2.2.2.2.1 == ta15) && ((ta2.2.2.2.2.2 == ta18) && true))))=false,nth (t6) (Int.toNat ((3 * ta2.2.1)+2))=some (I ta18),0≤((3 * ta2.2.1)+2)∧((3 * ta2.2.1)+2) < ((t6).length:Int),Qa ((3 * ta2.2.1)+2),Qa (3 * ta2.2.1),nth (t6) (Int.toNat ((3 * ta2.2.1)+1))=some (I ta15),0≤((3 * ta2.2.1)+1)∧((3 * ta2.2.1)+1) < ((t6).length:Int),Qa ((3 * ta2.2.1)+1),Qa (3 * ta2.2.1),nth (t6) (Int.toNat (3 * ta2.2.1))=some (I ta12),0≤(3 * ta2.2.1)∧(3 * ta2.2.1) < ((t6).length:Int),Qa (3 * ta2.2.1),ta8=false,nth (sa.2.2.2.1) (Int.toNat ta2.2.1)=some (B ta8),0≤ta2.2.1∧ta2.2.1 < ((sa.2.2.2.1).length:Int),(ta2.1 != 7)=false,(ta2.2.2.1 != 1)=false,(decide (ta2.2.1 ≥ (Int.tdiv (((t3).length:Int)+2) 3)))=false,(decide (ta2.2.1 < 0))=false,(0:Int)≤sa.2.2.1,nth (t10.1) (Int.toNat sa.2.2.1)=some (.agg [I ta2.1,I ta2.2.1,I ta2.2.2.1,I ta2.2.2.2.1,I ta2.2.2.2.2.1,I ta2.2.2.2.2.2]),(decide (sa.2.2.1 < ((t10.1).length:Int)))=true]) (by kernel_rfl) ⟨ha36,(by unfold Qa;omega),(decide_eq_false ha35),ha16,ha10,(by unfold Qa;omega),ha34,ha33,ha32,ha31,(Qv ha30),(decide_eq_true ha29),ha13,ha10,(by unfold Qa;omega),ha28,ha27,ha26,ha25,(Qv ha24),(decide_eq_true ha23),ha22,ha10,(decide_eq_false ha21),ha20,ha7,(VS ha19),Qo Qm ha18,ha17,ha16,ha10,Qo Qm ha15,ha14,ha13,ha10,Qo Qm ha12,ha11,ha10,(Qy ha9),Qo ZD ha8,ha7,(nef ha6),(nef ha5),(decide_eq_false ha4),(decide_eq_false ha3),(Qw Qq ha2).1,(Qw Qq ha2).2,(decide_eq_true ha1),trivial⟩⟩
          ·replace h:=Ql h ha29
           by_cases ha30:((3 * ta2.2.1)+2) < ((a2).length:Int)
           ·replace h:=Qk h ha30
            obtain ⟨ta31,ha31,h⟩:=Qe h
            obtain ⟨ha32,h⟩:=Qf h
            obtain ⟨ha33,h⟩:=Qf h
            obtain ⟨ha34,h⟩:=Qf h
            obtain ⟨ha35,h⟩:=Qf h
            obtain ⟨ha36,h⟩:=Qf h
            replace h:=Option.some.inj h
            subst h
            exact ⟨100,206,[.br true,.el (.agg [I ta2.1,I ta2.2.1,I ta2.2.2.1,I ta2.2.2.2.1,I ta2.2.2.2.2.1,I ta2.2.2.2.2.2]),.br false,.br false,.br false,.br false,.br true,.el (B ta8),.br false,.br true,.el (I ta12),.br true,.el (I ta15),.br true,.el (I ta18),.br false,.br true,.br true,.br false,.no,.no,.br true,.ret (.v (.float .f32 ta24)),.br true,.br true,.br true,.br true,.no,.no,.br false,.no,.no,.br true,.ret (.v (.float .f32 ta31)),.br true,.br true,.br true,.br true,.no,.no],[],[1,2,5,6,14,17,18,19,20,21,147,148,149],[0,12,174,183,185,189,196],Qi (ob:=[Qa (sa.2.2.1+1),Qa 3,(Int.toNat ((3 * ta2.2.1)+2)) < ((List.set sa.2.2.2.2.2 (Int.toNat ((3 * ta2.2.1)+0)) (.v (.float .f32 0):D)):List D).length,0≤((3 * ta2.2.1)+2)∧((3 * ta2.2.1)+2) < (((List.set sa.2.2.2.2.2 (Int.toNat ((3 * ta2.2.1)+0)) (.v (.float .f32 0):D)):List D).length:Int),(Int.toNat ((3 * ta2.2.1)+2)) < ((List.set sa.2.2.2.2.1 (Int.toNat ((3 * ta2.2.1)+0)) (.v (.float .f32 ta24):D)):List D).length,0≤((3 * ta2.2.1)+2)∧((3 * ta2.2.1)+2) < (((List.set sa.2.2.2.2.1 (Int.toNat ((3 * ta2.2.1)+0)) (.v (.float .f32 ta24):D)):List D).length:Int),Computes cx 10 [I ta2.2.2.2.2.2] (.v (.float .f32 ta31)),(decide (((3 * ta2.2.1)+2) < ((a2).length:Int)))=true,Qa ((3 * ta2.2.1)+2),Qa (3 * ta2.2.1),Qa 2,(decide (((3 * ta2.2.1)+1) < ((a2).length:Int)))=false,Qa ((3 * ta2.2.1)+1),Qa (3 * ta2.2.1),Qa 1,(Int.toNat ((3 * ta2.2.1)+0)) < (sa.2.2.2.2.2).length,0≤((3 * ta2.2.1)+0)∧((3 * ta2.2.1)+0) < ((sa.2.2.2.2.2).length:Int),(Int.toNat ((3 * ta2.2.1)+0)) < (sa.2.2.2.2.1).length,0≤((3 * ta2.2.1)+0)∧((3 * ta2.2.1)+0) < ((sa.2.2.2.2.1).length:Int),Computes cx 10 [I ta2.2.2.2.1] (.v (.float .f32 ta24)),(decide (((3 * ta2.2.1)+0) < ((a2).length:Int)))=true,Qa ((3 * ta2.2.1)+0),Qa (3 * ta2.2.1),(decide (sa.1 < 0))=false,(Int.toNat ta2.2.1) < (sa.2.2.2.1).length,0≤ta2.2.1∧ta2.2.1 < ((sa.2.2.2.1).length:Int),(!((ta2.2.2.2.1 == ta12) && ((ta2.2.2.2.2.1 == ta15) && ((ta2.2.2.2.2.2 == ta18) && true))))=false,nth (t6) (Int.toNat ((3 * ta2.2.1)+2))=some (I ta18),0≤((3 * ta2.2.1)+2)∧((3 * ta2.2.1)+2) < ((t6).length:Int),Qa ((3 * ta2.2.1)+2),Qa (3 * ta2.2.1),nth (t6) (Int.toNat ((3 * ta2.2.1)+1))=some (I ta15),0≤((3 * ta2.2.1)+1)∧((3 * ta2.2.1)+1) < ((t6).length:Int),Qa ((3 * ta2.2.1)+1),Qa (3 * ta2.2.1),nth (t6) (Int.toNat (3 * ta2.2.1))=some (I ta12),0≤(3 * ta2.2.1)∧(3 * ta2.2.1) < ((t6).length:Int),Qa (3 * ta2.2.1),ta8=false,nth (sa.2.2.2.1) (Int.toNat ta2.2.1)=some (B ta8),0≤ta2.2.1∧ta2.2.1 < ((sa.2.2.2.1).length:Int),(ta2.1 != 7)=false,(ta2.2.2.1 != 1)=false,(decide (ta2.2.1 ≥ (Int.tdiv (((t3).length:Int)+2) 3)))=false,(decide (ta2.2.1 < 0))=false,(0:Int)≤sa.2.2.1,nth (t10.1) (Int.toNat sa.2.2.1)=some (.agg [I ta2.1,I ta2.2.1,I ta2.2.2.1,I ta2.2.2.2.1,I ta2.2.2.2.2.1,I ta2.2.2.2.2.2]),(decide (sa.2.2.1 < ((t10.1).length:Int)))=true]) (by kernel_rfl) ⟨ha36,(by unfold Qa;omega),ha35,ha34,ha33,ha32,(Qv ha31),(decide_eq_true ha30),ha16,ha10,(by unfold Qa;omega),(decide_eq_false ha29),ha13,ha10,(by unfold Qa;omega),ha28,ha27,ha26,ha25,(Qv ha24),(decide_eq_true ha23),ha22,ha10,(decide_eq_false ha21),ha20,ha7,(VS ha19),Qo Qm ha18,ha17,ha16,ha10,Qo Qm ha15,ha14,ha13,ha10,Qo Qm ha12,ha11,ha10,(Qy ha9),Qo ZD ha8,ha7,(nef ha6),(nef ha5),(decide_eq_false ha4),(decide_eq_false ha3),(Qw Qq ha2).1,(Qw Qq ha2).2,(decide_eq_true ha1),trivial⟩⟩
           ·replace h:=Ql h ha30
            obtain ⟨ha31,h⟩:=Qf h
            replace h:=Option.some.inj h
            subst h
            exact ⟨100,206,[.br true,.el (.agg [I ta2.1,I ta2.2.1,I ta2.2.2.1,I ta2.2.2.2.1,I ta2.2.2.2.2.1,I ta2.2.2.2.2.2]),.br false,.br false,.br false,.br false,.br true,.el (B ta8),.br false,.br true,.el (I ta12),.br true,.el (I ta15),.br true,.el (I ta18),.br false,.br true,.br true,.br false,.no,.no,.br true,.ret (.v (.float .f32 ta24)),.br true,.br true,.br true,.br true,.no,.no,.br false,.no,.no,.br false,.no,.no],[],[1,2,5,6,14,17,18,19,20,21,147,148,149],[0,12,174,183,185,189,196],Qi (ob:=[Qa (sa.2.2.1+1),Qa 3,(decide (((3 * ta2.2.1)+2) < ((a2).length:Int)))=false,Qa ((3 * ta2.2.1)+2),Qa (3 * ta2.2.1),Qa 2,(decide (((3 * ta2.2.1)+1) < ((a2).length:Int)))=false,Qa ((3 * ta2.2.1)+1),Qa (3 * ta2.2.1),Qa 1,(Int.toNat ((3 * ta2.2.1)+0)) < (sa.2.2.2.2.2).length,0≤((3 * ta2.2.1)+0)∧((3 * ta2.2.1)+0) < ((sa.2.2.2.2.2).length:Int),(Int.toNat ((3 * ta2.2.1)+0)) < (sa.2.2.2.2.1).length,0≤((3 * ta2.2.1)+0)∧((3 * ta2.2.1)+0) < ((sa.2.2.2.2.1).length:Int),Computes cx 10 [I ta2.2.2.2.1] (.v (.float .f32 ta24)),(decide (((3 * ta2.2.1)+0) < ((a2).length:Int)))=true,Qa ((3 * ta2.2.1)+0),Qa (3 * ta2.2.1),(decide (sa.1 < 0))=false,(Int.toNat ta2.2.1) < (sa.2.2.2.1).length,0≤ta2.2.1∧ta2.2.1 < ((sa.2.2.2.1).length:Int),(!((ta2.2.2.2.1 == ta12) && ((ta2.2.2.2.2.1 == ta15) && ((ta2.2.2.2.2.2 == ta18) && true))))=false,nth (t6) (Int.toNat ((3 * ta2.2.1)+2))=some (I ta18),0≤((3 * ta2.2.1)+2)∧((3 * ta2.2.1)+2) < ((t6).length:Int),Qa ((3 * ta2.2.1)+2),Qa (3 * ta2.2.1),nth (t6) (Int.toNat ((3 * ta2.2.1)+1))=some (I ta15),0≤((3 * ta2.2.1)+1)∧((3 * ta2.2.1)+1) < ((t6).length:Int),Qa ((3 * ta2.2.1)+1),Qa (3 * ta2.2.1),nth (t6) (Int.toNat (3 * ta2.2.1))=some (I ta12),0≤(3 * ta2.2.1)∧(3 * ta2.2.1) < ((t6).length:Int),Qa (3 * ta2.2.1),ta8=false,nth (sa.2.2.2.1) (Int.toNat ta2.2.1)=some (B ta8),0≤ta2.2.1∧ta2.2.1 < ((sa.2.2.2.1).length:Int),(ta2.1 != 7)=false,(ta2.2.2.1 != 1)=false,(decide (ta2.2.1 ≥ (Int.tdiv (((t3).length:Int)+2) 3)))=false,(decide (ta2.2.1 < 0))=false,(0:Int)≤sa.2.2.1,nth (t10.1) (Int.toNat sa.2.2.1)=some (.agg [I ta2.1,I ta2.2.1,I ta2.2.2.1,I ta2.2.2.2.1,I ta2.2.2.2.2.1,I ta2.2.2.2.2.2]),(decide (sa.2.2.1 < ((t10.1).length:Int)))=true]) (by kernel_rfl) ⟨ha31,(by unfold Qa;omega),(decide_eq_false ha30),ha16,ha10,(by unfold Qa;omega),(decide_eq_false ha29),ha13,ha10,(by unfold Qa;omega),ha28,ha27,ha26,ha25,(Qv ha24),(decide_eq_true ha23),ha22,ha10,(decide_eq_false ha21),ha20,ha7,(VS ha19),Qo Qm ha18,ha17,ha16,ha10,Qo Qm ha15,ha14,ha13,ha10,Qo Qm ha12,ha11,ha10,(Qy ha9),Qo ZD ha8,ha7,(nef ha6),(nef ha5),(decide_eq_false ha4),(decide_eq_false ha3),(Qw Qq ha2).1,(Qw Qq ha2).2,(decide_eq_true ha1),trivial⟩⟩
         ·replace h:=Ql h ha23
          by_cases ha24:((3 * ta2.2.1)+1) < ((a2).length:Int)
          ·replace h:=Qk h ha24
           obtain ⟨ta25,ha25,h⟩:=Qe h
           obtain ⟨ha26,h⟩:=Qf h
           obtain ⟨ha27,h⟩:=Qf h
           obtain ⟨ha28,h⟩:=Qf h
           obtain ⟨ha29,h⟩:=Qf h
           by_cases ha30:((3 * ta2.2.1)+2) < ((a2).length:Int)
           ·replace h:=Qk h ha30
            obtain ⟨ta31,ha31,h⟩:=Qe h
            obtain ⟨ha32,h⟩:=Qf h
            obtain ⟨ha33,h⟩:=Qf h
            obtain ⟨ha34,h⟩:=Qf h
            obtain ⟨ha35,h⟩:=Qf h
            obtain ⟨ha36,h⟩:=Qf h
            replace h:=Option.some.inj h
            subst h
            exact ⟨100,206,[.br true,.el (.agg [I ta2.1,I ta2.2.1,I ta2.2.2.1,I ta2.2.2.2.1,I ta2.2.2.2.2.1,I ta2.2.2.2.2.2]),.br false,.br false,.br false,.br false,.br true,.el (B ta8),.br false,.br true,.el (I ta12),.br true,.el (I ta15),.br true,.el (I ta18),.br false,.br true,.br true,.br false,.no,.no,.br false,.no,.no,.br true,.ret (.v (.float .f32 ta25)),.br true,.br true,.br true,.br true,.no,.no,.br true,.ret (.v (.float .f32 ta31)),.br true,.br true,.br true,.br true,.no,.no],[],[1,2,5,6,14,17,18,19,20,21,147,148,149],[0,12,174,183,185,189,196],Qi (ob:=[Qa (sa.2.2.1+1),Qa 3,(Int.toNat ((3 * ta2.2.1)+2)) < ((List.set sa.2.2.2.2.2 (Int.toNat ((3 * ta2.2.1)+1)) (.v (.float .f32 0):D)):List D).length,0≤((3 * ta2.2.1)+2)∧((3 * ta2.2.1)+2) < (((List.set sa.2.2.2.2.2 (Int.toNat ((3 * ta2.2.1)+1)) (.v (.float .f32 0):D)):List D).length:Int),(Int.toNat ((3 * ta2.2.1)+2)) < ((List.set sa.2.2.2.2.1 (Int.toNat ((3 * ta2.2.1)+1)) (.v (.float .f32 ta25):D)):List D).length,0≤((3 * ta2.2.1)+2)∧((3 * ta2.2.1)+2) < (((List.set sa.2.2.2.2.1 (Int.toNat ((3 * ta2.2.1)+1)) (.v (.float .f32 ta25):D)):List D).length:Int),Computes cx 10 [I ta2.2.2.2.2.2] (.v (.float .f32 ta31)),(decide (((3 * ta2.2.1)+2) < ((a2).length:Int)))=true,Qa ((3 * ta2.2.1)+2),Qa (3 * ta2.2.1),Qa 2,(Int.toNat ((3 * ta2.2.1)+1)) < (sa.2.2.2.2.2).length,0≤((3 * ta2.2.1)+1)∧((3 * ta2.2.1)+1) < ((sa.2.2.2.2.2).length:Int),(Int.toNat ((3 * ta2.2.1)+1)) < (sa.2.2.2.2.1).length,0≤((3 * ta2.2.1)+1)∧((3 * ta2.2.1)+1) < ((sa.2.2.2.2.1).length:Int),Computes cx 10 [I ta2.2.2.2.2.1] (.v (.float .f32 ta25)),(decide (((3 * ta2.2.1)+1) < ((a2).length:Int)))=true,Qa ((3 * ta2.2.1)+1),Qa (3 * ta2.2.1),Qa 1,(decide (((3 * ta2.2.1)+0) < ((a2).length:Int)))=false,Qa ((3 * ta2.2.1)+0),Qa (3 * ta2.2.1),(decide (sa.1 < 0))=false,(Int.toNat ta2.2.1) < (sa.2.2.2.1).length,0≤ta2.2.1∧ta2.2.1 < ((sa.2.2.2.1).length:Int),(!((ta2.2.2.2.1 == ta12) && ((ta2.2.2.2.2.1 == ta15) && ((ta2.2.2.2.2.2 == ta18) && true))))=false,nth (t6) (Int.toNat ((3 * ta2.2.1)+2))=some (I ta18),0≤((3 * ta2.2.1)+2)∧((3 * ta2.2.1)+2) < ((t6).length:Int),Qa ((3 * ta2.2.1)+2),Qa (3 * ta2.2.1),nth (t6) (Int.toNat ((3 * ta2.2.1)+1))=some (I ta15),0≤((3 * ta2.2.1)+1)∧((3 * ta2.2.1)+1) < ((t6).length:Int),Qa ((3 * ta2.2.1)+1),Qa (3 * ta2.2.1),nth (t6) (Int.toNat (3 * ta2.2.1))=some (I ta12),0≤(3 * ta2.2.1)∧(3 * ta2.2.1) < ((t6).length:Int),Qa (3 * ta2.2.1),ta8=false,nth (sa.2.2.2.1) (Int.toNat ta2.2.1)=some (B ta8),0≤ta2.2.1∧ta2.2.1 < ((sa.2.2.2.1).length:Int),(ta2.1 != 7)=false,(ta2.2.2.1 != 1)=false,(decide (ta2.2.1 ≥ (Int.tdiv (((t3).length:Int)+2) 3)))=false,(decide (ta2.2.1 < 0))=false,(0:Int)≤sa.2.2.1,nth (t10.1) (Int.toNat sa.2.2.1)=some (.agg [I ta2.1,I ta2.2.1,I ta2.2.2.1,I ta2.2.2.2.1,I ta2.2.2.2.2.1,I ta2.2.2.2.2.2]),(decide (sa.2.2.1 < ((t10.1).length:Int)))=true]) (by kernel_rfl) ⟨ha36,(by unfold Qa;omega),ha35,ha34,ha33,ha32,(Qv ha31),(decide_eq_true ha30),ha16,ha10,(by unfold Qa;omega),ha29,ha28,ha27,ha26,(Qv ha25),(decide_eq_true ha24),ha13,ha10,(by unfold Qa;omega),(decide_eq_false ha23),ha22,ha10,(decide_eq_false ha21),ha20,ha7,(VS ha19),Qo Qm ha18,ha17,ha16,ha10,Qo Qm ha15,ha14,ha13,ha10,Qo Qm ha12,ha11,ha10,(Qy ha9),Qo ZD ha8,ha7,(nef ha6),(nef ha5),(decide_eq_false ha4),(decide_eq_false ha3),(Qw Qq ha2).1,(Qw Qq ha2).2,(decide_eq_true ha1),trivial⟩⟩
           ·replace h:=Ql h ha30
            obtain ⟨ha31,h⟩:=Qf h
            replace h:=Option.some.inj h
            subst h
            exact ⟨100,206,[.br true,.el (.agg [I ta2.1,I ta2.2.1,I ta2.2.2.1,I ta2.2.2.2.1,I ta2.2.2.2.2.1,I ta2.2.2.2.2.2]),.br false,.br false,.br false,.br false,.br true,.el (B ta8),.br false,.br true,.el (I ta12),.br true,.el (I ta15),.br true,.el (I ta18),.br false,.br true,.br true,.br false,.no,.no,.br false,.no,.no,.br true,.ret (.v (.float .f32 ta25)),.br true,.br true,.br true,.br true,.no,.no,.br false,.no,.no],[],[1,2,5,6,14,17,18,19,20,21,147,148,149],[0,12,174,183,185,189,196],Qi (ob:=[Qa (sa.2.2.1+1),Qa 3,(decide (((3 * ta2.2.1)+2) < ((a2).length:Int)))=false,Qa ((3 * ta2.2.1)+2),Qa (3 * ta2.2.1),Qa 2,(Int.toNat ((3 * ta2.2.1)+1)) < (sa.2.2.2.2.2).length,0≤((3 * ta2.2.1)+1)∧((3 * ta2.2.1)+1) < ((sa.2.2.2.2.2).length:Int),(Int.toNat ((3 * ta2.2.1)+1)) < (sa.2.2.2.2.1).length,0≤((3 * ta2.2.1)+1)∧((3 * ta2.2.1)+1) < ((sa.2.2.2.2.1).length:Int),Computes cx 10 [I ta2.2.2.2.2.1] (.v (.float .f32 ta25)),(decide (((3 * ta2.2.1)+1) < ((a2).length:Int)))=true,Qa ((3 * ta2.2.1)+1),Qa (3 * ta2.2.1),Qa 1,(decide (((3 * ta2.2.1)+0) < ((a2).length:Int)))=false,Qa ((3 * ta2.2.1)+0),Qa (3 * ta2.2.1),(decide (sa.1 < 0))=false,(Int.toNat ta2.2.1) < (sa.2.2.2.1).length,0≤ta2.2.1∧ta2.2.1 < ((sa.2.2.2.1).length:Int),(!((ta2.2.2.2.1 == ta12) && ((ta2.2.2.2.2.1 == ta15) && ((ta2.2.2.2.2.2 == ta18) && true))))=false,nth (t6) (Int.toNat ((3 * ta2.2.1)+2))=some (I ta18),0≤((3 * ta2.2.1)+2)∧((3 * ta2.2.1)+2) < ((t6).length:Int),Qa ((3 * ta2.2.1)+2),Qa (3 * ta2.2.1),nth (t6) (Int.toNat ((3 * ta2.2.1)+1))=some (I ta15),0≤((3 * ta2.2.1)+1)∧((3 * ta2.2.1)+1) < ((t6).length:Int),Qa ((3 * ta2.2.1)+1),Qa (3 * ta2.2.1),nth (t6) (Int.toNat (3 * ta2.2.1))=some (I ta12),0≤(3 * ta2.2.1)∧(3 * ta2.2.1) < ((t6).length:Int),Qa (3 * ta2.2.1),ta8=false,nth (sa.2.2.2.1) (Int.toNat ta2.2.1)=some (B ta8),0≤ta2.2.1∧ta2.2.1 < ((sa.2.2.2.1).length:Int),(ta2.1 != 7)=false,(ta2.2.2.1 != 1)=false,(decide (ta2.2.1 ≥ (Int.tdiv (((t3).length:Int)+2) 3)))=false,(decide (ta2.2.1 < 0))=false,(0:Int)≤sa.2.2.1,nth (t10.1) (Int.toNat sa.2.2.1)=some (.agg [I ta2.1,I ta2.2.1,I ta2.2.2.1,I ta2.2.2.2.1,I ta2.2.2.2.2.1,I ta2.2.2.2.2.2]),(decide (sa.2.2.1 < ((t10.1).length:Int)))=true]) (by kernel_rfl) ⟨ha31,(by unfold Qa;omega),(decide_eq_false ha30),ha16,ha10,(by unfold Qa;omega),ha29,ha28,ha27,ha26,(Qv ha25),(decide_eq_true ha24),ha13,ha10,(by unfold Qa;omega),(decide_eq_false ha23),ha22,ha10,(decide_eq_false ha21),ha20,ha7,(VS ha19),Qo Qm ha18,ha17,ha16,ha10,Qo Qm ha15,ha14,ha13,ha10,Qo Qm ha12,ha11,ha10,(Qy ha9),Qo ZD ha8,ha7,(nef ha6),(nef ha5),(decide_eq_false ha4),(decide_eq_false ha3),(Qw Qq ha2).1,(Qw Qq ha2).2,(decide_eq_true ha1),trivial⟩⟩
          ·replace h:=Ql h ha24
           by_cases ha25:((3 * ta2.2.1)+2) < ((a2).length:Int)
           ·replace h:=Qk h ha25
            obtain ⟨ta26,ha26,h⟩:=Qe h
            obtain ⟨ha27,h⟩:=Qf h
            obtain ⟨ha28,h⟩:=Qf h
            obtain ⟨ha29,h⟩:=Qf h
            obtain ⟨ha30,h⟩:=Qf h
            obtain ⟨ha31,h⟩:=Qf h
            replace h:=Option.some.inj h
            subst h
            exact ⟨100,206,[.br true,.el (.agg [I ta2.1,I ta2.2.1,I ta2.2.2.1,I ta2.2.2.2.1,I ta2.2.2.2.2.1,I ta2.2.2.2.2.2]),.br false,.br false,.br false,.br false,.br true,.el (B ta8),.br false,.br true,.el (I ta12),.br true,.el (I ta15),.br true,.el (I ta18),.br false,.br true,.br true,.br false,.no,.no,.br false,.no,.no,.br false,.no,.no,.br true,.ret (.v (.float .f32 ta26)),.br true,.br true,.br true,.br true,.no,.no],[],[1,2,5,6,14,17,18,19,20,21,147,148,149],[0,12,174,183,185,189,196],Qi (ob:=[Qa (sa.2.2.1+1),Qa 3,(Int.toNat ((3 * ta2.2.1)+2)) < (sa.2.2.2.2.2).length,0≤((3 * ta2.2.1)+2)∧((3 * ta2.2.1)+2) < ((sa.2.2.2.2.2).length:Int),(Int.toNat ((3 * ta2.2.1)+2)) < (sa.2.2.2.2.1).length,0≤((3 * ta2.2.1)+2)∧((3 * ta2.2.1)+2) < ((sa.2.2.2.2.1).length:Int),Computes cx 10 [I ta2.2.2.2.2.2] (.v (.float .f32 ta26)),(decide (((3 * ta2.2.1)+2) < ((a2).length:Int)))=true,Qa ((3 * ta2.2.1)+2),Qa (3 * ta2.2.1),Qa 2,(decide (((3 * ta2.2.1)+1) < ((a2).length:Int)))=false,Qa ((3 * ta2.2.1)+1),Qa (3 * ta2.2.1),Qa 1,(decide (((3 * ta2.2.1)+0) < ((a2).length:Int)))=false,Qa ((3 * ta2.2.1)+0),Qa (3 * ta2.2.1),(decide (sa.1 < 0))=false,(Int.toNat ta2.2.1) < (sa.2.2.2.1).length,0≤ta2.2.1∧ta2.2.1 < ((sa.2.2.2.1).length:Int),(!((ta2.2.2.2.1 == ta12) && ((ta2.2.2.2.2.1 == ta15) && ((ta2.2.2.2.2.2 == ta18) && true))))=false,nth (t6) (Int.toNat ((3 * ta2.2.1)+2))=some (I ta18),0≤((3 * ta2.2.1)+2)∧((3 * ta2.2.1)+2) < ((t6).length:Int),Qa ((3 * ta2.2.1)+2),Qa (3 * ta2.2.1),nth (t6) (Int.toNat ((3 * ta2.2.1)+1))=some (I ta15),0≤((3 * ta2.2.1)+1)∧((3 * ta2.2.1)+1) < ((t6).length:Int),Qa ((3 * ta2.2.1)+1),Qa (3 * ta2.2.1),nth (t6) (Int.toNat (3 * ta2.2.1))=some (I ta12),0≤(3 * ta2.2.1)∧(3 * ta2.2.1) < ((t6).length:Int),Qa (3 * ta2.2.1),ta8=false,nth (sa.2.2.2.1) (Int.toNat ta2.2.1)=some (B ta8),0≤ta2.2.1∧ta2.2.1 < ((sa.2.2.2.1).length:Int),(ta2.1 != 7)=false,(ta2.2.2.1 != 1)=false,(decide (ta2.2.1 ≥ (Int.tdiv (((t3).length:Int)+2) 3)))=false,(decide (ta2.2.1 < 0))=false,(0:Int)≤sa.2.2.1,nth (t10.1) (Int.toNat sa.2.2.1)=some (.agg [I ta2.1,I ta2.2.1,I ta2.2.2.1,I ta2.2.2.2.1,I ta2.2.2.2.2.1,I ta2.2.2.2.2.2]),(decide (sa.2.2.1 < ((t10.1).length:Int)))=true]) (by kernel_rfl) ⟨ha31,(by unfold Qa;omega),ha30,ha29,ha28,ha27,(Qv ha26),(decide_eq_true ha25),ha16,ha10,(by unfold Qa;omega),(decide_eq_false ha24),ha13,ha10,(by unfold Qa;omega),(decide_eq_false ha23),ha22,ha10,(decide_eq_false ha21),ha20,ha7,(VS ha19),Qo Qm ha18,ha17,ha16,ha10,Qo Qm ha15,ha14,ha13,ha10,Qo Qm ha12,ha11,ha10,(Qy ha9),Qo ZD ha8,ha7,(nef ha6),(nef ha5),(decide_eq_false ha4),(decide_eq_false ha3),(Qw Qq ha2).1,(Qw Qq ha2).2,(decide_eq_true ha1),trivial⟩⟩
           ·replace h:=Ql h ha25
            obtain ⟨ha26,h⟩:=Qf h
            replace h:=Option.some.inj h
            subst h
            exact ⟨100,206,[.br true,.el (.agg [I ta2.1,I ta2.2.1,I ta2.2.2.1,I ta2.2.2.2.1,I ta2.2.2.2.2.1,I ta2.2.2.2.2.2]),.br false,.br false,.br false,.br false,.br true,.el (B ta8),.br false,.br true,.el (I ta12),.br true,.el (I ta15),.br true,.el (I ta18),.br false,.br true,.br true,.br false,.no,.no,.br false,.no,.no,.br false,.no,.no,.br false,.no,.no],[],[1,2,5,6,14,17,18,19,20,21,147,148,149],[0,12,174,183,185,189,196],Qi (ob:=[Qa (sa.2.2.1+1),Qa 3,(decide (((3 * ta2.2.1)+2) < ((a2).length:Int)))=false,Qa ((3 * ta2.2.1)+2),Qa (3 * ta2.2.1),Qa 2,(decide (((3 * ta2.2.1)+1) < ((a2).length:Int)))=false,Qa ((3 * ta2.2.1)+1),Qa (3 * ta2.2.1),Qa 1,(decide (((3 * ta2.2.1)+0) < ((a2).length:Int)))=false,Qa ((3 * ta2.2.1)+0),Qa (3 * ta2.2.1),(decide (sa.1 < 0))=false,(Int.toNat ta2.2.1) < (sa.2.2.2.1).length,0≤ta2.2.1∧ta2.2.1 < ((sa.2.2.2.1).length:Int),(!((ta2.2.2.2.1 == ta12) && ((ta2.2.2.2.2.1 == ta15) && ((ta2.2.2.2.2.2 == ta18) && true))))=false,nth (t6) (Int.toNat ((3 * ta2.2.1)+2))=some (I ta18),0≤((3 * ta2.2.1)+2)∧((3 * ta2.2.1)+2) < ((t6).length:Int),Qa ((3 * ta2.2.1)+2),Qa (3 * ta2.2.1),nth (t6) (Int.toNat ((3 * ta2.2.1)+1))=some (I ta15),0≤((3 * ta2.2.1)+1)∧((3 * ta2.2.1)+1) < ((t6).length:Int),Qa ((3 * ta2.2.1)+1),Qa (3 * ta2.2.1),nth (t6) (Int.toNat (3 * ta2.2.1))=some (I ta12),0≤(3 * ta2.2.1)∧(3 * ta2.2.1) < ((t6).length:Int),Qa (3 * ta2.2.1),ta8=false,nth (sa.2.2.2.1) (Int.toNat ta2.2.1)=some (B ta8),0≤ta2.2.1∧ta2.2.1 < ((sa.2.2.2.1).length:Int),(ta2.1 != 7)=false,(ta2.2.2.1 != 1)=false,(decide (ta2.2.1 ≥ (Int.tdiv (((t3).length:Int)+2) 3)))=false,(decide (ta2.2.1 < 0))=false,(0:Int)≤sa.2.2.1,nth (t10.1) (Int.toNat sa.2.2.1)=some (.agg [I ta2.1,I ta2.2.1,I ta2.2.2.1,I ta2.2.2.2.1,I ta2.2.2.2.2.1,I ta2.2.2.2.2.2]),(decide (sa.2.2.1 < ((t10.1).length:Int)))=true]) (by kernel_rfl) ⟨ha26,(by unfold Qa;omega),(decide_eq_false ha25),ha16,ha10,(by unfold Qa;omega),(decide_eq_false ha24),ha13,ha10,(by unfold Qa;omega),(decide_eq_false ha23),ha22,ha10,(decide_eq_false ha21),ha20,ha7,(VS ha19),Qo Qm ha18,ha17,ha16,ha10,Qo Qm ha15,ha14,ha13,ha10,Qo Qm ha12,ha11,ha10,(Qy ha9),Qo ZD ha8,ha7,(nef ha6),(nef ha5),(decide_eq_false ha4),(decide_eq_false ha3),(Qw Qq ha2).1,(Qw Qq ha2).2,(decide_eq_true ha1),trivial⟩⟩
       ·replace h:=Ql h ha19
        cases h
     ·replace h:=Ql h ha6
      obtain ⟨ha7,h⟩:=Qf h
      replace h:=Option.some.inj h
      subst h
      exact ⟨100,206,[.br true,.el (.agg [I ta2.1,I ta2.2.1,I ta2.2.2.1,I ta2.2.2.2.1,I ta2.2.2.2.2.1,I ta2.2.2.2.2.2]),.br false,.br false,.br false,.br true],[],[1,2,5,6,14,17,18,19,20,21,147,148,149],[0,12,174,183,185,189,196],Qi (ob:=[Qa (sa.2.2.1+1),(ta2.1 != 7)=true,(ta2.2.2.1 != 1)=false,(decide (ta2.2.1 ≥ (Int.tdiv (((t3).length:Int)+2) 3)))=false,(decide (ta2.2.1 < 0))=false,(0:Int)≤sa.2.2.1,nth (t10.1) (Int.toNat sa.2.2.1)=some (.agg [I ta2.1,I ta2.2.1,I ta2.2.2.1,I ta2.2.2.2.1,I ta2.2.2.2.2.1,I ta2.2.2.2.2.2]),(decide (sa.2.2.1 < ((t10.1).length:Int)))=true]) (by kernel_rfl) ⟨ha7,(net ha6),(nef ha5),(decide_eq_false ha4),(decide_eq_false ha3),(Qw Qq ha2).1,(Qw Qq ha2).2,(decide_eq_true ha1),trivial⟩⟩
    ·replace h:=Ql h ha5
     cases h
 ·replace h:=Ql h ha1
  replace h:=Option.some.inj h
  subst h
  exact ⟨⟨100,206,[.br false],[],[1,2,6,14,17,18,19,20,21],[0,174,183,185,189,196],Qi (ob:=[(decide (sa.2.2.1 < ((t10.1).length:Int)))=false]) (by kernel_rfl) ⟨(decide_eq_false ha1),trivial⟩⟩,nofun⟩
def QR (n:Nat) (a0 a1:Int) (a2:List D) (a3:Int) (t3:List D) (t10:List D×List D×Int) (t18:Int×Int×List D×List D×List D) (sa:(Int×List D)):Option (((Int×List D))⊕((List D))) :=
 if sa.1 < (Int.tdiv (((t3).length:Int)+2) 3) then
  if 0≤sa.1∧sa.1 < ((t18.2.2.1).length:Int) then
  ((nth (t18.2.2.1) (Int.toNat sa.1)).bind un_b).bind fun ta3 =>
  if 0≤sa.1 then
  if (!(ta3 == ((IntKind.wrap .u16 (((BitVec.ofInt 16 (Int.fdiv a3 (2 ^ (min (Int.toNat sa.1) 16))) &&& BitVec.ofInt 16 1).toNat:Nat):Int)) == 0)))=true then
   none
  else
  if ta3=true then
   if Qa (sa.1+1) then
   some (.inl ((sa.1+1),sa.2))
   else none
  else
  if sa.1 > t18.1 then
   if sa.1 < t18.2.1 then
    if Q5 8 ((sa.2).length+1) then
    if Qa (sa.1+1) then
    some (.inl ((sa.1+1),(sa.2++([I sa.1]:List D))))
    else none
    else none
   else
   if Qa (sa.1+1) then
   some (.inl ((sa.1+1),sa.2))
   else none
  else
  if Qa (sa.1+1) then
  some (.inl ((sa.1+1),sa.2))
  else none
  else none
  else none
 else
 some (.inr sa.2)
noncomputable def K6 (a0 a1:Int) (a2:List D) (a3:Int) (t3:List D) (t10:List D×List D×Int) (t18:Int×Int×List D×List D×List D) (sa:(Int×List D)):List (Nat×AV):=[(1,.d (.v (.int .u16 a3))),(2,.ptr 0 0 0 0 0),(14,.d (.lst false 6 t10.1)),(17,.own 174 0),(18,.ptr 185 0 0 0 0),(19,.ptr 189 0 0 0 0),(20,.d (I t18.1)),(21,.d (I t18.2.1)),(27,.own 390 0),(247,.d (I (Int.tdiv (((t3).length:Int)+2) 3))),(248,.d (I sa.1))]
noncomputable def Jl (a0 a1:Int) (a2:List D) (a3:Int) (t3:List D) (t10:List D×List D×Int) (t18:Int×Int×List D×List D×List D) (sa:(Int×List D)):List (Nat×Blk):=[(0,.box (.d (.agg [I a0,I a1,.lst false 1 a2]))),(174,.row 0 1 t18.2.2.1),(183,.row 0 1 t18.2.2.2.1),(185,.box (.agg [.d (I a0),.d (I a1),.own 183 0])),(189,.box (.agg [.d (I a0),.d (I a1),.own 196 0])),(196,.row 0 1 t18.2.2.2.2),(390,.row 0 1 sa.2)]
noncomputable def KR (a0 a1:Int) (a2:List D) (a3:Int) (t3:List D) (t10:List D×List D×Int) (t18:Int×Int×List D×List D×List D) (e:(List D)):Ex:=(.exit 8)
noncomputable def Kp (a0 a1:Int) (a2:List D) (a3:Int) (t3:List D) (t10:List D×List D×Int) (t18:Int×Int×List D×List D×List D) (e:(List D)):List (Nat×AV):=[(2,.ptr 0 0 0 0 0),(14,.d (.lst false 6 t10.1)),(18,.ptr 185 0 0 0 0),(19,.ptr 189 0 0 0 0),(27,.own 390 0)]
noncomputable def Kz (a0 a1:Int) (a2:List D) (a3:Int) (t3:List D) (t10:List D×List D×Int) (t18:Int×Int×List D×List D×List D) (e:(List D)):List (Nat×Blk):=[(0,.box (.d (.agg [I a0,I a1,.lst false 1 a2]))),(183,.row 0 1 t18.2.2.2.1),(185,.box (.agg [.d (I a0),.d (I a1),.own 183 0])),(189,.box (.agg [.d (I a0),.d (I a1),.own 196 0])),(196,.row 0 1 t18.2.2.2.2),(390,.row 0 1 e)]
theorem Wi {n:Nat} {a0 a1:Int} {a2:List D} {a3:Int} {t3:List D} {t10:List D×List D×Int} {t18:Int×Int×List D×List D×List D} (sa:(Int×List D)) (r) (h:QR n a0 a1 a2 a3 t3 t10 t18 sa=some r):Rd cx (Qp cx.P 3 4) 358 0 false (K6 a0 a1 a2 a3 t3 t10 t18) (Jl a0 a1 a2 a3 t3 t10 t18) (KR a0 a1 a2 a3 t3 t10 t18) (Kp a0 a1 a2 a3 t3 t10 t18) (Kz a0 a1 a2 a3 t3 t10 t18) sa r:=by
 unfold QR at h
 by_cases ha1:sa.1 < (Int.tdiv (((t3).length:Int)+2) 3)
 ·replace h:=Qk h ha1
  obtain ⟨ha2,h⟩:=Qf h
  obtain ⟨ta3,ha3,h⟩:=Qe h
  obtain ⟨ha4,h⟩:=Qf h
  by_cases ha5:(!(ta3 == ((IntKind.wrap .u16 (((BitVec.ofInt 16 (Int.fdiv a3 (2 ^ (min (Int.toNat sa.1) 16))) &&& BitVec.ofInt 16 1).toNat:Nat):Int)) == 0)))=true
  ·replace h:=Qk h ha5
   cases h
  ·replace h:=Ql h ha5
   by_cases ha6:ta3=true
   ·replace h:=Qk h ha6
    obtain ⟨ha7,h⟩:=Qf h
    replace h:=Option.some.inj h
    subst h
    exact ⟨100,391,[.br true,.br true,.el (B ta3),.br false,.br true,.el (B ta3),.br false,.no,.no],[],[1,2,14,17,18,19,20,21,27,247,248],[0,174,183,185,189,196,390],Qi (ob:=[Qa (sa.1+1),(!ta3)=false,nth (t18.2.2.1) (Int.toNat sa.1)=some (B ta3),0≤sa.1∧sa.1 < ((t18.2.2.1).length:Int),(!(ta3 == ((IntKind.wrap .u16 (((BitVec.ofInt 16 (Int.fdiv a3 (2 ^ (min (Int.toNat sa.1) 16))) &&& BitVec.ofInt 16 1).toNat:Nat):Int)) == 0)))=false,0≤sa.1,nth (t18.2.2.1) (Int.toNat sa.1)=some (B ta3),0≤sa.1∧sa.1 < ((t18.2.2.1).length:Int),(decide (sa.1 < (Int.tdiv (((t3).length:Int)+2) 3)))=true]) (by kernel_rfl) ⟨ha7,(VS ha6),Qo ZD ha3,ha2,(Qy ha5),ha4,Qo ZD ha3,ha2,(decide_eq_true ha1),trivial⟩⟩
   ·replace h:=Ql h ha6
    by_cases ha7:sa.1 > t18.1
    ·replace h:=Qk h ha7
     by_cases ha8:sa.1 < t18.2.1
     ·replace h:=Qk h ha8
      obtain ⟨ha9,h⟩:=Qf h
      obtain ⟨ha10,h⟩:=Qf h
      replace h:=Option.some.inj h
      subst h
      exact ⟨100,391,[.br true,.br true,.el (B ta3),.br false,.br true,.el (B ta3),.br true,.br true,.br true,.br true],[],[1,2,14,17,18,19,20,21,27,247,248],[0,174,183,185,189,196,390],Qi (ob:=[Qa (sa.1+1),room cx 3 ((sa.2).length+1),(decide (sa.1 < t18.2.1))=true,(decide (sa.1 > t18.1))=true,(!ta3)=true,nth (t18.2.2.1) (Int.toNat sa.1)=some (B ta3),0≤sa.1∧sa.1 < ((t18.2.2.1).length:Int),(!(ta3 == ((IntKind.wrap .u16 (((BitVec.ofInt 16 (Int.fdiv a3 (2 ^ (min (Int.toNat sa.1) 16))) &&& BitVec.ofInt 16 1).toNat:Nat):Int)) == 0)))=false,0≤sa.1,nth (t18.2.2.1) (Int.toNat sa.1)=some (B ta3),0≤sa.1∧sa.1 < ((t18.2.2.1).length:Int),(decide (sa.1 < (Int.tdiv (((t3).length:Int)+2) 3)))=true]) (by kernel_rfl) ⟨ha10,(Qz (b:=8) (by kernel_rfl) (by decide) ha9),(decide_eq_true ha8),(decide_eq_true ha7),(qR (Qy ha6)),Qo ZD ha3,ha2,(Qy ha5),ha4,Qo ZD ha3,ha2,(decide_eq_true ha1),trivial⟩⟩
     ·replace h:=Ql h ha8
      obtain ⟨ha9,h⟩:=Qf h
      replace h:=Option.some.inj h
      subst h
      exact ⟨100,391,[.br true,.br true,.el (B ta3),.br false,.br true,.el (B ta3),.br true,.br true,.br false],[],[1,2,14,17,18,19,20,21,27,247,248],[0,174,183,185,189,196,390],Qi (ob:=[Qa (sa.1+1),(decide (sa.1 < t18.2.1))=false,(decide (sa.1 > t18.1))=true,(!ta3)=true,nth (t18.2.2.1) (Int.toNat sa.1)=some (B ta3),0≤sa.1∧sa.1 < ((t18.2.2.1).length:Int),(!(ta3 == ((IntKind.wrap .u16 (((BitVec.ofInt 16 (Int.fdiv a3 (2 ^ (min (Int.toNat sa.1) 16))) &&& BitVec.ofInt 16 1).toNat:Nat):Int)) == 0)))=false,0≤sa.1,nth (t18.2.2.1) (Int.toNat sa.1)=some (B ta3),0≤sa.1∧sa.1 < ((t18.2.2.1).length:Int),(decide (sa.1 < (Int.tdiv (((t3).length:Int)+2) 3)))=true]) (by kernel_rfl) ⟨ha9,(decide_eq_false ha8),(decide_eq_true ha7),(qR (Qy ha6)),Qo ZD ha3,ha2,(Qy ha5),ha4,Qo ZD ha3,ha2,(decide_eq_true ha1),trivial⟩⟩
    ·replace h:=Ql h ha7
     obtain ⟨ha8,h⟩:=Qf h
     replace h:=Option.some.inj h
     subst h
     exact ⟨100,391,[.br true,.br true,.el (B ta3),.br false,.br true,.el (B ta3),.br true,.br false,.no],[],[1,2,14,17,18,19,20,21,27,247,248],[0,174,183,185,189,196,390],Qi (ob:=[Qa (sa.1+1),(decide (sa.1 > t18.1))=false,(!ta3)=true,nth (t18.2.2.1) (Int.toNat sa.1)=some (B ta3),0≤sa.1∧sa.1 < ((t18.2.2.1).length:Int),(!(ta3 == ((IntKind.wrap .u16 (((BitVec.ofInt 16 (Int.fdiv a3 (2 ^ (min (Int.toNat sa.1) 16))) &&& BitVec.ofInt 16 1).toNat:Nat):Int)) == 0)))=false,0≤sa.1,nth (t18.2.2.1) (Int.toNat sa.1)=some (B ta3),0≤sa.1∧sa.1 < ((t18.2.2.1).length:Int),(decide (sa.1 < (Int.tdiv (((t3).length:Int)+2) 3)))=true]) (by kernel_rfl) ⟨ha8,(decide_eq_false ha7),(qR (Qy ha6)),Qo ZD ha3,ha2,(Qy ha5),ha4,Qo ZD ha3,ha2,(decide_eq_true ha1),trivial⟩⟩
 ·replace h:=Ql h ha1
  replace h:=Option.some.inj h
  subst h
  exact ⟨⟨100,391,[.br false],[],[2,14,18,19,27],[0,183,185,189,196,390],Qi (ob:=[(decide (sa.1 < (Int.tdiv (((t3).length:Int)+2) 3)))=false]) (by kernel_rfl) ⟨(decide_eq_false ha1),trivial⟩⟩,nofun⟩
end Go.Proofs.YtchbppgamelchaaDoor
