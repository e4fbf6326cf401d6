/- Own texts, merged: LStr, LNum, LSpl, LWrd, LTk, LPar, LSum, LRec, LRcv, LLog, Logs1, LogsLaw. -/
import Derived.Test.YtljabneifpkbjaaGreatDoorPChk
import Derived.Lib.Bytealg
import Derived.Lib.ItoaNum
import Derived.Test.YtljabneifpkbjaaGreatDoorRec2
import Derived.Lib.SlTrimSet
import Derived.Lib.Join
import Derived.Test.YtljabneifpkbjaaGreatDoorWake
import Derived.Test.YtljabneifpkbjaaGreatDoorPAsk
set_option linter.unusedVariables false
set_option linter.unusedSimpArgs false
set_option linter.unnecessarySimpa false
namespace Go.Proofs.YtljabneifpkbjaaGreatDoor
open Go.SX
theorem QiF (l:List UInt8):(mkS l).size=l.length:=by simp [mkS,ByteArray.size]
theorem Qkr (a b:List UInt8):((mkS a).toList == (mkS b).toList)=decide (a=b):=by
 rw [Bool.eq_iff_iff,beq_iff_eq,decide_eq_true_eq,jW,jW,Qjx,Qjx]
theorem Qjy (a b:List UInt8):mkS a++mkS b=mkS (a++b):=by
 have:(mkS a++mkS b).data.toList=a++b:=by
  rw [ByteArray.data_append];simp [mkS]
 rw [← yD (mkS a++mkS b),this]
theorem Qi8 (l:List UInt8) (i:Nat):WQ (mkS l) (i:Int)=l[i]?.map fun b=>(b.toNat:Int):=by
 unfold WQ
 rw [jTj (Int.natCast_nonneg i),Int.toNat_natCast]
 have:(mkS l)[i]?=l[i]?:=by
  by_cases h:i < l.length
  ·have h' : i < (mkS l).size:=by rw [QiF];exact h
   rw [getElem?_pos (mkS l) i h',List.getElem?_eq_getElem h]
   congr 1
  ·have h' : ¬ i < (mkS l).size:=by rw [QiF];exact h
   rw [getElem?_neg (mkS l) i h',List.getElem?_eq_none (by omega)]
 rw [this]
 cases l[i]? <;> rfl
theorem Qkp (l:List UInt8) (a b:Nat):(mkS l).extract a b=mkS ((l.take b).drop a):=by
 rw [← yD ((mkS l).extract a b)]
 congr 1
 rw [ByteArray.data_extract]
 simp [mkS]
 rw [List.take_drop]
 by_cases h:a≤b
 ·rw [show a+(b - a)=b by omega]
 ·rw [show a+(b - a)=a by omega,List.drop_eq_nil_of_le (by simp;omega),List.drop_eq_nil_of_le (by simp;omega)]
theorem QmX (l:List UInt8) {a b:Nat} (h1:a≤b) (h2:b≤l.length):Qi7 (mkS l) (some (a:Int)) (some (b:Int))=some (mkS ((l.take b).drop a)):=by
 unfold Qi7
 simp only [Option.getD_some,QiF]
 rw [jTj (by omega),Int.toNat_natCast,Int.toNat_natCast,Qkp]
theorem QlT (l:List UInt8) {b:Nat} (h2:b≤l.length):Qi7 (mkS l) none (some (b:Int))=some (mkS (l.take b)):=by
 unfold Qi7
 simp only [Option.getD_some,Option.getD_none,QiF]
 rw [jTj (by omega),Int.toNat_natCast,Int.toNat_zero,Qkp,List.drop_zero]
theorem QjN (l:List UInt8) {a:Nat} (h2:a≤l.length):Qi7 (mkS l) (some (a:Int)) none=some (mkS (l.drop a)):=by
 unfold Qi7
 simp only [Option.getD_some,Option.getD_none,QiF]
 rw [jTj (by omega),Int.toNat_natCast,Int.toNat_natCast,Qkp,List.take_length]
def spl (c:UInt8):List UInt8→List (List UInt8)
 | []=>[[]]
 | x::l=>if x=c then []::spl c l else match spl c l with
  | []=>[[x]]
  | h::t=>(x::h)::t
def pre (p:List UInt8):List (List UInt8)→List (List UInt8)
 | []=>[p]
 | h::t=>(p++h)::t
theorem QjB (c:UInt8) (l:List UInt8):spl c l≠[]:=by
 cases l with
 | nil=>simp [spl]
 | cons x l =>
  unfold spl
  split
  ·simp
  ·split <;> simp
theorem Qkf (c x:UInt8) (l:List UInt8) (h:x≠c):spl c (x::l)=pre [x] (spl c l):=by
 conv=>lhs;unfold spl
 rw [jFj h]
 cases spl c l <;> rfl
theorem Qkw (c:UInt8) (l:List UInt8):spl c (c::l)=[]::spl c l:=by
 conv=>lhs;unfold spl
 rw [jTj rfl]
theorem QlX {L:List (List UInt8)} (h:L≠[]):pre [] L=L:=by
 cases L with
 | nil=>exact absurd rfl h
 | cons a L=>rfl
theorem QmF (p q:List UInt8) {L:List (List UInt8)} (h:L≠[]):pre p (pre q L)=pre (p++q) L:=by
 cases L with
 | nil=>exact absurd rfl h
 | cons a L=>simp [pre]
theorem QlV (c:UInt8):∀ (a b:List UInt8),c ∉ a→spl c (a++b)=pre a (spl c b)
 | [],b,_=>by rw [List.nil_append,QlX (QjB c b)]
 | x::a,b,h=>by
  rw [List.cons_append,Qkf c x _ (fun e=>h (by rw [e];exact jMj)),QlV c a b (fun hm=>h (List.mem_cons_of_mem _ hm)),QmF _ _ (QjB c b)]
  rfl
theorem QlU (c:UInt8) (a b:List UInt8) (h:c ∉ a):spl c (a++c::b)=a::spl c b:=by
 rw [QlV c a _ h,Qkw]
 simp [pre]
theorem Qla (c:UInt8) (a:List UInt8) (h:c ∉ a):spl c a=[a]:=by
 have:=QlV c a [] h
 simpa [spl,pre] using this
def glue (c:UInt8):List (List UInt8)→List UInt8
 | []=>[]
 | [p]=>p
 | p::q::L=>p++c::glue c (q::L)
theorem Qm3 (c:UInt8) (p:List UInt8) {L:List (List UInt8)} (h:L≠[]):glue c (pre p L)=p++glue c L:=by
 cases L with
 | nil=>exact absurd rfl h
 | cons a L =>
  cases L with
  | nil=>rfl
  | cons b L=>simp [pre,glue]
theorem QjE (c:UInt8):∀ l:List UInt8,glue c (spl c l)=l
 | []=>rfl
 | x::l=>by
  by_cases h:x=c
  ·subst h
   rw [Qkw]
   have:=QjB x l
   have ih:=QjE x l
   cases hs:spl x l with
   | nil=>exact absurd hs this
   | cons a L=>rw [hs] at ih;simp [glue,ih]
  ·rw [Qkf c x l h,Qm3 c [x] (QjB c l),QjE c l];rfl
theorem Qke (c:UInt8):∀ (l:List UInt8) (p:List UInt8),p∈spl c l→c ∉ p
 | [],p,h=>by
  have:p=[]:=by simpa [spl] using h
  rw [this];simp
 | x::l,p,h=>by
  by_cases hx:x=c
  ·subst hx
   rw [Qkw] at h
   rcases List.mem_cons.1 h with h | h
   ·rw [h];simp
   ·exact Qke x l p h
  ·rw [Qkf c x l hx] at h
   have ih:=Qke c l
   cases hs:spl c l with
   | nil=>exact absurd hs (QjB c l)
   | cons a L =>
    rw [hs] at h ih
    simp only [pre,List.singleton_append] at h
    rcases List.mem_cons.1 h with h | h
    ·rw [h]
     intro hm
     rcases List.mem_cons.1 hm with hm | hm
     ·exact hx hm.symm
     ·exact ih a jMj hm
    ·exact ih p (List.mem_cons_of_mem _ h)
theorem Qlb (c:UInt8):∀ (L:List (List UInt8)),L≠[]→(∀ p,p∈L→c ∉ p)→spl c (glue c L)=L
 | [],h,_=>absurd rfl h
 | [p],_,h=>Qla c p (h p jMj)
 | p::q::L,_,h=>by
  show spl c (p++c::glue c (q::L))=_
  rw [QlU c p _ (h p jMj),Qlb c (q::L) (by simp) (fun r hr=>h r (List.mem_cons_of_mem _ hr))]
theorem QjJ (c:UInt8):∀ l:List UInt8,(spl c l).length=l.count c+1
 | []=>rfl
 | x::l=>by
  by_cases h:x=c
  ·subst h
   rw [Qkw,List.length_cons,QjJ x l,List.count_cons_self]
  ·rw [Qkf c x l h,List.count_cons_of_ne h]
   have:=QjJ c l
   cases hs:spl c l with
   | nil=>exact absurd hs (QjB c l)
   | cons a L=>rw [hs] at this;simpa [pre] using this
theorem Qm2 {c:UInt8}:∀ {l:List UInt8},c∈l→∃ a b,l=a++c::b∧c ∉ a
 | x::l,h=>by
  by_cases hx:x=c
  ·subst hx;exact ⟨[],l,rfl,by simp⟩
  ·rcases List.mem_cons.1 h with h | h
   ·exact absurd h.symm hx
   ·obtain ⟨a,b,h1,h2⟩:=Qm2 h
    refine ⟨x::a,b,by rw [h1];rfl,fun hm=>?_⟩
    rcases List.mem_cons.1 hm with hm | hm
    ·exact hx hm.symm
    ·exact h2 hm
theorem QkK {c:UInt8}:∀ {a:List UInt8} (b:List UInt8),c ∉ a→Lib.indexByte (a++c::b) c=(a.length:Int)
 | [],b,_=>by simp [Lib.indexByte]
 | x::a,b,h=>by
  have hx:¬ (x=c):=fun e=>h (by rw [e];exact jMj)
  have ih:=QkK b (fun hm=>h (List.mem_cons_of_mem _ hm))
  rw [List.cons_append,Lib.indexByte,jFj (by simpa using hx),ih]
  have:¬ (((a.length:Int)) == -1)=true:=by simp
  rw [jFj this];simp
theorem Qlj {c:UInt8}:∀ {a:List UInt8},c ∉ a→Lib.indexByte a c=-1
 | [],_=>rfl
 | x::a,h=>by
  have hx:¬ (x=c):=fun e=>h (by rw [e];exact jMj)
  have ih:=Qlj (fun hm=>h (List.mem_cons_of_mem _ hm))
  rw [Lib.indexByte,jFj (by simpa using hx),ih];rfl
end Go.Proofs.YtljabneifpkbjaaGreatDoor
namespace Go.Proofs.YtljabneifpkbjaaGreatDoor
open Go.SX
def QiV (l:List UInt8):Prop:=∀ c,c∈l→48≤c.toNat∧c.toNat≤57
instance (l:List UInt8):Decidable (QiV l):=by unfold QiV;infer_instance
def valN:Nat→List UInt8→Nat
 | n,[]=>n
 | n,c::l=>valN (10 * n+(c.toNat - 48)) l
def QjX (d:List UInt8):Prop:=d≠[]∧d.length≤9∧QiV d∧(d.head?≠some 48 ∨ d.length=1)
instance (l:List UInt8):Decidable (QjX l):=by unfold QjX;infer_instance
theorem Qjf {c:UInt8} {l:List UInt8}:QiV (c::l)↔(48≤c.toNat∧c.toNat≤57)∧QiV l:=by simp [QiV]
theorem QlO {a b:List UInt8}:QiV (a++b)↔QiV a∧QiV b:=by
 simp only [QiV,List.mem_append]
 exact ⟨fun h=>⟨fun c hc=>h c (.inl hc),fun c hc=>h c (.inr hc)⟩,fun h c hc=>hc.elim (h.1 c) (h.2 c)⟩
theorem Ql7:∀ (a b:List UInt8) (n:Nat),valN n (a++b)=valN (valN n a) b
 | [],_,_=>rfl
 | c::a,b,n=>Ql7 a b _
theorem QlE (a:List UInt8) (c:UInt8) (n:Nat):valN n (a++[c])=10 * valN n a+(c.toNat - 48):=by rw [Ql7];rfl
theorem Qmz:∀ (l:List UInt8) (n:Nat),n≤valN n l
 | [],n=>jLj _
 | c::l,n=>by
  have:=Qmz l (10 * n+(c.toNat - 48))
  show n≤valN _ l
  omega
theorem Qmy:∀ (l:List UInt8) (n k:Nat),QiV l→n < 10 ^ k→valN n l < 10 ^ (k+l.length)
 | [],n,k,_,h=>h
 | c::l,n,k,hd,h=>by
  obtain ⟨hc,hl⟩:=Qjf.1 hd
  have:=Qmy l (10 * n+(c.toNat - 48)) (k+1) hl (by rw [Nat.pow_succ];omega)
  show valN _ l < _
  rw [List.length_cons,show k+(l.length+1)=k+1+l.length by omega];exact this
theorem QmV {d:List UInt8} (h:QiV d) (hn:d≠[]) (hh:d.head?≠some 48):1≤valN 0 d:=by
 cases d with
 | nil=>exact absurd rfl hn
 | cons c l =>
  obtain ⟨hc,hl⟩:=Qjf.1 h
  have h1:c.toNat≠48:=fun e=>hh (by
   have:c=48:=UInt8.toNat_inj.1 e
   rw [this];rfl)
  have:=Qmz l (10 * 0+(c.toNat - 48))
  show 1≤valN _ l
  omega
theorem Qkd {k:Nat} (h:k < 10):(UInt8.ofNat (48+k)).toNat=48+k:=by
 simp only [UInt8.toNat_ofNat'];omega
theorem QlN {k:Nat} (h:k < 10):QiV [UInt8.ofNat (48+k)]:=by
 intro c hc
 rw [List.mem_singleton] at hc
 rw [hc,Qkd h];omega
theorem Qmp (u:Nat):QiV (Lib.decDigits u)∧Lib.decDigits u≠[]∧valN 0 (Lib.decDigits u)=u∧((Lib.decDigits u).head?≠some 48 ∨ (Lib.decDigits u).length=1)∧∀ k,1≤k→u < 10 ^ k→(Lib.decDigits u).length≤k:=by
 induction u using Nat.strongRecOn with
 | _ u ih =>
  by_cases h:u < 10
  ·rw [Lib.decDigits,dif_pos h]
   refine ⟨QlN h,by simp,?_,.inr rfl,fun k hk _=>by simpa using hk⟩
   show 10 * 0+((UInt8.ofNat (48+u)).toNat - 48)=u
   rw [Qkd h];omega
  ·rw [Lib.decDigits,dif_neg h]
   obtain ⟨h1,h2,h3,h4,h5⟩:=ih (u / 10) (by omega)
   have hm:u % 10 < 10:=Nat.mod_lt _ (by decide)
   refine ⟨QlO.2 ⟨h1,QlN hm⟩,by simp,?_,.inl ?_,fun k hk hu=>?_⟩
   ·rw [QlE,h3,Qkd hm];omega
   ·have hne:(Lib.decDigits (u / 10)).head?≠some 48:=by
     intro hh
     have hl:=h4.resolve_left (fun hc=>hc hh)
     have hz:valN 0 (Lib.decDigits (u / 10))=0:=by
      match hd:Lib.decDigits (u / 10),hl with
      | [c],_ =>
       rw [hd] at hh
       simp only [List.head?_cons,jIj] at hh
       rw [hh];rfl
     rw [h3] at hz;omega
    cases hd:Lib.decDigits (u / 10) with
    | nil=>exact absurd hd h2
    | cons a l=>rw [hd] at hne;simpa using hne
   ·cases k with
    | zero=>omega
    | succ k =>
     have hk0:k≠0:=by rintro rfl;simp at hu;omega
     have:=h5 k (by omega) (by rw [Nat.pow_succ] at hu;omega)
     rw [List.length_append];simpa using this
theorem Qnt {u:Nat} (h:u < 1000000000):QjX (Lib.decDigits u):=by
 obtain ⟨h1,h2,h3,h4,h5⟩:=Qmp u
 exact ⟨h2,h5 9 (by decide) (by simpa using h),h1,h4⟩
theorem QmL:∀ (k:Nat) (d:List UInt8),d.length=k→d≠[]→QiV d→(d.head?≠some 48 ∨ d.length=1)→Lib.decDigits (valN 0 d)=d
 | 0,d,h,hn,_,_=>absurd (List.length_eq_zero_iff.1 h) hn
 | k+1,d,h,hn,hd,hh=>by
  obtain ⟨a,c,rfl⟩:∃ a c,d=a++[c]:=⟨d.dropLast,d.getLast hn,(List.dropLast_concat_getLast hn).symm⟩
  obtain ⟨ha,hc⟩:=QlO.1 hd
  have hcc:=hc c (by simp)
  have hce:UInt8.ofNat (48+(c.toNat - 48))=c:=by
   rw [show 48+(c.toNat - 48)=c.toNat by omega];exact UInt8.ofNat_toNat
  rw [QlE]
  by_cases ha0:a=[]
  ·subst ha0
   rw [Lib.decDigits,dif_pos (by show 10 * 0+(c.toNat - 48) < 10;omega)]
   show [UInt8.ofNat (48+(10 * 0+(c.toNat - 48)))]=[c]
   rw [show 10 * 0+(c.toNat - 48)=c.toNat - 48 by omega,hce]
  ·have hl:0 < a.length:=List.length_pos_iff.2 ha0
   have hh2:a.head?≠some 48:=by
    have h1:=hh.resolve_right (by simp;omega)
    cases a with
    | nil=>exact absurd rfl ha0
    | cons x l=>simpa using h1
   have hp:=QmV ha ha0 hh2
   rw [Lib.decDigits,dif_neg (by omega)]
   rw [show (10 * valN 0 a+(c.toNat - 48)) / 10=valN 0 a by omega,show (10 * valN 0 a+(c.toNat - 48)) % 10=c.toNat - 48 by omega,hce]
   rw [QmL k a (by simp at h;omega) ha0 ha (.inl hh2)]
theorem Qm9 {d:List UInt8} (h:QjX d):valN 0 d < 1000000000:=by
 have h1:=Qmy d 0 0 h.2.2.1 (by decide)
 rw [Nat.zero_add] at h1
 have h2:(10:Nat) ^ d.length≤10 ^ 9:=Nat.pow_le_pow_right (by decide) h.2.1
 omega
def num (w:List UInt8):Option Int:=if QjX w then some (valN 0 w:Int) else none
theorem Qk7 {n:Int} (h:0≤n):Lib.itoa n=Lib.decDigits n.toNat:=by
 unfold Lib.itoa;rw [jFj (by omega)]
theorem Qmg {w:List UInt8} {v:Int} (h:num w=some v):Lib.itoa v=w∧0≤v∧v < 1000000000:=by
 unfold num at h
 split at h
 case isFalse=>cases h
 rename_i hk
 simp only [jIj] at h
 have hl:=Qm9 hk
 refine ⟨?_,by omega,by omega⟩
 rw [Qk7 (by omega),show v.toNat=valN 0 w by omega,QmL _ _ rfl hk.1 hk.2.2.1 hk.2.2.2]
theorem Qmh {n:Int} (h1:0≤n) (h2:n < 1000000000):(Lib.itoa n).length≤9:=by
 rw [Qk7 h1];exact (Qnt (u:=n.toNat) (by omega)).2.1
end Go.Proofs.YtljabneifpkbjaaGreatDoor
set_option maxRecDepth 20000
namespace Go.Proofs.YtljabneifpkbjaaGreatDoor
open Go.SX
def eS (p:List UInt8):D:=.v (.string (mkS p))
theorem Qns:(.v (.string ⟨#[]⟩):D)=eS []:=rfl
theorem QmZ {k:Nat} (h:k≤100000):Wa 16 k:=by unfold Wa;omega
theorem i64 {m:Int} (h1 : -1000000000000≤m) (h2:m≤1000000000000):Qh m:=by unfold Qh;omega
theorem QjW (n:Nat) (l:List UInt8) (c:UInt8) (hl:l.length≤2000):∀ (rest:List UInt8) (i fr:Nat) (acc:List (List UInt8)) (k:Nat),l.drop i=rest→fr≤i→i≤l.length→acc.length≤i→rest.length < k →
  ∃ (fr' : Nat) (acc' : List (List UInt8)),Q2 (QiT n (mkS l) (c.toNat:Int)) k ((fr:Int),(i:Int),acc.map eS)=some ((fr' : Int),acc'.map eS)∧fr'≤l.length∧acc'.length≤l.length∧acc'++[l.drop fr']=acc++pre ((l.take i).drop fr) (spl c rest)
 | _,_,_,_,0,_,_,_,_,hk=>absurd hk (by omega)
 | [],i,fr,acc,k+1,hd,hf,hi,ha,_=>by
  have hie:i=l.length:=by
   have:=List.drop_eq_nil_iff.1 hd;omega
  refine ⟨fr,acc,?_,by omega,by omega,?_⟩
  ·refine JB ?_
   unfold QiT
   rw [jFj (by rw [QiF];dsimp only;omega)]
  ·rw [hie,List.take_length]
   simp [spl,pre]
 | x::rest,i,fr,acc,k+1,hd,hf,hi,ha,hk=>by
  have hil:i < l.length:=by
   rcases Nat.lt_or_ge i l.length with h | h
   ·exact h
   ·rw [List.drop_eq_nil_of_le h] at hd;cases hd
  have hx:l[i]?=some x:=by
   have:=List.drop_eq_getElem_cons hil
   rw [hd] at this
   rw [List.getElem?_eq_getElem hil]
   exact congrArg some (List.cons.inj this).1.symm
  have hd' : l.drop (i+1)=rest:=by
   have:=List.drop_eq_getElem_cons hil
   rw [hd] at this
   exact (List.cons.inj this).2.symm
  have hcast:(i:Int)+1=((i+1:Nat):Int):=by simp
  by_cases hxc:x=c
  ·subst hxc
   obtain ⟨fr',acc',h1,h2,h3,h4⟩:=QjW n l x hl rest (i+1) (i+1) (acc++[(l.take i).drop fr]) k hd' (jLj _) hil (by simp;omega) (by simp at hk;omega)
   refine ⟨fr',acc',?_,h2,h3,?_⟩
   ·rw [E3 (s':=(((i+1:Nat):Int),((i+1:Nat):Int),(acc++[(l.take i).drop fr]).map eS))]
    ·exact h1
    ·unfold QiT
     dsimp only
     rw [jTj (by rw [QiF];omega),Qi8,hx,Option.map_some,jBj,jTj rfl,QmX l hf (by omega),jBj,jTj (by rw [List.length_map];exact QmZ (by omega)),jTj (i64 (by omega) (by omega)),hcast,List.map_append]
     rfl
   ·rw [h4,Qkw,show (l.take (i+1)).drop (i+1)=[] from List.drop_eq_nil_of_le (by simp;omega),QlX (QjB x rest)]
    simp [pre]
  ·obtain ⟨fr',acc',h1,h2,h3,h4⟩:=QjW n l c hl rest (i+1) fr acc k hd' (by omega) hil (by omega) (by simp at hk;omega)
   refine ⟨fr',acc',?_,h2,h3,?_⟩
   ·rw [E3 (s':=((fr:Int),((i+1:Nat):Int),acc.map eS))]
    ·exact h1
    ·unfold QiT
     dsimp only
     rw [jTj (by rw [QiF];omega),Qi8,hx,Option.map_some,jBj,jFj (fun e=>hxc (UInt8.toNat_inj.1 (by omega))),jTj (i64 (by omega) (by omega)),hcast]
   ·rw [h4,Qkf c x rest hxc,QmF _ _ (QjB c rest)]
    congr 2
    rw [List.take_add_one,hx,List.drop_append_of_le_length (by simp;omega)]
    rfl
theorem QkR {n:Nat} (hn:3000≤n) {l:List UInt8} (c:UInt8) (hl:l.length≤2000):Qi4 n (mkS l) (c.toNat:Int)=some ((spl c l).map eS):=by
 obtain ⟨fr,acc,h1,h2,h3,h4⟩:=QjW n l c hl l 0 0 [] n rfl (jLj _) (Nat.zero_le _) (by simp) (by omega)
 unfold Qi4
 have h1' : Q2 (QiT n (mkS l) (c.toNat:Int)) n (0,0,[])=some ((fr:Int),acc.map eS):=h1
 rw [h1',jBj]
 dsimp only
 rw [QjN l h2,jBj,jTj (by rw [List.length_map];exact QmZ (by omega))]
 have h5:acc++[l.drop fr]=spl c l:=by rw [h4,List.nil_append,List.take_zero,List.drop_nil,QlX (QjB c l)]
 rw [← h5,List.map_append]
 rfl
theorem Qnc (n:Nat) (l:List UInt8):Qjo n (mkS l)=some (Lib.indexByte l 32):=by
 unfold Qjo Qi9
 have e:(⟨#[32]⟩:jSj)=mkS [32]:=rfl
 rw [e,Qkr]
 by_cases h:[32]=l
 ·rw [jTj (jDj h),← h];rfl
 ·rw [jFj (by simpa using h)]
  unfold Qi6
  rw [Qjx];rfl
theorem Qkn (n:Nat) (l:List UInt8) (hl:l.length≤2000):∀ (m:Nat) (done:List (List UInt8)) (s:List UInt8) (k:Nat),s.count 32=m→done.length+m=l.count 32→spl 32 l=done++spl 32 s→s.length≤2000→m < k →
  ∃ (done' : List (List UInt8)) (s' : List UInt8),Q2 (QiN n (mkS l) ((l.count 32:Nat):Int)) k (mkS s,(done.length:Int),done.map eS++List.replicate (m+1) (eS []))=some (mkS s',((l.count 32:Nat):Int),done'.map eS++[eS []])∧done'.length=l.count 32∧spl 32 l=done'++[s']
 | _,_,_,0,_,_,_,_,hk=>absurd hk (by omega)
 | 0,done,s,k+1,hm,hd,hs,_,_=>by
  have hfree:(32:UInt8) ∉ s:=List.count_eq_zero.1 hm
  have hcl:l.count 32≤l.length:=List.count_le_length
  refine ⟨done,s,?_,by omega,by rw [hs,Qla 32 s hfree]⟩
  have hmin:minI (((l.count 32:Nat):Int)+1) (((mkS l).size:Int)+1)=((l.count 32:Nat):Int)+1:=by rw [QiF];unfold minI;split <;> omega
  rw [JB (e:=(mkS s,(done.length:Int),done.map eS++List.replicate 1 (eS [])))]
  ·rw [show done.length=l.count 32 by omega];rfl
  ·unfold QiN
   dsimp only
   rw [hmin,jFj (by omega)]
 | m+1,done,s,k+1,hm,hd,hs,hsl,hk=>by
  have hcl:l.count 32≤l.length:=List.count_le_length
  have hmin:minI (((l.count 32:Nat):Int)+1) (((mkS l).size:Int)+1)=((l.count 32:Nat):Int)+1:=by rw [QiF];unfold minI;split <;> omega
  obtain ⟨a,b,rfl,hab⟩:=Qm2 (List.count_pos_iff.1 (show 0 < s.count 32 by omega))
  have hcb:b.count 32=m:=by
   rw [List.count_append,List.count_cons_self,List.count_eq_zero.2 hab] at hm;omega
  have hlen:a.length+b.length+1≤2000:=by simp at hsl;omega
  obtain ⟨done',s',h1,h2,h3⟩:=Qkn n l hl m (done++[a]) b k hcb (by simp;omega) (by rw [hs,QlU 32 a b hab];simp) (by omega) (by omega)
  refine ⟨done',s',?_,h2,h3⟩
  rw [E3 (s':=(mkS b,((done++[a]).length:Int),(done++[a]).map eS++List.replicate (m+1) (eS [])))]
  ·exact h1
  ·unfold QiN
   dsimp only
   have hal:(a++32::b).length=a.length+b.length+1:=by simp;omega
   have hrow:(done.map eS++List.replicate (m+1+1) (eS [])).length=done.length+m+2:=by simp;omega
   rw [hmin,jTj (by omega),Qnc,jBj,QkK b hab,jFj (by omega),jTj (i64 (by omega) (by omega)),Int.add_zero,QlT _ (by omega),jBj,
    jTj (by rw [hrow];omega),jTj (by rw [hrow,Int.toNat_natCast];omega),jTj (i64 (by omega) (by omega))]
   rw [show (a.length:Int)+1=((a.length+1:Nat):Int) by simp,QjN _ (by omega),jBj,jTj (i64 (by omega) (by omega))]
   have e1:(a++32::b).drop (a.length+1)=b:=by simp
   have e2:(a++32::b).take a.length=a:=by simp
   have e3:(done.map eS++List.replicate (m+1+1) (eS [])).set (Int.toNat (done.length:Int)) (.v (.string (mkS a)))=(done++[a]).map eS++List.replicate (m+1) (eS []):=by
    rw [Int.toNat_natCast,List.set_append_right _ _ (by simp)]
    simp [List.replicate_succ,eS]
   rw [e1,e2,e3]
   simp
theorem QmY {n:Nat} (hn:3000≤n) {l:List UInt8} (hl:l.length≤2000):Qjn n (mkS l)=some ((spl 32 l).map eS):=by
 have hcl:l.count 32≤l.length:=List.count_le_length
 obtain ⟨done,s,h1,h2,h3⟩:=Qkn n l hl (l.count 32) [] l n rfl (by simp) (by simp) hl (by omega)
 have hmin:minI (((l.count 32:Nat):Int)+1) (((mkS l).size:Int)+1)=((l.count 32+1:Nat):Int):=by rw [QiF];unfold minI;split <;> omega
 unfold Qjn Qjl
 have hcount:QjA n (mkS l) ⟨#[32]⟩=some ((l.count 32:Nat):Int):=by
  show some ((Lib.countByte (mkS l).data.toList 32:Nat):Int)=_
  rw [Qjx];rfl
 rw [hcount,jBj,jTj (i64 (by omega) (by omega)),jTj (by rw [QiF];exact i64 (by omega) (by omega)),hmin,jTj (by omega),jTj (i64 (by omega) (by omega))]
 rw [Int.toNat_natCast,Qns]
 have h1' : Q2 (QiN n (mkS l) ((l.count 32:Nat):Int)) n (mkS l,0,List.replicate (l.count 32+1) (eS []))=some (mkS s,((l.count 32:Nat):Int),done.map eS++[eS []]):=h1
 rw [h1',jBj]
 dsimp only
 have hrow:(done.map eS++[eS []]).length=l.count 32+1:=by simp [h2]
 have e3:(done.map eS++[eS []]).set (Int.toNat ((l.count 32:Nat):Int)) (.v (.string (mkS s)))=(spl 32 l).map eS:=by
  rw [Int.toNat_natCast,List.set_append_right _ _ (by simp [h2]),h3]
  simp [h2,eS]
 have hlen:((spl 32 l).map eS).length=l.count 32+1:=by rw [List.length_map,QjJ]
 rw [jTj (by rw [hrow];omega),jTj (by rw [hrow,Int.toNat_natCast];omega),jTj (i64 (by omega) (by omega)),e3,jTj (by rw [hlen];exact ⟨by decide,by omega,by omega,.inr rfl⟩)]
 rw [show Int.toNat (((l.count 32:Nat):Int)+1)=l.count 32+1 by omega,← hlen,List.take_length]
 rfl
end Go.Proofs.YtljabneifpkbjaaGreatDoor
set_option maxRecDepth 20000
namespace Go.Proofs.YtljabneifpkbjaaGreatDoor
open Go.SX
abbrev Wrd:=List UInt8
theorem Qms {m:Int} (h:Qh m):IntKind.wrap .i64 m=m:=by
 unfold Qh at h
 rw [IntKind.wrap_i64];omega
theorem QlR {l:Wrd} {i:Nat} {x:UInt8} (h:l[i]?=some x):Yy (mkS l) i=x.toNat:=by
 obtain ⟨hi,hx⟩:=jGj h
 show (l.toArray[i]!).toNat=x.toNat
 rw [getElem!_pos l.toArray i (by simpa using hi)]
 simp [hx]
theorem Qnp {m:Int} (h1:0≤m) (h2:m≤9):IntKind.wrap .i32 m=m:=by
 have:m=0 ∨ m=1 ∨ m=2 ∨ m=3 ∨ m=4 ∨ m=5 ∨ m=6 ∨ m=7 ∨ m=8 ∨ m=9:=by omega
 rcases this with h | h | h | h | h | h | h | h | h | h <;> subst h <;> decide
theorem Qnu {m:Int} (h1:0≤m) (h2:m≤9):IntKind.wrap .u8 m=m:=by
 have:m=0 ∨ m=1 ∨ m=2 ∨ m=3 ∨ m=4 ∨ m=5 ∨ m=6 ∨ m=7 ∨ m=8 ∨ m=9:=by omega
 rcases this with h | h | h | h | h | h | h | h | h | h <;> subst h <;> decide
theorem Qnl {i v:Nat} (hi:i≤9) (h:v < 10 ^ i):v < 1000000000:=by
 have:10 ^ i≤10 ^ 9:=Nat.pow_le_pow_right (by decide) hi
 omega
theorem QkB {d rest:Wrd} {i:Nat} {x:UInt8} (hd:d.drop i=x::rest):i < d.length∧d[i]?=some x∧d.drop (i+1)=rest:=by
 have hil:i < d.length:=by
  rcases Nat.lt_or_ge i d.length with h | h
  ·exact h
  ·rw [List.drop_eq_nil_of_le h] at hd;cases hd
 have:=List.drop_eq_getElem_cons hil
 rw [hd] at this
 refine ⟨hil,?_,(List.cons.inj this).2.symm⟩
 rw [List.getElem?_eq_getElem hil]
 exact congrArg some (List.cons.inj this).1.symm
theorem Qm1 (n:Nat) {d:Wrd} {i v:Nat} {x:UInt8} (hil:i < d.length) (hdec:Utf8.decode (mkS d) i=(x.toNat,1)) (hdig:48≤x.toNat∧x.toNat≤57) (hlen:d.length≤9) (hv:v < 1000000000) :
  QiK n (mkS d) ((v:Int),i)=some (.inl (((10 * v+(x.toNat - 48):Nat):Int),i+1)):=by
 have hsz:i < (mkS d).size:=by rw [QiF];exact hil
 have hw1:IntKind.wrap .i32 ((x.toNat:Int) - 48)=(x.toNat:Int) - 48:=Qnp (by omega) (by omega)
 have hw2:IntKind.wrap .i64 ((x.toNat:Int) - 48)=(x.toNat:Int) - 48:=Qms (i64 (by omega) (by omega))
 have c1:¬ ((x.toNat:Int) < 48):=by omega
 have c2:¬ ((x.toNat:Int) > 57):=by omega
 have c3:¬ (((mkS d).size:Int) > 9):=by rw [QiF];omega
 have c4:Qh (10 * (v:Int)):=i64 (by omega) (by omega)
 have c5:Qh (10 * (v:Int)+((x.toNat:Int) - 48)):=i64 (by omega) (by omega)
 have c6:(10 * (v:Int)+((x.toNat:Int) - 48))=((10 * v+(x.toNat - 48):Nat):Int):=by omega
 unfold QiK
 simp only [hdec,hsz,if_true,jFj c1,jFj c2,jFj c3,jTj c4,hw1,hw2,jTj c5]
 rw [c6]
theorem Qmi (n:Nat) (d:Wrd):∀ (rest:Wrd) (i v k:Nat),d.drop i=rest→i≤d.length→v < 10 ^ i→rest.length < k →
  Q2 (QiK n (mkS d)) k ((v:Int),i)=some (if QiV rest∧(d.length≤9 ∨ rest=[]) then .inr (valN v rest:Int) else .inl ())
 | _,_,_,0,_,_,_,hk=>absurd hk (by omega)
 | [],i,v,k+1,hd,hi,_,_=>by
  have hie:i=d.length:=by have:=List.drop_eq_nil_iff.1 hd;omega
  rw [JB (e:=.inr (v:Int)),jTj (show QiV []∧(d.length≤9 ∨ ([]:Wrd)=[]) from ⟨fun c hc=>(by cases hc),.inr rfl⟩)]
  ·rfl
  unfold QiK
  dsimp only
  rw [jFj (by rw [QiF];omega)]
 | x::rest,i,v,k+1,hd,hi,hv,hk=>by
  obtain ⟨hil,hx,hd'⟩:=QkB hd
  have hg:=QlR hx
  by_cases hdig:48≤x.toNat∧x.toNat≤57
  ·have hdec:Utf8.decode (mkS d) i=(x.toNat,1):=by
    have:=QaR (s:=mkS d) (p:=i) (by rw [hg];omega)
    rw [hg] at this;exact this
   by_cases hlen:d.length≤9
   ·have hv9:v < 1000000000:=Qnl (by omega) hv
    have ih:=Qmi n d rest (i+1) (10 * v+(x.toNat - 48)) k hd' hil (by rw [Nat.pow_succ];omega) (by simp at hk;omega)
    rw [E3 (s':=(((10 * v+(x.toNat - 48):Nat):Int),i+1)),ih]
    ·have e:(QiV (x::rest)∧(d.length≤9 ∨ x::rest=[]))↔(QiV rest∧(d.length≤9 ∨ rest=[])):=by
      rw [Qjf]
      exact ⟨fun h=>⟨h.1.2,.inl hlen⟩,fun h=>⟨⟨hdig,h.1⟩,.inl hlen⟩⟩
     by_cases hq:QiV rest∧(d.length≤9 ∨ rest=[])
     ·rw [jTj hq,jTj (e.2 hq)];rfl
     ·rw [jFj hq,jFj (fun h=>hq (e.1 h))]
    ·exact Qm1 n hil hdec hdig hlen hv9
   ·rw [JB (e:=.inl ()),jFj (fun h=>h.2.elim (fun h=>hlen h) (fun h=>by cases h))]
    unfold QiK
    dsimp only
    rw [jTj (by rw [QiF];omega),hdec]
    dsimp only
    rw [jFj (by omega),jFj (by omega),jTj (by rw [QiF];omega)]
  ·rw [JB (e:=.inl ()),jFj (fun h=>hdig (Qjf.1 h.1).1)]
   unfold QiK
   dsimp only
   rw [jTj (by rw [QiF];omega)]
   by_cases hb:x.toNat < 128
   ·have hdec:Utf8.decode (mkS d) i=(x.toNat,1):=by
     have:=QaR (s:=mkS d) (p:=i) (by rw [hg];exact hb)
     rw [hg] at this;exact this
    rw [hdec]
    dsimp only
    by_cases h48:x.toNat < 48
    ·rw [jTj (by omega)]
    ·rw [jFj (by omega),jTj (by omega)]
   ·have:=Qaa (s:=mkS d) (p:=i) (by rw [hg];exact hb)
    rw [jFj (by omega),jTj (by omega)]
def intV (w:Wrd):Int:=if QiV w∧(w.length≤9 ∨ w=[]) then (valN 0 w:Int) else 0
theorem Qmj {w:Wrd} {v:Int} (h:num w=some v):intV w=v:=by
 unfold num at h
 split at h
 case isFalse=>cases h
 rename_i hk
 unfold intV
 rw [jTj ⟨hk.2.2.1,.inl hk.2.1⟩]
 exact Option.some.inj h
theorem Qli {n:Nat} (hn:3000≤n) {w:Wrd} (hw:w.length≤2000):Qjb n (mkS w)=some (intV w,(num w).isSome):=by
 unfold Qjb
 have hloop:Q2 (QiK n (mkS w)) n (0,0)=_:=Qmi n w w 0 0 n rfl (Nat.zero_le _) (by decide) (by omega)
 rw [hloop]
 unfold intV num
 have e0:(⟨#[]⟩:jSj)=mkS []:=rfl
 by_cases hc:QiV w∧(w.length≤9 ∨ w=[])
 ·rw [jTj hc,jTj hc,jBj]
  dsimp only
  rw [e0,Qkr]
  cases w with
  | nil =>
   have hno:¬ QjX []:=fun h=>h.1 rfl
   rw [jFj (by decide),jFj hno];rfl
  | cons x r =>
   have hlen:(x::r).length≤9:=hc.2.resolve_right (by simp)
   have hsa:WQ (mkS (x::r)) 0=some (x.toNat:Int):=Qi8 (x::r) 0
   rw [jTj (by simp),hsa]
   by_cases hl:(x::r).length=1
   ·rw [jTj (by rw [QiF,hl];rfl),jTj ⟨by simp,hlen,hc.1,.inr hl⟩];rfl
   ·rw [jFj (by rw [QiF];omega),jBj]
    by_cases h48:x=48
    ·have hno:¬ QjX (x::r):=fun h=>by
      rcases h.2.2.2 with h | h
      ·rw [h48] at h;exact h rfl
      ·exact hl h
     rw [jFj hno,h48];rfl
    ·have h48' : ¬ ((x.toNat:Int)=48):=fun e=>h48 (UInt8.toNat_inj.1 (by show x.toNat=48;omega))
     rw [jTj ⟨by simp,hlen,hc.1,.inl (by simpa using h48)⟩]
     simp [h48']
 ·have hno:¬ QjX w:=fun h=>hc ⟨h.2.2.1,.inl h.2.1⟩
  rw [jFj hc,jFj hc,jBj,jFj hno]
  rfl
theorem QlG (n:Nat) (d:Wrd) (hl:d.length≤9):∀ (rest:Wrd) (i v k:Nat),d.drop i=rest→i≤d.length→v < 10 ^ i→rest.length < k →
  Q2 (QiM n (mkS d)) k ((v:Int),(i:Int))=some (if QiV rest then .inr (valN v rest:Int) else .inl ())
 | _,_,_,0,_,_,_,hk=>absurd hk (by omega)
 | [],i,v,k+1,hd,hi,_,_=>by
  have hie:i=d.length:=by have:=List.drop_eq_nil_iff.1 hd;omega
  rw [JB (e:=.inr (v:Int)),jTj (show QiV [] from fun c hc=>(by cases hc))]
  ·rfl
  unfold QiM
  dsimp only
  rw [jFj (by rw [QiF];omega)]
 | x::rest,i,v,k+1,hd,hi,hv,hk=>by
  obtain ⟨hil,hx,hd'⟩:=QkB hd
  have hv9:v < 1000000000:=Qnl (by omega) hv
  by_cases hdig:48≤x.toNat∧x.toNat≤57
  ·have ih:=QlG n d hl rest (i+1) (10 * v+(x.toNat - 48)) k hd' hil (by rw [Nat.pow_succ];omega) (by simp at hk;omega)
   rw [E3 (s':=(((10 * v+(x.toNat - 48):Nat):Int),((i+1:Nat):Int))),ih]
   ·by_cases hq:QiV rest
    ·rw [jTj hq,jTj (Qjf.2 ⟨hdig,hq⟩)];rfl
    ·rw [jFj hq,jFj (fun h=>hq (Qjf.1 h).2)]
   ·have hw1:IntKind.wrap .u8 ((x.toNat:Int) - 48)=(x.toNat:Int) - 48:=Qnu (by omega) (by omega)
    have hw2:IntKind.wrap .i64 ((x.toNat:Int) - 48)=(x.toNat:Int) - 48:=Qms (i64 (by omega) (by omega))
    have c6:(10 * (v:Int)+((x.toNat:Int) - 48))=((10 * v+(x.toNat - 48):Nat):Int):=by omega
    unfold QiM
    dsimp only
    rw [jTj (by rw [QiF];omega),Qi8,hx,Option.map_some,jBj,jFj (by omega),jFj (by omega),hw1,hw2,jTj (i64 (by omega) (by omega)),jTj (i64 (by omega) (by omega)),jTj (i64 (by omega) (by omega)),c6]
    rfl
  ·rw [JB (e:=.inl ()),jFj (fun h=>hdig (Qjf.1 h).1)]
   unfold QiM
   dsimp only
   rw [jTj (by rw [QiF];omega),Qi8,hx,Option.map_some,jBj]
   by_cases h48:x.toNat < 48
   ·rw [jTj (by omega)]
   ·rw [jFj (by omega),jTj (by omega)]
theorem Qkm {n:Nat} (hn:3000≤n) (w:Wrd):QiH n (mkS w)=some ((num w).getD 0,(num w).isSome):=by
 unfold QiH
 have hsz:(mkS w).size=w.length:=QiF w
 by_cases h0:w.length=0
 ·have:w=[]:=List.length_eq_zero_iff.1 h0
  subst this
  have hno:¬ QjX []:=fun h=>h.1 rfl
  rw [jTj (by rw [hsz];rfl)]
  unfold num;rw [jFj hno];rfl
 rw [jFj (by omega)]
 by_cases h9:w.length > 9
 ·have hno:¬ QjX w:=fun h=>by have:=h.2.1;omega
  rw [jTj (by omega)]
  unfold num;rw [jFj hno];rfl
 rw [jFj (by omega)]
 have hloop:Q2 (QiM n (mkS w)) n (0,0)=_:=QlG n w (by omega) w 0 0 n rfl (Nat.zero_le _) (by decide) (by omega)
 rw [hloop]
 have fin:(w.head?≠some 48 ∨ w.length=1)→((some (if QiV w then (.inr (valN 0 w:Int):Unit⊕Int) else .inl ())).bind fun t=>match t with
   | (.inl t)=>some ((0:Int),false)
   | (.inr t)=>some (t,true))=some ((num w).getD 0,(num w).isSome):=fun hh=>by
  unfold num
  by_cases hd:QiV w
  ·rw [jTj hd,jTj ⟨fun e=>h0 (by rw [e];rfl),by omega,hd,hh⟩];rfl
  ·rw [jFj hd,jFj (fun h=>hd h.2.2.1)];rfl
 by_cases h1:w.length > 1
 ·rw [jTj (by omega)]
  cases w with
  | nil=>exact absurd rfl h0
  | cons x r =>
   have hsa:WQ (mkS (x::r)) 0=some (x.toNat:Int):=Qi8 (x::r) 0
   rw [hsa,jBj]
   by_cases h48:x=48
   ·have hno:¬ QjX (x::r):=fun h=>by
     rcases h.2.2.2 with h | h
     ·rw [h48] at h;exact h rfl
     ·omega
    rw [jTj (by rw [h48];rfl)]
    unfold num;rw [jFj hno];rfl
   ·have h48' : ¬ ((x.toNat:Int)=48):=fun e=>h48 (UInt8.toNat_inj.1 (by show x.toNat=48;omega))
    rw [jFj h48']
    exact fin (.inl (by simpa using h48))
 ·rw [jFj (by omega)]
  exact fin (.inr (by omega))
end Go.Proofs.YtljabneifpkbjaaGreatDoor
set_option maxRecDepth 20000
namespace Go.Proofs.YtljabneifpkbjaaGreatDoor
open Go.SX
def QiI (wsx:List Wrd) (b:Bool):Wrd×List Wrd×Bool:=match wsx with
 | []=>([],[],true)
 | w::l=>if w=[] then ([],[],true) else (w,l,b)
def numX (wsx:List Wrd) (b:Bool):Int×List Wrd×Bool :=
 (intV (QiI wsx b).1,(QiI wsx b).2.1,if (QiI wsx b).2.2=true then true else !(num (QiI wsx b).1).isSome)
theorem Qk8 {w:Wrd} {l:List Wrd} (b:Bool) (h:¬ w=[]):QiI (w::l) b=(w,l,b):=by unfold QiI;dsimp only;rw [jFj h]
theorem QmM (l:List Wrd) (b:Bool):QiI ([]::l) b=([],[],true):=by unfold QiI;dsimp only;rw [jTj rfl]
def OkW (wsx:List Wrd):Prop:=wsx.length≤3000∧∀ w,w∈wsx→w.length≤2000
theorem QjO {wsx:List Wrd} (b:Bool) (h:OkW wsx):OkW (QiI wsx b).2.1∧(QiI wsx b).1.length≤2000:=by
 unfold QiI
 cases wsx with
 | nil=>exact ⟨⟨by simp,fun w hw=>by cases hw⟩,by simp⟩
 | cons w l =>
  dsimp only
  by_cases hw:w=[]
  ·rw [jTj hw];exact ⟨⟨by simp,fun w hw=>by cases hw⟩,by simp⟩
  ·rw [jFj hw]
   exact ⟨⟨by have:=h.1;simp at this ⊢;omega,fun x hx=>h.2 x (List.mem_cons_of_mem _ hx)⟩,h.2 w jMj⟩
theorem Ql5 (w:Wrd):((mkS w).toList == (⟨#[]⟩:jSj).toList)=decide (w=[]):=Qkr w []
theorem Qml {L:List Wrd} {i:Nat} {w:Wrd} (h:L[i]?=some w):el Ww (L.map eS) (i:Int)=some (mkS w) :=
 Xr (un:=Ww) (enc:=fun x:jSj=>(.v (.string x):D)) (fun _=>rfl) (l:=L.map mkS) (i:=i) (x:=mkS w) (by rw [List.getElem?_map,h];rfl) ▸ (by rw [List.map_map];rfl)
theorem Qk6 (n:Nat) {wsx:List Wrd} (b:Bool) (h:OkW wsx):QiO n (wsx.map eS) b=some (mkS (QiI wsx b).1,(QiI wsx b).2.1.map eS,(QiI wsx b).2.2):=by
 unfold QiO QiI
 cases wsx with
 | nil=>rfl
 | cons w l =>
  have hl:=h.1
  simp only [List.length_cons] at hl
  have he:el Ww ((w::l).map eS) 0=some (mkS w):=Qml (i:=0) rfl
  rw [jFj (by simp;omega),he,jBj,Ql5]
  by_cases hw:w=[]
  ·rw [jTj (by simpa using hw)];dsimp only;rw [jTj hw];rfl
  ·rw [jFj (by simpa using hw),jTj (by simp;omega)]
   dsimp only
   rw [jFj hw];rfl
theorem QlL {n:Nat} (hn:3000≤n) {wsx:List Wrd} (b:Bool) (h:OkW wsx):QiG n (wsx.map eS) b=some ((numX wsx b).1,(numX wsx b).2.1.map eS,(numX wsx b).2.2):=by
 unfold QiG numX
 rw [Qk6 n b h,jBj]
 dsimp only
 rw [Qli hn (QjO b h).2,jBj]
 by_cases hb:(QiI wsx b).2.2=true
 ·rw [jTj hb,jTj hb]
 ·rw [jFj hb,jFj hb]
theorem QmG {wsx:List Wrd} (b:Bool) (h:OkW wsx):OkW (numX wsx b).2.1:=(QjO b h).1
def runT {α:Type} (f:List Wrd→Bool→α×List Wrd×Bool):Nat→List Wrd→Bool→List α×List Wrd×Bool
 | 0,wsx,b=>([],wsx,b)
 | k+1,wsx,b=>((f wsx b).1::(runT f k (f wsx b).2.1 (f wsx b).2.2).1,(runT f k (f wsx b).2.1 (f wsx b).2.2).2)
theorem Ql6 (wsx:List Wrd):(QiI wsx true).2.2=true:=by
 unfold QiI
 cases wsx with
 | nil=>rfl
 | cons w l=>dsimp only;split <;> rfl
theorem QmH (wsx:List Wrd):(numX wsx true).2.2=true:=by
 unfold numX;rw [Ql6];rfl
theorem Qkx {α:Type} {f:List Wrd→Bool→α×List Wrd×Bool} (hf:∀ wsx,(f wsx true).2.2=true):∀ (k:Nat) (wsx:List Wrd),(runT f k wsx true).2.2=true
 | 0,wsx=>rfl
 | k+1,wsx=>by
  show (runT f k (f wsx true).2.1 (f wsx true).2.2).2.2=true
  rw [hf];exact Qkx hf k _
theorem QmB {α:Type} {f:List Wrd→Bool→α×List Wrd×Bool} (hf:∀ {wsx} b,OkW wsx→OkW (f wsx b).2.1):∀ (k:Nat) (wsx:List Wrd) (b:Bool),OkW wsx→OkW (runT f k wsx b).2.1
 | 0,wsx,b,h=>h
 | k+1,wsx,b,h=>QmB hf k _ _ (hf b h)
theorem QkI {α:Type} {f:List Wrd→Bool→α×List Wrd×Bool} (g:Wrd→Option α) (hb:∀ wsx,(f wsx true).2.2=true) (h0:(f [] false).2.2=true)
  (h1:∀ w l x,g w=some x→f (w::l) false=(x,l,false)) (h2:∀ w l,g w=none→(f (w::l) false).2.2=true):∀ (k:Nat) (wsx:List Wrd),
  (∃ xs,k≤wsx.length∧(wsx.take k).mapM g=some xs∧runT f k wsx false=(xs,wsx.drop k,false)) ∨ (¬ (k≤wsx.length∧((wsx.take k).mapM g).isSome=true)∧(runT f k wsx false).2.2=true)
 | 0,wsx=>.inl ⟨[],Nat.zero_le _,rfl,rfl⟩
 | k+1,[]=>by
  refine .inr ⟨fun h=>absurd h.1 (by simp),?_⟩
  show (runT f k (f [] false).2.1 (f [] false).2.2).2.2=true
  rw [h0];exact Qkx hb k _
 | k+1,w::l=>by
  cases hg:g w with
  | none =>
   refine .inr ⟨fun h=>?_,?_⟩
   ·have:=h.2
    rw [List.take_succ_cons,List.mapM_cons,hg] at this
    cases this
   ·show (runT f k (f (w::l) false).2.1 (f (w::l) false).2.2).2.2=true
    rw [h2 w l hg];exact Qkx hb k _
  | some x =>
   have e:runT f (k+1) (w::l) false=(x::(runT f k l false).1,(runT f k l false).2):=by
    show (_,_)=_
    rw [h1 w l x hg]
   rw [e]
   rcases QkI g hb h0 h1 h2 k l with ⟨xs,a1,a2,a3⟩ | ⟨a1,a2⟩
   ·refine .inl ⟨x::xs,by simp;omega,?_,?_⟩
    ·rw [List.take_succ_cons,List.mapM_cons,hg,a2];rfl
    ·rw [a3];rfl
   ·refine .inr ⟨fun h=>a1 ⟨by have:=h.1;simp at this;omega,?_⟩,a2⟩
    have:=h.2
    rw [List.take_succ_cons,List.mapM_cons,hg] at this
    cases hm:(l.take k).mapM g with
    | none=>rw [hm] at this;cases this
    | some _=>rfl
def nmG (w:Wrd):Option Wrd:=if w=[] then none else some w
theorem Qmv (k:Nat) (wsx:List Wrd):(∃ xs,k≤wsx.length∧(wsx.take k).mapM nmG=some xs∧runT QiI k wsx false=(xs,wsx.drop k,false)) ∨ (¬ (k≤wsx.length∧((wsx.take k).mapM nmG).isSome=true)∧(runT QiI k wsx false).2.2=true) :=
 QkI nmG Ql6 rfl
  (fun w l x h=>by
   unfold nmG at h
   split at h
   ·cases h
   ·rename_i hw
    cases h
    unfold QiI;dsimp only;rw [jFj hw])
  (fun w l h=>by
   unfold nmG at h
   split at h
   ·rename_i hw
    unfold QiI;dsimp only;rw [jTj hw]
   ·cases h) k wsx
theorem QmN (k:Nat) (wsx:List Wrd):(∃ xs,k≤wsx.length∧(wsx.take k).mapM num=some xs∧runT numX k wsx false=(xs,wsx.drop k,false)) ∨ (¬ (k≤wsx.length∧((wsx.take k).mapM num).isSome=true)∧(runT numX k wsx false).2.2=true) :=
 QkI num QmH rfl
  (fun w l x h=>by
   have hw:¬ w=[]:=fun e=>by
    rw [e] at h;unfold num at h;rw [jFj (fun h:QjX []=>h.1 rfl)] at h;cases h
   unfold numX
   rw [Qk8 false hw,h,Qmj h];rfl)
  (fun w l h=>by
   unfold numX
   by_cases hw:w=[]
   ·rw [hw,QmM];rfl
   ·rw [Qk8 false hw,h];rfl) k wsx
abbrev Tri:=Ki×List Wrd×List Int
def QjK:List Wrd→Option Tri
 | []=>none
 | w::rest=>match yJ w with
  | none=>none
  | some k=>if rest.length=kn k+kv k then (((rest.take (kn k)).mapM nmG).bind fun ns=>((rest.drop (kn k)).mapM num).bind fun vs=>some (k,ns,vs)) else none
theorem Qnv (k:Ki):kn k≤2∧kv k≤5:=by cases k <;> decide
theorem Qm0 (k:Ki):∀ (p:Nat),p < (kr k).length→Utf8.decode (mkS (kr k)) p=((Yy (mkS (kr k)) p),1):=by
 intro p hp
 refine QaR ?_
 have h:∀ c,c∈kr k→c.toNat < 128:=by cases k <;> decide
 obtain ⟨x,hx⟩:∃ x,(kr k)[p]?=some x:=⟨_,List.getElem?_eq_getElem hp⟩
 rw [QlR hx]
 exact h x (List.mem_of_getElem? hx)
theorem Qky {b k:Nat} (hb:b≤200) (h:k≤5000):Wa b k:=V7 hb h
theorem Qmk (n:Nat) (a0:Int) {wsx:List Wrd} (b:Bool) (w:jSj) (k:Ki) (v:Int) (f g:FnD) (hw:OkW wsx):∀ (m p:Nat) (acc:List Wrd) (us:List Wrd) (c:Bool) (K:Nat),p+m=kn k→p=acc.length→OkW us→m < K→p≠0 →
  Q2 (QiQ n a0 (w,wsx.map eS,b) (mkS (kr k),v,f,g)) K (.inr (us.map eS,c,p,acc.map eS))=some (.inr ((runT QiI m us c).2.1.map eS,(runT QiI m us c).2.2,(acc++(runT QiI m us c).1).map eS))
 | m,p,acc,us,c,0,_,_,_,hK,_=>absurd hK (by omega)
 | 0,p,acc,us,c,K+1,hp,ha,hu,hK,h0=>by
  rw [JB (e:=.inr (us.map eS,c,acc.map eS))]
  ·simp only [runT,List.append_nil]
  unfold QiQ
  dsimp only
  rw [jFj (by rw [QiF];unfold kn at hp;omega)]
 | m+1,p,acc,us,c,K+1,hp,ha,hu,hK,h0=>by
  have hk:=Qnv k
  have ih:=Qmk n a0 b w k v f g hw m (p+1) (acc++[(QiI us c).1]) (QiI us c).2.1 (QiI us c).2.2 K (by omega) (by simp;omega) (QjO c hu).1 (by omega) (by omega)
  rw [E3 (s':=.inr ((QiI us c).2.1.map eS,(QiI us c).2.2,p+1,(acc++[(QiI us c).1]).map eS)),ih]
  ·simp only [runT,List.append_assoc,List.singleton_append]
  ·unfold QiQ
   dsimp only
   rw [jTj (by rw [QiF];unfold kn at hp;omega),Qk6 n c hu,jBj,jTj (Qky (by decide) (by rw [List.length_map];omega)),Qm0 k p (by unfold kn at hp;omega),List.map_append]
   rfl
theorem QmR (n:Nat) (hn:3000≤n) (a0:Int) {wsx:List Wrd} (b:Bool) (w:jSj) (k:Ki) (v:Int) (f g:FnD) (hw:OkW wsx) :
  Q2 (QiQ n a0 (w,wsx.map eS,b) (mkS (kr k),v,f,g)) n (.inl ())=some (if kn k=0 then .inl () else .inr ((runT QiI (kn k) wsx b).2.1.map eS,(runT QiI (kn k) wsx b).2.2,(runT QiI (kn k) wsx b).1.map eS)):=by
 have hk:=Qnv k
 obtain ⟨K,rfl⟩:∃ K,n=K+1:=⟨n - 1,by omega⟩
 by_cases h0:kn k=0
 ·rw [jTj h0]
  refine JB ?_
  unfold QiQ
  dsimp only
  rw [jFj (by rw [QiF];unfold kn at h0;omega)]
 ·rw [jFj h0]
  obtain ⟨m,hm⟩:∃ m,kn k=m+1:=⟨kn k - 1,by omega⟩
  have ih:=Qmk (K+1) a0 b w k v f g hw m 1 [(QiI wsx b).1] (QiI wsx b).2.1 (QiI wsx b).2.2 K (by omega) rfl (QjO b hw).1 (by omega) (by omega)
  rw [E3 (s':=.inr ((QiI wsx b).2.1.map eS,(QiI wsx b).2.2,1,[(QiI wsx b).1].map eS)),ih,hm]
  ·rfl
  ·unfold QiQ
   dsimp only
   rw [jTj (by rw [QiF];unfold kn at hm;omega),Qk6 _ b hw,jBj,Qm0 k 0 (by unfold kn at hm;omega)]
   rfl
theorem QmJ {n:Nat} (hn:3000≤n) {step:(Unit)⊕(Int×jVj×Bool×jVj)→Option (((Unit)⊕(Int×jVj×Bool×jVj))⊕((Unit)⊕(jVj×Bool×jVj)))} {V:Nat} {wsx:List Wrd} {b:Bool} (hw:OkW wsx) (hV:V≤5)
  (s1:step (.inl ())=if 0 < (V:Int) then (QiG n (wsx.map eS) b).bind fun t=>some (.inl (.inr (1,t.2.1,t.2.2,[I t.1]))) else some (.inr (.inl ())))
  (s2:∀ (i:Int) (us:jVj) (c:Bool) (acc:jVj),step (.inr (i,us,c,acc))=if i < (V:Int) then (QiG n us c).bind fun t=>if Wa 8 (acc.length+1) then if Qh (i+1) then some (.inl (.inr (i+1,t.2.1,t.2.2,acc++([I t.1]:jVj)))) else none else none else some (.inr (.inr (us,c,acc)))) :
  Q2 step n (.inl ())=some (if V=0 then .inl () else .inr ((runT numX V wsx b).2.1.map eS,(runT numX V wsx b).2.2,(runT numX V wsx b).1.map I)):=by
 have main:∀ (m p:Nat) (acc:List Int) (us:List Wrd) (c:Bool) (K:Nat),p+m=V→p=acc.length→OkW us→m < K →
   Q2 step K (.inr ((p:Int),us.map eS,c,acc.map I))=some (.inr ((runT numX m us c).2.1.map eS,(runT numX m us c).2.2,(acc++(runT numX m us c).1).map I)):=by
  intro m
  induction m with
  | zero =>
   intro p acc us c K hp ha hu hK
   obtain ⟨K,rfl⟩:∃ j,K=j+1:=⟨K - 1,by omega⟩
   rw [JB (e:=.inr (us.map eS,c,acc.map I))]
   ·simp only [runT,List.append_nil]
   rw [s2,jFj (by omega)]
  | succ m ih =>
   intro p acc us c K hp ha hu hK
   obtain ⟨K,rfl⟩:∃ j,K=j+1:=⟨K - 1,by omega⟩
   have h:=ih (p+1) (acc++[(numX us c).1]) (numX us c).2.1 (numX us c).2.2 K (by omega) (by simp;omega) (QmG c hu) (by omega)
   rw [E3 (s':=.inr (((p+1:Nat):Int),(numX us c).2.1.map eS,(numX us c).2.2,(acc++[(numX us c).1]).map I)),h]
   ·simp only [runT,List.append_assoc,List.singleton_append]
   ·rw [s2,jTj (by omega),QlL hn c hu,jBj,jTj (Qky (by decide) (by rw [List.length_map];omega)),jTj (i64 (by omega) (by omega)),List.map_append]
    rfl
 obtain ⟨K,hK⟩:∃ j,n=j+1:=⟨n - 1,by omega⟩
 by_cases h0:V=0
 ·rw [jTj h0,hK]
  refine JB ?_
  rw [s1,jFj (by omega)]
 ·rw [jFj h0]
  obtain ⟨m,hm⟩:∃ m,V=m+1:=⟨V - 1,by omega⟩
  have h:=main m 1 [(numX wsx b).1] (numX wsx b).2.1 (numX wsx b).2.2 K (by omega) rfl (QmG b hw) (by omega)
  rw [show Q2 step n (.inl ())=Q2 step (K+1) (.inl ()) by rw [← hK],E3 (s':=.inr (1,(numX wsx b).2.1.map eS,(numX wsx b).2.2,[(numX wsx b).1].map I))]
  ·rw [hm];exact h
  ·rw [s1,jTj (by omega),QlL hn b hw,jBj];rfl
def evX (wsx:List Wrd):Option (jSj×List Wrd×List Int×Bool):=match yJ (QiI wsx false).1 with
 | none=>none
 | some k =>
  let r:=runT QiI (kn k) (QiI wsx false).2.1 (QiI wsx false).2.2
  let q:=runT numX (kv k) r.2.1 r.2.2
  some (mkS (QiI wsx false).1,r.1,q.1,if q.2.2=true then false else decide (q.2.1=[]))
theorem len0 (l:List Wrd):(((l.map eS).length:Int) == 0)=decide (l=[]):=by
 cases l with
 | nil=>rfl
 | cons a l=>simp;omega
theorem QlZ (b d:Bool) (a0:Int) (w:jSj) (ns vs:jVj):(if b=true then some (a0,w,ns,vs,(⟨#[]⟩:jSj),false) else some (a0,w,ns,vs,⟨#[]⟩,d))=some (a0,w,ns,vs,⟨#[]⟩,if b=true then false else d):=by cases b <;> rfl
theorem Qm4 {n:Nat} (hn:3000≤n) (a0:Int) {wsx:List Wrd} (hw:OkW wsx):Qjz n a0 (wsx.map eS)=some (match evX wsx with
  | none=>(0,⟨#[]⟩,[],[],⟨#[]⟩,false)
  | some (w,ns,vs,ok)=>(a0,w,ns.map eS,vs.map I,⟨#[]⟩,ok)):=by
 unfold Qjz evX
 rw [Qk6 n false hw,jBj]
 dsimp only
 cases hk:yJ (QiI wsx false).1 with
 | none =>
  have hno:¬ (VY (.string (mkS (QiI wsx false).1)) Wr).isSome=true:=fun h=>by
   obtain ⟨k,hk'⟩:=Qby h
   rw [Qjx] at hk'
   exact kE hk k hk'
  rw [jFj hno]
 | some k =>
  obtain ⟨h1,f,g,h2⟩:=QcY (a:=mkS (QiI wsx false).1) (k:=k) (by rw [Qjx];exact qM hk)
  have hK:=Qnv k
  rw [jTj h1,h2,jBj,QmR n hn a0 (QiI wsx false).2.2 (mkS (QiI wsx false).1) k (kv k:Int) f g (QjO false hw).1,jBj]
  have hr:OkW (runT QiI (kn k) (QiI wsx false).2.1 (QiI wsx false).2.2).2.1:=QmB (fun b h=>(QjO b h).1) _ _ _ (QjO false hw).1
  by_cases h0:kn k=0
  ·rw [jTj h0]
   dsimp only
   rw [QmJ (V:=kv k) hn (QjO false hw).1 hK.2 rfl (fun _ _ _ _=>rfl),jBj,h0]
   by_cases hv:kv k=0
   ·rw [jTj hv,hv]
    dsimp only [runT]
    rw [len0]
    exact QlZ _ _ _ _ _ _
   ·rw [jFj hv]
    dsimp only [runT]
    rw [len0]
    exact QlZ _ _ _ _ _ _
  ·rw [jFj h0]
   dsimp only
   rw [QmJ (V:=kv k) hn hr hK.2 rfl (fun _ _ _ _=>rfl),jBj]
   by_cases hv:kv k=0
   ·rw [jTj hv,hv]
    dsimp only [runT]
    rw [len0]
    exact QlZ _ _ _ _ _ _
   ·rw [jFj hv]
    dsimp only
    rw [len0]
    exact QlZ _ _ _ _ _ _
theorem Qlg {α β:Type} {g:α→Option β}:∀ {l:List α} {xs:List β},l.mapM g=some xs→xs.length=l.length
 | [],xs,h=>by cases h;rfl
 | a::l,xs,h=>by
  rw [List.mapM_cons] at h
  cases ha:g a with
  | none=>rw [ha] at h;cases h
  | some x =>
   rw [ha] at h
   cases hl:l.mapM g with
   | none=>rw [hl] at h;cases h
   | some ys =>
    rw [hl] at h
    cases h
    simp [Qlg hl]
theorem Qm5 (wsx:List Wrd):(∀ k ns vs,QjK wsx=some (k,ns,vs)→evX wsx=some (mkS (kw k),ns,vs,true))∧(QjK wsx=none→∀ w ns vs ok,evX wsx=some (w,ns,vs,ok)→ok=false):=by
 cases wsx with
 | nil =>
  refine ⟨fun k ns vs h=>(by cases h),fun _ w ns vs ok h=>?_⟩
  unfold evX at h
  rw [show yJ (QiI [] false).1=none by decide] at h
  cases h
 | cons w rest =>
  by_cases hw:w=[]
  ·subst hw
   have e:yJ []=none:=by decide
   have hx:evX ([]::rest)=none:=by unfold evX;rw [show (QiI ([]::rest) false).1=[] by unfold QiI;dsimp only;rw [jTj rfl],e]
   refine ⟨fun k ns vs h=>?_,fun _ w ns vs ok h=>?_⟩
   ·unfold QjK at h;dsimp only at h;rw [e] at h;cases h
   ·rw [hx] at h;cases h
  ·have e1:QiI (w::rest) false=(w,rest,false):=by unfold QiI;dsimp only;rw [jFj hw]
   unfold evX QjK
   rw [e1]
   dsimp only
   cases hk:yJ w with
   | none=>exact ⟨fun k ns vs h=>(by cases h),fun _ w ns vs ok h=>(by cases h)⟩
   | some k =>
    dsimp only
    have hkw:=qM hk
    rcases Qmv (kn k) rest with ⟨xs,a1,a2,a3⟩ | ⟨a1,a2⟩
    ·rw [a3]
     dsimp only
     rcases QmN (kv k) (rest.drop (kn k)) with ⟨ys,b1,b2,b3⟩ | ⟨b1,b2⟩
     ·rw [b3]
      dsimp only
      rw [List.length_drop] at b1
      by_cases hl:rest.length=kn k+kv k
      ·have ht:(rest.drop (kn k)).take (kv k)=rest.drop (kn k):=List.take_of_length_le (by simp;omega)
       have hd:(rest.drop (kn k)).drop (kv k)=[]:=List.drop_eq_nil_of_le (by simp;omega)
       rw [ht] at b2
       rw [jTj hl,a2,jBj,b2,jBj,hd]
       refine ⟨fun k' ns vs h=>?_,fun h=>(by cases h)⟩
       cases h
       rw [hkw];rfl
      ·rw [jFj hl]
       refine ⟨fun k' ns vs h=>(by cases h),fun _ w' ns vs ok h=>?_⟩
       have hd:¬ (rest.drop (kn k)).drop (kv k)=[]:=fun hd=>hl (by have:=List.drop_eq_nil_iff.1 hd;simp at this;omega)
       cases h
       simp [hd]
       omega
     ·have hno:¬ rest.length=kn k+kv k ∨ (rest.drop (kn k)).mapM num=none:=by
       by_cases hl:rest.length=kn k+kv k
       ·right
        have ht:(rest.drop (kn k)).take (kv k)=rest.drop (kn k):=List.take_of_length_le (by simp;omega)
        rw [ht] at b1
        cases hm:(rest.drop (kn k)).mapM num with
        | none=>rfl
        | some _=>exact absurd ⟨by simp;omega,by rw [hm];rfl⟩ b1
       ·exact .inl hl
      have hp:(if rest.length=kn k+kv k then (((rest.take (kn k)).mapM nmG).bind fun ns=>((rest.drop (kn k)).mapM num).bind fun vs=>some (k,ns,vs)) else none)=none:=by
       rcases hno with h | h
       ·rw [jFj h]
       ·rw [h,a2];split <;> rfl
      rw [hp]
      refine ⟨fun k' ns vs h=>(by cases h),fun _ w' ns vs ok h=>?_⟩
      rw [jTj b2] at h
      cases h;rfl
    ·have hp:(if rest.length=kn k+kv k then (((rest.take (kn k)).mapM nmG).bind fun ns=>((rest.drop (kn k)).mapM num).bind fun vs=>some (k,ns,vs)) else none)=none:=by
      by_cases hl:rest.length=kn k+kv k
      ·rw [jTj hl]
       cases hm:(rest.take (kn k)).mapM nmG with
       | none=>rfl
       | some _=>exact absurd ⟨by omega,by rw [hm];rfl⟩ a1
      ·rw [jFj hl]
     rw [hp,a2]
     refine ⟨fun k' ns vs h=>(by cases h),fun _ w' ns vs ok h=>?_⟩
     rw [Qkx QmH,jTj rfl] at h
     cases h;rfl
end Go.Proofs.YtljabneifpkbjaaGreatDoor
set_option maxRecDepth 20000
namespace Go.Proofs.YtljabneifpkbjaaGreatDoor
open Go.SX
abbrev SP:=(Unit)⊕(Int×jVj)⊕(Int×jVj)⊕(Int×jVj×jVj)⊕(Int×jVj×jVj)
abbrev ExP:=(Unit)⊕(Unit)⊕(jVj)⊕(jVj)⊕(jVj×jVj)⊕(jVj×jVj)
def stP (i:Int):List Wrd→List Int→SP
 | [],[]=>.inl ()
 | a::l,[]=>.inr (.inl (i,(a::l).map eS))
 | [],b::m=>.inr (.inr (.inl (i,(b::m).map I)))
 | a::l,b::m=>.inr (.inr (.inr (.inl (i,(a::l).map eS,(b::m).map I))))
def exP:Option (List Wrd×List Int)→ExP
 | none=>.inl ()
 | some ([],[])=>.inr (.inl ())
 | some (a::l,[])=>.inr (.inr (.inl ((a::l).map eS)))
 | some ([],b::m)=>.inr (.inr (.inr (.inl ((b::m).map I))))
 | some (a::l,b::m)=>.inr (.inr (.inr (.inr (.inl ((a::l).map eS,(b::m).map I)))))
def goP (k:Ki):Nat→List Wrd→List Int→List Wrd→Option (List Wrd×List Int)
 | _,ns,vs,[]=>some (ns,vs)
 | i,ns,vs,w::rest=>if w=[] then none else if i≤kn k then goP k (i+1) (ns++[w]) vs rest else match num w with
  | none=>none
  | some v=>goP k (i+1) ns (vs++[v]) rest
theorem QkA {α:Type} {d rest:List α} {i:Nat} {x:α} (hd:d.drop i=x::rest):i < d.length∧d[i]?=some x∧d.drop (i+1)=rest:=by
 have hil:i < d.length:=by
  rcases Nat.lt_or_ge i d.length with h | h
  ·exact h
  ·rw [List.drop_eq_nil_of_le h] at hd;cases hd
 have:=List.drop_eq_getElem_cons hil
 rw [hd] at this
 refine ⟨hil,?_,(List.cons.inj this).2.symm⟩
 rw [List.getElem?_eq_getElem hil]
 exact congrArg some (List.cons.inj this).1.symm
theorem bnd {α β:Type} {q:Option α} {f:α→Option β} {x:α} {r:Option β} (h:q=some x) (e:f x=r):q.bind f=r:=by rw [h];exact e
theorem Qnn {n:Nat} (hn:3000≤n) (w:Wrd):QiH n (mkS w)=some ((num w).getD 0,(num w).isSome):=Qkm hn w
theorem Qkh {n:Nat} (hn:3000≤n) (k:Ki) (W:List Wrd) (t2:jSj) (hW:W.length=1+kn k+kv k):∀ (rest:List Wrd) (i:Nat) (ns:List Wrd) (vs:List Int) (K:Nat),W.drop i=rest→i≤W.length→i=1+ns.length+vs.length→(i≤kn k→vs=[])→rest.length < K →
  Q2 (QiL n (W.map eS) t2 (mkS (kr k),(kv k:Int),true)) K (stP i ns vs)=some (exP (goP k i ns vs rest))
 | _,_,_,_,0,_,_,_,_,hK=>absurd hK (by omega)
 | [],i,ns,vs,K+1,hd,hl,hi,hv,hK=>by
  have hk:=Qnv k
  have hie:i=W.length:=by have:=List.drop_eq_nil_iff.1 hd;omega
  have hno:¬ ((i:Int) < (1+((mkS (kr k)).size:Int))+(kv k:Int)):=by rw [QiF];unfold kn at hW;omega
  refine JB ?_
  unfold QiL
  match ns,vs,hi,hv with
  | [],[],hi,hv =>
   have h1:i=1:=by simpa using hi
   subst h1
   exact jFj hno
  | a::l,[],hi,hv=>exact jFj hno
  | [],b::m,hi,hv=>exact jFj hno
  | a::l,b::m,hi,hv=>exact jFj hno
 | w::rest,i,ns,vs,K+1,hd,hl,hi,hv,hK=>by
  have hk:=Qnv k
  obtain ⟨hil,hx,hd'⟩:=QkA hd
  have hlt:(i:Int) < (1+((mkS (kr k)).size:Int))+(kv k:Int):=by rw [QiF];unfold kn at hW;omega
  have hel:el Ww (W.map eS) (i:Int)=some (mkS w):=Qml hx
  have hkn:((i:Int)≤((mkS (kr k)).size:Int))↔i≤kn k:=by rw [QiF];unfold kn;omega
  have hc:(i:Int)+1=((i+1:Nat):Int):=rfl
  have i6:Qh ((i:Int)+1):=i64 (by omega) (by omega)
  simp only [List.length_cons] at hK
  by_cases hw:w=[]
  ·have hg:goP k i ns vs (w::rest)=none:=by unfold goP;rw [jTj hw]
   rw [hg]
   refine JB ?_
   unfold QiL
   have hb:((mkS w).toList == (⟨#[]⟩:jSj).toList)=true:=by rw [Ql5];exact jDj hw
   match ns,vs,hi,hv with
   | [],[],hi,hv =>
    have h1:i=1:=by simpa using hi
    subst h1
    exact (jTj hlt).trans (bnd hel (jTj hb))
   | a::l,[],hi,hv=>exact (jTj hlt).trans (bnd hel (jTj hb))
   | [],b::m,hi,hv=>exact (jTj hlt).trans (bnd hel (jTj hb))
   | a::l,b::m,hi,hv=>exact (jTj hlt).trans (bnd hel (jTj hb))
  ·have hb:¬ ((mkS w).toList == (⟨#[]⟩:jSj).toList)=true:=by rw [Ql5];simpa using hw
   by_cases hkk:i≤kn k
   ·have hvs:=hv hkk
    subst hvs
    have hg:goP k i ns [] (w::rest)=goP k (i+1) (ns++[w]) [] rest:=by conv=>lhs;unfold goP;rw [jFj hw,jTj hkk]
    rw [hg,← Qkh hn k W t2 hW rest (i+1) (ns++[w]) [] K hd' hil (by simp;simp at hi;omega) (fun _=>rfl) (by omega)]
    refine E3 ?_
    unfold QiL
    match ns,hi with
    | [],hi =>
     have h1:i=1:=by simpa using hi
     subst h1
     exact (jTj hlt).trans (bnd hel ((jFj hb).trans (jTj (hkn.2 hkk))))
    | a::l,hi =>
     have hr:Wa 16 (((a::l).map eS).length+1):=Qky (by decide) (by simp at hi ⊢;omega)
     refine (jTj hlt).trans (bnd hel ((jFj hb).trans ((jTj (hkn.2 hkk)).trans ((jTj hr).trans ((jTj i6).trans ?_)))))
     show some (Sum.inl (Sum.inr (Sum.inl ((i:Int)+1,(a::l).map eS++[eS w]))))=some (Sum.inl (Sum.inr (Sum.inl (((i+1:Nat):Int),((a::l)++[w]).map eS))))
     rw [List.map_append]
     rfl
   ·cases hnum:num w with
    | none =>
     have hg:goP k i ns vs (w::rest)=none:=by unfold goP;rw [jFj hw,jFj hkk,hnum]
     have hint:QiH n (mkS w)=some (0,false):=by rw [Qnn hn,hnum];rfl
     rw [hg]
     refine JB ?_
     unfold QiL
     match ns,vs,hi,hv with
     | [],[],hi,hv =>
      have h1:i=1:=by simpa using hi
      subst h1
      exact (jTj hlt).trans (bnd hel ((jFj hb).trans ((jFj (mt hkn.1 hkk)).trans (bnd hint (jFj nofun)))))
     | a::l,[],hi,hv=>exact (jTj hlt).trans (bnd hel ((jFj hb).trans ((jFj (mt hkn.1 hkk)).trans (bnd hint (jFj nofun)))))
     | [],b::m,hi,hv=>exact (jTj hlt).trans (bnd hel ((jFj hb).trans ((jFj (mt hkn.1 hkk)).trans (bnd hint (jFj nofun)))))
     | a::l,b::m,hi,hv=>exact (jTj hlt).trans (bnd hel ((jFj hb).trans ((jFj (mt hkn.1 hkk)).trans (bnd hint (jFj nofun)))))
    | some v =>
     have hg:goP k i ns vs (w::rest)=goP k (i+1) ns (vs++[v]) rest:=by conv=>lhs;unfold goP;rw [jFj hw,jFj hkk,hnum]
     have hint:QiH n (mkS w)=some (v,true):=by rw [Qnn hn,hnum];rfl
     rw [hg,← Qkh hn k W t2 hW rest (i+1) ns (vs++[v]) K hd' hil (by simp;omega) (fun h=>absurd h (by omega)) (by omega)]
     refine E3 ?_
     unfold QiL
     match ns,vs,hi,hv with
     | [],[],hi,hv =>
      have h1:i=1:=by simpa using hi
      subst h1
      exact (jTj hlt).trans (bnd hel ((jFj hb).trans ((jFj (mt hkn.1 hkk)).trans (bnd hint (jTj rfl)))))
     | a::l,[],hi,hv=>exact (jTj hlt).trans (bnd hel ((jFj hb).trans ((jFj (mt hkn.1 hkk)).trans (bnd hint ((jTj rfl).trans (jTj i6))))))
     | [],b::m,hi,hv =>
      have hr:Wa 8 (((b::m).map I).length+1):=Qky (by decide) (by simp at hi ⊢;omega)
      refine (jTj hlt).trans (bnd hel ((jFj hb).trans ((jFj (mt hkn.1 hkk)).trans (bnd hint ((jTj rfl).trans ((jTj hr).trans ((jTj i6).trans ?_)))))))
      show some (Sum.inl (Sum.inr (Sum.inr (Sum.inl ((i:Int)+1,(b::m).map I++[I v])))))=some (Sum.inl (Sum.inr (Sum.inr (Sum.inl (((i+1:Nat):Int),((b::m)++[v]).map I)))))
      rw [List.map_append]
      rfl
     | a::l,b::m,hi,hv =>
      have hr:Wa 8 (((b::m).map I).length+1):=Qky (by decide) (by simp at hi ⊢;omega)
      refine (jTj hlt).trans (bnd hel ((jFj hb).trans ((jFj (mt hkn.1 hkk)).trans (bnd hint ((jTj rfl).trans ((jTj hr).trans ((jTj i6).trans ?_)))))))
      show some (Sum.inl (Sum.inr (Sum.inr (Sum.inr (Sum.inl ((i:Int)+1,(a::l).map eS,(b::m).map I++[I v]))))))=some (Sum.inl (Sum.inr (Sum.inr (Sum.inr (Sum.inl (((i+1:Nat):Int),(a::l).map eS,((b::m)++[v]).map I))))))
      rw [List.map_append]
      rfl
theorem Qmx (k:Ki):∀ (rest:List Wrd) (i:Nat) (ns:List Wrd) (vs:List Int),goP k i ns vs rest=(((rest.take (kn k+1 - i)).mapM nmG).bind fun a=>((rest.drop (kn k+1 - i)).mapM num).bind fun b=>some (ns++a,vs++b))
 | [],i,ns,vs=>by
  unfold goP;simp
 | w::rest,i,ns,vs=>by
  unfold goP
  by_cases h:i≤kn k
  ·obtain ⟨m,hm⟩:∃ m,kn k+1 - i=m+1:=⟨kn k - i,by omega⟩
   rw [hm,List.take_succ_cons,List.drop_succ_cons,List.mapM_cons]
   unfold nmG
   by_cases hw:w=[]
   ·rw [jTj hw,jTj hw];rfl
   ·rw [jFj hw,jFj hw,jTj h,Qmx k rest (i+1),show kn k+1 - (i+1)=m by omega]
    show _=Option.bind (Option.bind (some w) fun a=>Option.bind (List.mapM nmG (List.take m rest)) fun l=>some (a::l)) _
    cases List.mapM nmG (List.take m rest) with
    | none=>rfl
    | some a =>
     simp only [jBj]
     cases (rest.drop m).mapM num with
     | none=>rfl
     | some b=>simp
  ·rw [show kn k+1 - i=0 by omega,List.take_zero,List.drop_zero,List.mapM_cons]
   by_cases hw:w=[]
   ·subst hw
    have:num []=none:=by unfold num;rw [jFj (fun h:QjX []=>h.1 rfl)]
    rw [jTj rfl,this];rfl
   ·rw [jFj hw,jFj h]
    cases hn:num w with
    | none=>rfl
    | some v =>
     dsimp only
     rw [Qmx k rest (i+1),show kn k+1 - (i+1)=0 by omega,List.take_zero,List.drop_zero]
     show Option.bind (some []) _=Option.bind (some []) _
     simp only [jBj]
     show _=Option.bind (Option.bind (some v) fun a=>Option.bind (List.mapM num rest) fun l=>some (a::l)) _
     cases rest.mapM num with
     | none=>rfl
     | some b=>simp
theorem QmQ {n:Nat} (hn:3000≤n) {p:Wrd} (hp:p.length≤2000):Qju n (mkS p)=some (match QjK (spl 32 p) with
  | none=>(0,⟨#[]⟩,[],[],⟨#[]⟩,false)
  | some (k,ns,vs)=>(0,mkS (kw k),ns.map eS,vs.map I,⟨#[]⟩,true)):=by
 have hsp:Qi4 n (mkS p) 32=some ((spl 32 p).map eS):=QkR hn 32 hp
 unfold Qju
 rw [hsp,jBj]
 have hcl:p.count 32≤p.length:=List.count_le_length
 have hlen:(spl 32 p).length≤2001:=by rw [QjJ];omega
 cases hW:spl 32 p with
 | nil=>exact absurd hW (QjB 32 p)
 | cons w0 rest =>
  have hel:el Ww ((w0::rest).map eS) 0=some (mkS w0):=Qml (i:=0) rfl
  rw [hel,jBj]
  rw [hW] at hlen
  simp only [List.length_cons] at hlen
  unfold QjK
  dsimp only
  cases hk:yJ w0 with
  | none =>
   rw [Qdb n (a:=mkS w0) (by rw [Qjx];exact hk),jBj]
   rfl
  | some k =>
   have hkk:=Qnv k
   have hsz:((mkS (kr k)).size:Int)=(kn k:Int):=by rw [QiF];rfl
   rw [JF n (a:=mkS w0) (k:=k) (by rw [Qjx];exact qM hk),jBj]
   dsimp only
   rw [hsz,jTj (i64 (by omega) (by omega)),jTj (i64 (by omega) (by omega)),jTj rfl]
   by_cases hl:rest.length=kn k+kv k
   ·rw [jTj (by simp;omega),jTj hl]
    have hloop:=Qkh hn k (w0::rest) (mkS w0) (by simp;omega) rest 1 [] [] n rfl (by simp) (by simp) (fun _=>rfl) (by omega)
    have hloop' : Q2 (QiL n ((w0::rest).map eS) (mkS w0) (mkS (kr k),(kv k:Int),true)) n (.inl ())=_:=hloop
    rw [hloop',Qmx,Nat.add_sub_cancel,jBj]
    have hkw:mkS w0=mkS (kw k):=by rw [qM hk]
    rw [hkw]
    cases (rest.take (kn k)).mapM nmG with
    | none=>rfl
    | some a =>
     simp only [jBj]
     cases (rest.drop (kn k)).mapM num with
     | none=>rfl
     | some b =>
      simp only [jBj,List.nil_append]
      cases a <;> cases b <;> rfl
   ·rw [jFj (by simp;omega),jFj hl]
end Go.Proofs.YtljabneifpkbjaaGreatDoor
set_option maxRecDepth 20000
namespace Go.Proofs.YtljabneifpkbjaaGreatDoor
open Go.SX
theorem Qlh {S E:Type} {step:S→Option (S⊕E)}:∀ (k:Nat) (s:S) {e:E},Q2 step k s=some e→∀ j,Q2 step (k+j) s=some e
 | 0,s,e,h,j=>by cases h
 | k+1,s,e,h,j=>by
  rw [show k+1+j=(k+j)+1 by omega]
  cases hs:step s with
  | none =>
   change (match step s with | none=>none | some (.inl s')=>Q2 step k s' | some (.inr e)=>some e)=_ at h
   rw [hs] at h;cases h
  | some r =>
   cases r with
   | inl s' =>
    rw [E3 hs] at h ⊢
    exact Qlh k s' h j
   | inr e' =>
    rw [JB hs] at h ⊢
    exact h
def decZ (u:Nat):Wrd:=if u=0 then [] else Lib.decDigits u
theorem QmT {u:Nat} (h:u≠0):decZ u=decZ (u / 10)++[UInt8.ofNat (48+u % 10)]:=by
 unfold decZ
 rw [jFj h,Lib.decDigits]
 by_cases h10:u < 10
 ·rw [dif_pos h10,jTj (by omega),show u % 10=u by omega];rfl
 ·rw [dif_neg h10,jFj (by omega)]
theorem Qnh:∀ k:Fin 10,Utf8.encode (IntKind.wrap .i32 (48+((k.val:Nat):Int)))=mkS [UInt8.ofNat (48+k.val)]:=by decide
theorem Qm6 {k:Nat} (h:k < 10):Utf8.encode (IntKind.wrap .i32 (48+(k:Int)))=mkS [UInt8.ofNat (48+k)]:=Qnh ⟨k,h⟩
theorem QlF (n:Nat) (a:Int):∀ (k u:Nat) (t:Wrd),u < 10 ^ k→u < 1000000000→t.length+k≤100 →
  Q2 (QiW n a) (k+1) (mkS t,(u:Int))=some (mkS (decZ u++t))
 | 0,u,t,hu,_,_=>by
  have:u=0:=by simpa using hu
  subst this
  refine JB ?_
  unfold QiW
  rfl
 | k+1,u,t,hu,hb,ht=>by
  by_cases h0:u=0
  ·subst h0
   refine JB ?_
   unfold QiW
   rfl
  ·have hm:u % 10 < 10:=Nat.mod_lt _ (by decide)
   have ih:=QlF n a k (u / 10) (UInt8.ofNat (48+u % 10)::t) (by rw [Nat.pow_succ] at hu;omega) (by omega) (by simp;omega)
   have happ:decZ u++t=decZ (u / 10)++(UInt8.ofNat (48+u % 10)::t):=by rw [QmT h0];simp
   rw [happ,← ih]
   refine E3 ?_
   have hsz:(mkS [UInt8.ofNat (48+u % 10)]).size+(mkS t).size≤9223372036854775807:=by rw [QiF,QiF];simp;omega
   have hcons:mkS [UInt8.ofNat (48+u % 10)]++mkS t=mkS (UInt8.ofNat (48+u % 10)::t):=Qjy _ _
   unfold QiW
   have h1:Int.tmod (u:Int) 10=((u % 10:Nat):Int):=rfl
   have h2:Int.tdiv (u:Int) 10=((u / 10:Nat):Int):=rfl
   dsimp only
   rw [jFj (by omega),h1,h2,jFj (by omega),Qm6 hm,jTj (i64 (by omega) (by omega)),jTj hsz,jTj (i64 (by omega) (by omega)),hcons]
theorem Qna {n:Nat} (hn:3000≤n) {a:Int} (h1:0≤a) (h2:a < 1000000000):QjH n a=some (mkS (Lib.itoa a)):=by
 unfold QjH
 rw [Qk7 h1]
 by_cases h0:a=0
 ·subst h0
  have h00:Lib.decDigits (Int.toNat 0)=[48]:=by
   show Lib.decDigits 0=_
   rw [Lib.decDigits,dif_pos (by decide)];rfl
  rw [jTj rfl,h00]
  rfl
 ·rw [jFj h0]
  obtain ⟨k,hk⟩:∃ k,n=10+k:=⟨n - 10,by omega⟩
  have hl:=QlF n a 9 a.toNat [] (by simp;omega) (by omega) (by simp)
  rw [show (a.toNat:Int)=a by omega] at hl
  have hl':=Qlh _ _ hl k
  rw [← hk] at hl'
  have hz:decZ a.toNat=Lib.decDigits a.toNat:=by unfold decZ;rw [jFj (by omega)]
  rw [List.append_nil,hz] at hl'
  have hl2:Q2 (QiW n a) n (⟨#[]⟩,a)=_:=hl'
  rw [hl2,jBj,jFj (by omega)]
theorem Qmt {n:Nat} (hn:3000≤n) {a:Int} (h1:0≤a) (h2:a < 1000000000):Qjm n a=some (mkS (Lib.itoa a)):=by
 unfold Qjm;rw [Qna hn h1 h2];rfl
def sumN:Nat→Wrd→Nat
 | x,[]=>x
 | x,b::l=>sumN ((353 * x+b.toNat) % 9999649) l
theorem QlS:∀ (l:Wrd) (x:Nat),x < 9999649→sumN x l < 9999649
 | [],_,h=>h
 | b::l,x,_=>QlS l _ (Nat.mod_lt _ (by decide))
theorem Qk9 {step:Int×Int→Option ((Int×Int)⊕Int)} (l:Wrd) (hl:l.length≤2000)
  (h:∀ x i:Int,step (x,i)=if i < ((mkS l).size:Int) then (if Qh (353 * x) then (WQ (mkS l) i).bind fun b=>if Qh ((353 * x)+(IntKind.wrap .i64 b)) then if Qh (i+1) then some (.inl ((Int.tmod ((353 * x)+(IntKind.wrap .i64 b)) 9999649),(i+1))) else none else none else none) else some (.inr x)) :
  ∀ (rest:Wrd) (i x k:Nat),l.drop i=rest→i≤l.length→x < 9999649→rest.length < k→Q2 step k ((x:Int),(i:Int))=some ((sumN x rest:Nat):Int)
 | _,_,_,0,_,_,_,hk=>absurd hk (by omega)
 | [],i,x,k+1,hd,hi,_,_=>by
  have hie:i=l.length:=by have:=List.drop_eq_nil_iff.1 hd;omega
  refine JB ?_
  rw [h,jFj (by rw [QiF];omega)];rfl
 | b::rest,i,x,k+1,hd,hi,hx,hk=>by
  obtain ⟨hil,hb,hd'⟩:=QkB hd
  have hb2:b.toNat < 256:=b.toNat_lt
  have ih:=Qk9 l hl h rest (i+1) ((353 * x+b.toNat) % 9999649) k hd' hil (Nat.mod_lt _ (by decide)) (by simp at hk;omega)
  rw [E3 (s':=(((((353 * x+b.toNat) % 9999649:Nat)):Int),((i+1:Nat):Int)))]
  ·exact ih
  ·have hw:IntKind.wrap .i64 (b.toNat:Int)=(b.toNat:Int):=Qms (i64 (by omega) (by omega))
   have hc:(353:Int) * (x:Int)+(b.toNat:Int)=((353 * x+b.toNat:Nat):Int):=by simp
   rw [h,jTj (by rw [QiF];omega),jTj (i64 (by omega) (by omega)),Qi8,hb,Option.map_some,jBj,hw,jTj (i64 (by omega) (by omega)),jTj (i64 (by omega) (by omega)),hc]
   rfl
def digK:Nat→Nat→Wrd
 | 0,_=>[]
 | k+1,x=>digK k (x / 10)++[UInt8.ofNat (48+x % 10)]
theorem Qmn:∀ (k x:Nat),(digK k x).length=k
 | 0,_=>rfl
 | k+1,x=>by unfold digK;simp [Qmn k]
theorem QlQ:∀ k,digK k 0=List.replicate k 48
 | 0=>rfl
 | k+1=>by
  unfold digK
  rw [Nat.zero_div,QlQ k,List.replicate_succ'];rfl
theorem Qmo:∀ (k x:Nat),x < 10 ^ (k+1)→digK (k+1) x=List.replicate (k+1 - (Lib.decDigits x).length) 48++Lib.decDigits x
 | 0,x,h=>by
  have h10:x < 10:=by simpa using h
  rw [Lib.decDigits,dif_pos h10]
  show []++[UInt8.ofNat (48+x % 10)]=_
  rw [Nat.mod_eq_of_lt h10];rfl
 | k+1,x,h=>by
  unfold digK
  by_cases h10:x < 10
  ·rw [Lib.decDigits,dif_pos h10,Nat.div_eq_of_lt h10,Nat.mod_eq_of_lt h10,QlQ];rfl
  ·rw [Qmo k (x / 10) (by rw [Nat.pow_succ] at h;omega),Lib.decDigits.eq_def x,dif_neg h10]
   simp
def dig7 (l:Wrd):Wrd:=digK 7 (sumN 1 l)
theorem Qno:∀ k:Fin 10,IntKind.wrap .u8 (48+((k.val:Nat):Int))=((48+k.val:Nat):Int):=by decide
theorem Qm8 {k:Nat} (h:k < 10):IntKind.wrap .u8 (48+(k:Int))=((48+k:Nat):Int):=Qno ⟨k,h⟩
theorem QkU {n:Nat} (hn:3000≤n) {l:Wrd} (hl:l.length≤2000):Qi5 n (mkS l)=some (mkS (dig7 l)):=by
 unfold Qi5 dig7
 have hloop:Q2 (Qjh n (mkS l)) n (1,0)=_:=Qk9 l hl (fun _ _=>rfl) l 0 1 n rfl (Nat.zero_le _) (by decide) (by omega)
 have hx:=QlS l 1 (by decide)
 rw [hloop,jBj]
 generalize sumN 1 l=x at hx ⊢
 have e1:∀ a:Nat,Int.tdiv (a:Int) 10=((a / 10:Nat):Int):=fun _=>rfl
 have e2:∀ a:Nat,Int.tmod (a:Int) 10=((a % 10:Nat):Int):=fun _=>rfl
 simp only [e1,e2]
 have m:∀ a:Nat,a % 10 < 10:=fun a=>Nat.mod_lt _ (by decide)
 have c1:∀ a:Nat,Qh (48+((a % 10:Nat):Int)):=fun a=>i64 (by have:=m a;omega) (by have:=m a;omega)
 have c2:∀ a:Nat,a < 9999649→Qh ((a / 10:Nat):Int):=fun a h=>i64 (by omega) (by omega)
 rw [jTj (c1 _),jTj (c2 _ (by omega)),jTj (c1 _),jTj (c2 _ (by omega)),jTj (c1 _),jTj (c2 _ (by omega)),jTj (c1 _),jTj (c2 _ (by omega)),jTj (c1 _),jTj (c2 _ (by omega)),jTj (c1 _),jTj (c2 _ (by omega)),jTj (c1 _),jTj (c2 _ (by omega))]
 simp only [Qm8 (m _)]
 rfl
theorem Qme (n:Nat):∀ (m:Nat) (s:Wrd) (K:Nat),s.length+m=7→m < K→Q2 (Qji n) K (mkS s)=some (mkS (List.replicate m 48++s))
 | _,_,0,_,h=>absurd h (by omega)
 | 0,s,K+1,hs,_=>by
  refine JB ?_
  unfold Qji
  rw [jFj (by rw [QiF];omega)];rfl
 | m+1,s,K+1,hs,hK=>by
  have ih:=Qme n m (48::s) K (by simp;omega) (by omega)
  rw [List.replicate_succ',List.append_assoc]
  refine (E3 ?_).trans ih
  unfold Qji
  have e:(⟨#[48]⟩:jSj)++mkS s=mkS (48::s):=Qjy [48] s
  have e2:(⟨#[48]⟩:jSj).size=1:=rfl
  rw [jTj (by rw [QiF];omega),e2,jTj (by rw [QiF];omega),e]
theorem QlH {n:Nat} (hn:3000≤n) {l:Wrd} (hl:l.length≤2000):QjC n (mkS l)=some (mkS (dig7 l)):=by
 unfold QjC dig7
 have hloop:Q2 (QjF n (mkS l)) n (1,0)=_:=Qk9 l hl (fun _ _=>rfl) l 0 1 n rfl (Nat.zero_le _) (by decide) (by omega)
 have hx:=QlS l 1 (by decide)
 have hlen:=(Qmp (sumN 1 l)).2.2.2.2 7 (by decide) (by omega)
 rw [hloop,jBj,Qmt hn (by omega) (by omega),jBj,Qk7 (by omega),Int.toNat_natCast,Qme n (7 - (Lib.decDigits (sumN 1 l)).length) _ n (by omega) (by omega),jBj,← Qmo 6 _ (by omega)]
theorem Qlm (l:Wrd):(dig7 l).length=7:=Qmn 7 _
end Go.Proofs.YtljabneifpkbjaaGreatDoor
set_option maxRecDepth 20000
namespace Go.Proofs.YtljabneifpkbjaaGreatDoor
open Go.SX
theorem Ql1 {α:Type} {p:α→Bool}:∀ {l:List α},l.dropWhile p=[]↔∀ x,x∈l→p x=true
 | []=>⟨fun _ x hx=>(by cases hx),fun _=>rfl⟩
 | a::l=>by
  rw [List.dropWhile_cons]
  by_cases h:p a=true
  ·rw [jTj h,Ql1 (l:=l)]
   constructor
   ·intro hl x hx
    cases hx with
    | head=>exact h
    | tail _ hx=>exact hl x hx
   ·intro hl x hx;exact hl x (List.mem_cons_of_mem _ hx)
  ·rw [jFj h]
   exact ⟨fun e=>(by cases e),fun hl=>absurd (hl a jMj) h⟩
theorem QmK {α:Type} {p:α→Bool}:∀ {l r:List α} {a:α},l.dropWhile p=a::r→¬ p a=true
 | b::l,r,a,h=>by
  rw [List.dropWhile_cons] at h
  by_cases hb:p b=true
  ·rw [jTj hb] at h;exact QmK h
  ·rw [jFj hb] at h;cases h;exact hb
theorem trim_nil {l cs:Wrd}:Lib.trimS l cs=[]↔∀ x,x∈l→cs.contains x=true:=by
 unfold Lib.trimS Lib.trimLeftS Lib.trimRightS
 rw [Ql1]
 constructor
 ·intro h
  cases hd:l.reverse.dropWhile (cs.contains ·) with
  | nil=>exact fun x hx=>Ql1.1 hd x (List.mem_reverse.2 hx)
  | cons a r =>
   exact absurd (h a (by rw [hd];simp)) (QmK hd)
 ·intro h x hx
  have hd:l.reverse.dropWhile (cs.contains ·)=[]:=Ql1.2 fun y hy=>h y (List.mem_reverse.1 hy)
  rw [hd] at hx;cases hx
theorem Qmm (b:UInt8):([48,49,50,51,52,53,54,55,56,57]:Wrd).contains b=true↔48≤b.toNat∧b.toNat≤57:=by
 rw [List.contains_iff_mem]
 constructor
 ·intro h
  simp only [List.mem_cons,List.not_mem_nil,or_false] at h
  rcases h with h | h | h | h | h | h | h | h | h | h <;> subst h <;> decide
 ·intro h
  have:b.toNat=48 ∨ b.toNat=49 ∨ b.toNat=50 ∨ b.toNat=51 ∨ b.toNat=52 ∨ b.toNat=53 ∨ b.toNat=54 ∨ b.toNat=55 ∨ b.toNat=56 ∨ b.toNat=57:=by omega
  have e:∀ c:UInt8,b.toNat=c.toNat→b=c:=fun c hc=>UInt8.toNat_inj.1 hc
  rcases this with h | h | h | h | h | h | h | h | h | h
  ·rw [e 48 h];decide
  ·rw [e 49 h];decide
  ·rw [e 50 h];decide
  ·rw [e 51 h];decide
  ·rw [e 52 h];decide
  ·rw [e 53 h];decide
  ·rw [e 54 h];decide
  ·rw [e 55 h];decide
  ·rw [e 56 h];decide
  ·rw [e 57 h];decide
theorem QmW (n:Nat) {l:Wrd} (hl:l.length≤2000):∃ s,Qjr n (mkS l) ⟨#[48,49,50,51,52,53,54,55,56,57]⟩=some s∧(s.toList == (⟨#[]⟩:jSj).toList)=decide (QiV l):=by
 refine ⟨mkS (Lib.trimS l [48,49,50,51,52,53,54,55,56,57]),?_,?_⟩
 ·unfold Qjr
  rw [jTj ⟨by rw [QiF];omega,by decide,by decide⟩,Qjx];rfl
 ·rw [show (⟨#[]⟩:jSj)=mkS [] from rfl,Qkr]
  have:(Lib.trimS l [48,49,50,51,52,53,54,55,56,57]=[])↔QiV l:=trim_nil.trans ⟨fun h c hc=>(Qmm c).1 (h c hc),fun h c hc=>(Qmm c).2 (h c hc)⟩
  by_cases h:QiV l
  ·rw [jDj h,jDj (this.2 h)]
  ·rw [jEj h,jEj (mt this.1 h)]
theorem QkT (n:Nat) (l:Wrd) (hl:l.length≤2000):∀ (rest:Wrd) (i k:Nat),l.drop i=rest→i≤l.length→rest.length < k →
  Q2 (QiR n (mkS l)) k (i:Int)=some (if QiV rest then .inr () else .inl ())
 | _,_,0,_,_,hk=>absurd hk (by omega)
 | [],i,k+1,hd,hi,_=>by
  have hie:i=l.length:=by have:=List.drop_eq_nil_iff.1 hd;omega
  rw [JB (e:=.inr ()),jTj (show QiV [] from fun c hc=>by cases hc)]
  unfold QiR
  rw [jFj (by rw [QiF];omega)]
 | x::rest,i,k+1,hd,hi,hk=>by
  obtain ⟨hil,hx,hd'⟩:=QkB hd
  by_cases hdig:48≤x.toNat∧x.toNat≤57
  ·rw [E3 (s':=((i+1:Nat):Int)),QkT n l hl rest (i+1) k hd' hil (by simp at hk;omega)]
   ·by_cases hq:QiV rest
    ·rw [jTj hq,jTj (Qjf.2 ⟨hdig,hq⟩)]
    ·rw [jFj hq,jFj (fun h=>hq (Qjf.1 h).2)]
   ·unfold QiR
    rw [jTj (by rw [QiF];omega),Qi8,hx,Option.map_some,jBj,jFj (by omega),jFj (by omega),jTj (i64 (by omega) (by omega))];rfl
  ·rw [JB (e:=.inl ()),jFj (fun h=>hdig (Qjf.1 h).1)]
   unfold QiR
   rw [jTj (by rw [QiF];omega),Qi8,hx,Option.map_some,jBj]
   by_cases h48:x.toNat < 48
   ·rw [jTj (by omega)]
   ·rw [jFj (by omega),jTj (by omega)]
theorem QmS {n:Nat} (hn:3000≤n) {l:Wrd} (hl:l.length≤2000):Qjt n (mkS l)=some (decide (QiV l) && decide (l.length=7)):=by
 unfold Qjt
 have h:Q2 (QiR n (mkS l)) n 0=_:=QkT n l hl l 0 n rfl (Nat.zero_le _) (by omega)
 rw [h,jBj]
 by_cases hd:QiV l
 ·rw [jTj hd,jDj hd,Bool.true_and]
  show some (((mkS l).size:Int) == 7)=_
  rw [QiF]
  congr 1
  by_cases h7:l.length=7
  ·rw [h7];rfl
  ·rw [jEj h7];simp;omega
 ·rw [jFj hd,jEj hd];rfl
def evOf (m:Int) (t:Tri):Ev:=(m,mkS (kw t.1),t.2.1.map mkS,t.2.2,⟨#[]⟩)
def recX (l:Wrd):Ev⊕Int :=
 if l.length < 8 then .inr 25
 else if l[l.length - 8]?=some 35∧QiV (l.drop (l.length - 8+1)) then
  if dig7 (l.take (l.length - 8))=l.drop (l.length - 8+1) then
   match spl 32 (l.take (l.length - 8)) with
   | []=>.inr 25
   | w::wsx=>match num w,QjK wsx with
    | some m,some t=>if chk (evOf m t)=0 then .inl (evOf m t) else .inr 25
    | _,_=>.inr 25
  else .inr 27
 else .inr 25
theorem Qlf {wsx:List Wrd} {t:Tri} (h:QjK wsx=some t):t.2.1.length=kn t.1∧t.2.2.length=kv t.1∧∃ w rest,wsx=w::rest∧w=kw t.1∧rest.length=kn t.1+kv t.1∧t.2.1=rest.take (kn t.1)∧(rest.drop (kn t.1)).mapM num=some t.2.2:=by
 unfold QjK at h
 cases wsx with
 | nil=>cases h
 | cons w rest =>
  dsimp only at h
  cases hk:yJ w with
  | none=>rw [hk] at h;cases h
  | some k =>
   rw [hk] at h
   dsimp only at h
   split at h
   case isFalse=>cases h
   rename_i hl
   cases ha:(rest.take (kn k)).mapM nmG with
   | none=>rw [ha] at h;cases h
   | some a =>
    rw [ha,jBj] at h
    cases hb:(rest.drop (kn k)).mapM num with
    | none=>rw [hb] at h;cases h
    | some b =>
     rw [hb,jBj] at h
     cases h
     have h1:=Qlg ha
     have h2:=Qlg hb
     have e:∀ {l a:List Wrd},l.mapM nmG=some a→a=l:=by
      intro l
      induction l with
      | nil=>intro a h;cases h;rfl
      | cons x l ih =>
       intro a h
       rw [List.mapM_cons] at h
       unfold nmG at h
       by_cases hx:x=[]
       ·rw [jTj hx] at h;cases h
       ·rw [jFj hx] at h
        cases hl:l.mapM (fun w=>if w=[] then none else some w) with
        | none =>
         have hl' : l.mapM nmG=none:=hl
         change (some x >>= fun a=>(l.mapM nmG) >>= fun b=>pure (a::b))=some a at h
         rw [hl'] at h;cases h
        | some b =>
         have hl' : l.mapM nmG=some b:=hl
         change (some x >>= fun a=>(l.mapM nmG) >>= fun b=>pure (a::b))=some a at h
         rw [hl'] at h;cases h
         rw [ih hl']
     refine ⟨by rw [h1];simp;omega,by rw [h2];simp;omega,w,rest,rfl,qM hk,hl,e ha,hb⟩
theorem Qmw (ns:List Wrd):(ns.map mkS).map Sd=ns.map eS:=by rw [List.map_map];rfl
theorem QlY {p:Wrd} (h:p.length≤2000):OkW (spl 32 p):=by
 refine ⟨by rw [QjJ];have:p.count 32≤p.length:=List.count_le_length;omega,fun w hw=>?_⟩
 have:∀ {c:UInt8} {l w:Wrd},w∈spl c l→w.length≤l.length:=by
  intro c l w hw
  obtain ⟨a,b,h⟩:=List.append_of_mem hw
  have hg:=QjE c l
  rw [h] at hg
  rw [← hg]
  clear hg h hw
  have glue_len:∀ (L:List Wrd),w∈L→w.length≤(glue c L).length:=by
   intro L
   induction L with
   | nil=>intro h;cases h
   | cons x L ih =>
    intro h
    cases L with
    | nil =>
     cases h with
     | head=>exact jLj _
     | tail _ h=>cases h
    | cons y L =>
     show w.length≤(x++c::glue c (y::L)).length
     cases h with
     | head=>simp
     | tail _ h=>have:=ih h;simp at this ⊢;omega
  exact glue_len _ (by simp)
 have:=this hw;omega
theorem Qmq {n:Nat} (hn:3000≤n) {p:Wrd} (hp:p.length≤2000) {w:Wrd} {wsx:List Wrd} (hs:spl 32 p=w::wsx) {m:Int} {t:Tri} (ht:QjK wsx=some t) :
  WX n m (mkS (kw t.1)) (t.2.1.map eS) (t.2.2.map I) ⟨#[]⟩=some (chk (evOf m t))∧WV n m (mkS (kw t.1)) (t.2.1.map eS) (t.2.2.map I) ⟨#[]⟩=some (chk (evOf m t)):=by
 obtain ⟨h1,h2,w0,rest,rfl,hw,hr,h3,h4⟩:=Qlf ht
 have hk:=Qnv t.1
 have ok:=QlY hp
 rw [hs] at ok
 have hsz:∀ s,s∈(evOf m t).2.2.1→s.size < n:=fun s h=>by
  obtain ⟨x,hx,rfl⟩:=List.mem_map.1 h
  rw [h3] at hx
  have:=ok.2 x (List.mem_cons_of_mem _ (List.mem_cons_of_mem _ (List.mem_of_mem_take hx)))
  rw [QiF];omega
 have l1:(evOf m t).2.2.1.length≤6:=by show (t.2.1.map mkS).length≤6;rw [List.length_map];omega
 have l2:(evOf m t).2.2.2.1.length≤8:=by show t.2.2.length≤8;omega
 have c1:=QkC (n:=n) (by omega) (evOf m t) l1 l2 hsz
 have c2:=Qj4 (n:=n) (by omega) (evOf m t) ⟨l1,l2⟩
 unfold evOf at c1 c2
 dsimp only at c1 c2
 rw [Qmw] at c1 c2
 exact ⟨c1,c2⟩
def Qnk (x:Ev⊕Int) (num:Int):Int×jSj×jVj×jVj×jSj×Int:=match x with
 | .inl e=>(e.1,e.2.1,e.2.2.1.map Sd,e.2.2.2.1.map I,e.2.2.2.2,QF (e.1 != num) 11)
 | .inr e=>(0,⟨#[]⟩,[],[],⟨#[]⟩,e)
theorem Qnd {n:Nat} (hn:3000≤n) {l:Wrd} (hl:l.length≤2000) (nu:Int):Qi3 n (mkS l) nu=some (Qnk (recX l) nu):=by
 unfold Qi3 recX
 rw [QiF,jTj (i64 (by omega) (by omega)),jTj (i64 (by omega) (by omega))]
 by_cases h8:l.length < 8
 ·rw [jTj (by omega),jTj h8];rfl
 rw [jFj (by omega),jFj h8]
 obtain ⟨q,hq⟩:∃ q,l.length - 8=q:=⟨_,rfl⟩
 have hqi:((l.length:Int) - 7) - 1=(q:Int):=by omega
 have hql:q+8=l.length:=by omega
 rw [hqi,hq,Qi8]
 obtain ⟨c,hc⟩:∃ c,l[q]?=some c:=⟨_,List.getElem?_eq_getElem (by omega)⟩
 rw [hc,Option.map_some,jBj]
 by_cases h35:c=35
 case neg =>
  have h35' : ¬ ((c.toNat:Int)=35):=fun e=>h35 (UInt8.toNat_inj.1 (by show c.toNat=35;omega))
  rw [jFj h35',jFj (fun h=>h35 (Option.some.inj h.1))];rfl
 subst h35
 rw [jTj (by decide),jTj (i64 (by omega) (by omega)),show (q:Int)+1=((q+1:Nat):Int) from rfl,QjN l (by omega),jBj]
 obtain ⟨s,s1,s2⟩:=QmW n (l:=l.drop (q+1)) (by simp;omega)
 rw [s1,jBj,s2]
 by_cases hdig:QiV (l.drop (q+1))
 case neg=>rw [jTj (by rw [jEj hdig];rfl),jFj (fun h=>hdig h.2)];rfl
 rw [jFj (by rw [jDj hdig];decide),jTj ⟨rfl,hdig⟩,QlT l (by omega),jBj,QkU hn (by simp;omega),jBj,Qkr]
 by_cases hsum:dig7 (l.take q)=l.drop (q+1)
 case neg=>rw [jTj (by rw [jEj hsum];rfl),jFj hsum];rfl
 rw [jFj (by rw [jDj hsum];decide),jTj hsum]
 have hp:(l.take q).length≤2000:=by simp;omega
 generalize l.take q=p at hp ⊢
 rw [QmY hn hp,jBj]
 have ok:=QlY hp
 cases hs:spl 32 p with
 | nil=>exact absurd hs (QjB 32 p)
 | cons w wsx =>
  have hel:el Ww ((w::wsx).map eS) 0=some (mkS w):=Qml (i:=0) rfl
  rw [hs] at ok
  have ok2:OkW wsx:=⟨by have:=ok.1;simp at this;omega,fun x hx=>ok.2 x (List.mem_cons_of_mem _ hx)⟩
  have hwl:=ok.1
  simp only [List.length_cons] at hwl
  rw [hel,jBj,Qli hn (ok.2 w jMj),jBj,jTj (by simp;omega)]
  dsimp only
  rw [show ((w::wsx).map eS).drop (Int.toNat 1)=wsx.map eS from rfl,Qm4 hn _ ok2,jBj]
  obtain ⟨x1,x2⟩:=Qm5 wsx
  cases hnum:num w with
  | none=>rw [jFj (by simp)];rfl
  | some m =>
   rw [jTj (show (some m).isSome=true from rfl),Qmj hnum]
   cases hpw:QjK wsx with
   | none =>
    cases hev:evX wsx with
    | none=>rw [jFj (by simp)];rfl
    | some r =>
     obtain ⟨w',ns,vs,ok'⟩:=r
     have:=x2 hpw w' ns vs ok' hev
     subst this
     rw [jFj (by simp)];rfl
   | some t =>
    have hev:=x1 t.1 t.2.1 t.2.2 hpw
    rw [hev]
    dsimp only
    rw [jTj rfl,(Qmq hn hp hs hpw).1,jBj]
    by_cases hchk:chk (evOf m t)=0
    ·rw [jTj hchk,jTj hchk,Zd,jBj]
     show _=some (m,mkS (kw t.1),(t.2.1.map mkS).map Sd,t.2.2.map I,(⟨#[]⟩:jSj),_)
     rw [Qmw];rfl
    ·rw [jFj hchk,jFj hchk];rfl
def recR (x:Ev⊕Int):Int×jSj×jVj×jVj×jSj×Int:=match x with
 | .inl e=>(e.1,e.2.1,e.2.2.1.map Sd,e.2.2.2.1.map I,e.2.2.2.2,0)
 | .inr e=>(0,⟨#[]⟩,[],[],⟨#[]⟩,e)
theorem QkJ {n:Nat} (hn:3000≤n) {l:Wrd} (hl:l.length≤2000):Qjs n (mkS l)=some (recR (recX l)):=by
 unfold Qjs recX
 rw [QiF,jTj (i64 (by omega) (by omega))]
 by_cases h8:l.length < 8
 ·rw [jTj (by omega),jTj h8];rfl
 rw [jFj (by omega),jFj h8]
 obtain ⟨q,hq⟩:∃ q,l.length - 8=q:=⟨_,rfl⟩
 have hqi:(l.length:Int) - 8=(q:Int):=by omega
 have hql:q+8=l.length:=by omega
 rw [hqi,hq,Qi8]
 obtain ⟨c,hc⟩:∃ c,l[q]?=some c:=⟨_,List.getElem?_eq_getElem (by omega)⟩
 rw [hc,Option.map_some,jBj]
 by_cases h35:c=35
 case neg =>
  have h35' : ¬ ((c.toNat:Int)=35):=fun e=>h35 (UInt8.toNat_inj.1 (by show c.toNat=35;omega))
  rw [jFj h35',jFj (fun h=>h35 (Option.some.inj h.1))];rfl
 subst h35
 rw [jTj (by decide),jTj (i64 (by omega) (by omega)),show (q:Int)+1=((q+1:Nat):Int) from rfl,QjN l (by omega),jBj,QmS hn (by simp;omega),jBj,jDj (show (l.drop (q+1)).length=7 by simp;omega),Bool.and_true]
 by_cases hdig:QiV (l.drop (q+1))
 case neg=>rw [jFj (by rw [jEj hdig];decide),jFj (fun h=>hdig h.2)];rfl
 rw [jTj (jDj hdig),jTj ⟨rfl,hdig⟩,QlT l (by omega),jBj,QlH hn (by simp;omega),jBj,Qkr]
 by_cases hsum:dig7 (l.take q)=l.drop (q+1)
 case neg=>rw [jTj (by rw [jEj (fun h=>hsum h.symm)];rfl),jFj hsum];rfl
 rw [jFj (by rw [jDj hsum.symm];decide),jTj hsum]
 have hp:(l.take q).length≤2000:=by simp;omega
 generalize l.take q=p at hp ⊢
 have hsp:Qi4 n (mkS p) 32=some ((spl 32 p).map eS):=QkR hn 32 hp
 rw [hsp,jBj]
 cases hs:spl 32 p with
 | nil=>exact absurd hs (QjB 32 p)
 | cons w wsx =>
  have hel:el Ww ((w::wsx).map eS) 0=some (mkS w):=Qml (i:=0) rfl
  have ok:=QlY hp
  rw [hs] at ok
  have hwl:=ok.1
  simp only [List.length_cons] at hwl
  have hw2:=ok.2 w jMj
  rw [hel,jBj,Qkm hn,jBj]
  dsimp only
  cases hnum:num w with
  | none=>rw [jFj (by simp)];rfl
  | some m =>
   rw [jTj (show (some m).isSome=true from rfl)]
   cases wsx with
   | nil=>rw [jTj (by simp)];rfl
   | cons w1 wz1 =>
    have hg:p=w++32::glue 32 (w1::wz1):=by
     have:=QjE 32 p
     rw [hs] at this
     exact this.symm
    have hfree:=fun x hx=>Qke 32 p x (by rw [hs];exact List.mem_cons_of_mem w hx)
    have hsp2:spl 32 (glue 32 (w1::wz1))=w1::wz1:=Qlb 32 _ (by simp) hfree
    have hdrop:p.drop (w.length+1)=glue 32 (w1::wz1):=by rw [hg];simp
    have hpl:w.length+1≤p.length:=by rw [hg];simp
    rw [jFj (by simp;omega),QiF,jTj (i64 (by omega) (by omega)),show (w.length:Int)+1=((w.length+1:Nat):Int) from rfl,QjN p hpl,jBj,hdrop,QmQ hn (by rw [← hdrop];simp;omega),jBj,hsp2]
    cases hpw:QjK (w1::wz1) with
    | none=>rw [jFj (by simp)];rfl
    | some t =>
     dsimp only
     rw [jTj rfl,Option.getD_some,(Qmq hn hp hs hpw).2,jBj]
     by_cases hchk:chk (evOf m t)=0
     ·rw [jTj hchk,jTj hchk]
      show _=some (m,mkS (kw t.1),(t.2.1.map mkS).map Sd,t.2.2.map I,(⟨#[]⟩:jSj),0)
      rw [Qmw]
     ·rw [jFj hchk,jFj hchk];rfl
end Go.Proofs.YtljabneifpkbjaaGreatDoor
set_option maxRecDepth 20000
namespace Go.Proofs.YtljabneifpkbjaaGreatDoor
open Go.SX
def recP:List Wrd→Nat→List Ev×Nat×Int
 | [],_=>([],0,0)
 | [p],_=>([],0,if p=[] then 0 else 28)
 | p::q::L,k=>match recX p with
  | .inr e=>([],0,e)
  | .inl ev=>if ev.1=(k:Int)+1 then (ev::(recP (q::L) (k+1)).1,p.length+1+(recP (q::L) (k+1)).2.1,(recP (q::L) (k+1)).2.2) else ([],0,11)
theorem Qkg {l:Wrd} {e:Int} (h:recX l=.inr e):e=25 ∨ e=27:=by
 unfold recX at h
 repeat' split at h
 all_goals first | (cases h;exact .inl rfl) | (cases h;exact .inr rfl) | cases h
theorem QmI (n:Nat) (l:Wrd):Qi2 n (mkS l)=some (Lib.indexByte l 10):=by
 unfold Qi2
 have e:(⟨#[10]⟩:jSj)=mkS [10]:=rfl
 rw [e,Qkr]
 by_cases h:[10]=l
 ·rw [jTj (jDj h),← h];rfl
 ·rw [jFj (by simpa using h)]
  unfold Qi6
  rw [Qjx];rfl
theorem Qni (n:Nat) {a b:Wrd} (h:(10:UInt8) ∉ a) (hl:(a++10::b).length≤2000):Qjg n (mkS (a++10::b))=some (mkS a,mkS b,true):=by
 unfold Qjg Qje
 have hab:a.length+b.length+1≤2000:=by simp at hl;omega
 rw [QmI,jBj,QkK b h,jTj (by omega),QlT _ (by simp),jBj,jTj (i64 (by omega) (by omega)),show (a.length:Int)+1=((a.length+1:Nat):Int) from rfl,QjN _ (by simp),jBj]
 simp
theorem Qm7 (n:Nat) {a:Wrd} (h:(10:UInt8) ∉ a):Qjg n (mkS a)=some (mkS a,⟨#[]⟩,false):=by
 unfold Qjg Qje
 rw [QmI,jBj,Qlj h,jFj (by decide)];rfl
theorem QmO {s p q:Wrd} {L:List Wrd} (h:spl 10 s=p::q::L):∃ s',s=p++10::s'∧(10:UInt8) ∉ p∧spl 10 s'=q::L:=by
 have hg:=QjE 10 s
 have hf:=fun x hx=>Qke 10 s x hx
 rw [h] at hg hf
 refine ⟨glue 10 (q::L),hg.symm,hf p jMj,Qlb 10 _ (by simp) fun x hx=>hf x (List.mem_cons_of_mem _ hx)⟩
theorem Qnb {s p:Wrd} (h:spl 10 s=[p]):s=p∧(10:UInt8) ∉ s:=by
 have hg:=QjE 10 s
 have hf:=Qke 10 s p (by rw [h];simp)
 rw [h] at hg
 have:s=p:=hg.symm
 exact ⟨this,by rw [this];exact hf⟩
theorem QlW {k:Nat} (h:k≤5000):Wa 88 k:=Qky (by decide) h
def rcvE (a:Nat) (acc:List Ev) (r:List Ev×Nat×Int):(Int×Int×jVj)⊕(Int×jVj) :=
 if r.2.2=0 then .inr (((a+r.2.1:Nat):Int),(acc++r.1).map Zr) else .inl (((a+r.2.1:Nat):Int),r.2.2,(acc++r.1).map Zr)
theorem Qmd {n:Nat} (hn:3000≤n) (l:Wrd) (hl:l.length≤2000):∀ (L:List Wrd) (s:Wrd) (a:Nat) (acc:List Ev) (K:Nat),spl 10 s=L→l.drop a=s→a≤l.length→acc.length≤a→L.length < K →
  Q2 (QiP n (mkS l)) K ((a:Int),acc.map Zr)=some (rcvE a acc (recP L acc.length))
 | _,_,_,_,0,_,_,_,_,h=>absurd h (by omega)
 | [],s,_,_,_+1,hs,_,_,_,_=>absurd hs (QjB 10 s)
 | [p],s,a,acc,K+1,hs,hd,ha,hc,hK=>by
  obtain ⟨rfl,hf⟩:=Qnb hs
  refine JB ?_
  unfold QiP recP rcvE
  dsimp only
  by_cases hp:s=[]
  ·subst hp
   have:a=l.length:=by have:=List.drop_eq_nil_iff.1 hd;omega
   rw [jFj (by rw [QiF];omega),jTj rfl]
   simp
  ·have hlt:a < l.length:=by
    rcases Nat.lt_or_ge a l.length with h | h
    ·exact h
    ·rw [List.drop_eq_nil_of_le h] at hd;exact absurd hd.symm hp
   rw [jTj (by rw [QiF];omega),QjN l ha,hd,jBj,Qm7 n hf,jBj,jFj (show ¬ (false=true) by decide)]
   rw [jFj hp,jFj (by decide)]
   simp
 | p::q::L,s,a,acc,K+1,hs,hd,ha,hc,hK=>by
  obtain ⟨s',rfl,hf,hs'⟩:=QmO hs
  have hlen:(p++10::s').length=l.length - a:=by rw [← hd];simp
  have hlp:p.length+s'.length+1=l.length - a:=by simp at hlen;omega
  have hcut:=Qni n (a:=p) (b:=s') hf (by omega)
  have hpre:∀ r,Qi3 n (mkS p) (((acc.map Zr).length:Int)+1)=some (Qnk r (((acc.map Zr).length:Int)+1))→recX p=r→QiP n (mkS l) ((a:Int),acc.map Zr)=(match r with
    | .inr e=>some (.inr (.inl ((a:Int),e,acc.map Zr)))
    | .inl ev=>if ev.1=(acc.length:Int)+1 then some (.inl (((a+(p.length+1):Nat):Int),(acc++[ev]).map Zr)) else some (.inr (.inl ((a:Int),11,acc.map Zr)))):=by
   intro r hr hx
   unfold QiP
   dsimp only
   rw [List.length_map] at hr ⊢
   rw [jTj (by rw [QiF];omega),QjN l ha,hd,jBj,hcut,jBj,jTj rfl,jTj (i64 (by omega) (by omega))]
   cases r with
   | inr e =>
    have he:=Qkg hx
    have hr' : Qi3 n (mkS p) ((acc.length:Int)+1)=some (0,⟨#[]⟩,[],[],⟨#[]⟩,e):=hr
    rw [hr',jBj]
    dsimp only
    rw [jFj (by omega)]
   | inl ev =>
    dsimp only
    by_cases hev:ev.1=(acc.length:Int)+1
    ·have hw:QF (ev.1 != (acc.length:Int)+1) 11=0:=by rw [hev];simp [QF]
     have hr' : Qi3 n (mkS p) ((acc.length:Int)+1)=some (ev.1,ev.2.1,ev.2.2.1.map Sd,ev.2.2.2.1.map I,ev.2.2.2.2,0):=by rw [hr,← hw];rfl
     rw [hr',jBj,jTj hev]
     dsimp only
     rw [jTj rfl,jTj (QlW (by omega)),QiF,jTj (i64 (by omega) (by omega)),jTj (i64 (by omega) (by omega)),List.map_append]
     rfl
    ·have hw:QF (ev.1 != (acc.length:Int)+1) 11=11:=by simp [QF,hev]
     have hr' : Qi3 n (mkS p) ((acc.length:Int)+1)=some (ev.1,ev.2.1,ev.2.2.1.map Sd,ev.2.2.2.1.map I,ev.2.2.2.2,11):=by rw [hr,← hw];rfl
     rw [hr',jBj,jFj hev]
     dsimp only
     rw [jFj (by decide)]
  have hstep:=hpre (recX p) (Qnd hn (by omega) _) rfl
  unfold recP
  cases hx:recX p with
  | inr e =>
   rw [hx] at hstep
   have he:=Qkg hx
   refine (JB hstep).trans ?_
   unfold rcvE
   dsimp only
   rw [jFj (by omega)]
   simp
  | inl ev =>
   rw [hx] at hstep
   dsimp only at hstep ⊢
   by_cases hev:ev.1=(acc.length:Int)+1
   ·rw [jTj hev] at hstep ⊢
    have hd' : l.drop (a+(p.length+1))=s':=by rw [← List.drop_drop,hd];simp
    have ih:=Qmd hn l hl (q::L) s' (a+(p.length+1)) (acc++[ev]) K hs' hd' (by omega) (by simp;omega) (by simp at hK ⊢;omega)
    rw [List.length_append,List.length_singleton] at ih
    refine (E3 hstep).trans (ih.trans ?_)
    unfold rcvE
    dsimp only
    rw [List.append_assoc,List.singleton_append,show a+(p.length+1)+(recP (q::L) (acc.length+1)).2.1=a+(p.length+1+(recP (q::L) (acc.length+1)).2.1) by omega]
   ·rw [jFj hev] at hstep ⊢
    refine (JB hstep).trans ?_
    unfold rcvE
    simp
theorem Qld {n:Nat} (hn:3000≤n) {l:Wrd} (hl:l.length≤2000):Qjc n (mkS l)=some ((recP (spl 10 l) 0).1.map Zr,((recP (spl 10 l) 0).2.1:Int),(recP (spl 10 l) 0).2.2):=by
 unfold Qjc
 have hcl:l.count 10≤l.length:=List.count_le_length
 have h:Q2 (QiP n (mkS l)) n (0,[])=_:=Qmd hn l hl (spl 10 l) l 0 [] n rfl rfl (Nat.zero_le _) (jLj _) (by rw [QjJ];omega)
 rw [jFj (by rw [QiF];omega),h,jBj]
 unfold rcvE
 simp only [List.length_nil,List.nil_append,Nat.zero_add]
 by_cases h0:(recP (spl 10 l) 0).2.2=0
 ·rw [jTj h0];dsimp only;rw [h0]
 ·rw [jFj h0]
theorem Qmb:∀ (L:List Wrd) (k:Nat),L≠[]→(recP L k).2.1≤(glue 10 L).length∧((recP L k).2.2=0→(recP L k).2.1=(glue 10 L).length)∧((recP L k).2.2=28→(recP L k).2.1 < (glue 10 L).length)
 | [],_,h=>absurd rfl h
 | [p],k,_=>by
  unfold recP
  by_cases hp:p=[]
  ·subst hp;simp [glue]
  ·have:0 < p.length:=List.length_pos_iff.2 hp
   rw [jFj hp]
   simp [glue];omega
 | p::q::L,k,_=>by
  have ih:=Qmb (q::L) (k+1) (by simp)
  have hg:(glue 10 (p::q::L)).length=p.length+1+(glue 10 (q::L)).length:=by
   show (p++10::glue 10 (q::L)).length=_
   simp;omega
  unfold recP
  rw [hg]
  cases hx:recX p with
  | inr e =>
   have he:=Qkg hx
   dsimp only
   refine ⟨by omega,fun h=>by omega,fun h=>by omega⟩
  | inl ev =>
   dsimp only
   by_cases hev:ev.1=(k:Int)+1
   ·rw [jTj hev]
    dsimp only
    refine ⟨by omega,fun h=>by have:=ih.2.1 h;omega,fun h=>by have:=ih.2.2 h;omega⟩
   ·rw [jFj hev]
    dsimp only
    exact ⟨by omega,fun h=>by omega,fun h=>by omega⟩
def rrcE (a:Nat) (acc:List Ev) (r:List Ev×Nat×Int):(Int×Int×jVj)⊕(Int×jVj) :=
 if r.2.2=0 ∨ r.2.2=28 then .inr (((a+r.2.1:Nat):Int),(acc++r.1).map Zr) else .inl (((a+r.2.1:Nat):Int),r.2.2,(acc++r.1).map Zr)
theorem Qlc {n:Nat} (hn:3000≤n) (l:Wrd) (hl:l.length≤2000):∀ (rest:Wrd) (i fr:Nat) (acc:List Ev) (K:Nat),l.drop i=rest→fr≤i→i≤l.length→acc.length≤fr→(10:UInt8) ∉ (l.take i).drop fr→rest.length < K →
  Q2 (QiJ n (mkS l)) K ((fr:Int),(i:Int),acc.map Zr)=some (rrcE fr acc (recP (spl 10 ((l.take i).drop fr++rest)) acc.length))
 | _,_,_,_,0,_,_,_,_,_,h=>absurd h (by omega)
 | [],i,fr,acc,K+1,hd,hf,hi,hc,hno,_=>by
  have hie:i=l.length:=by have:=List.drop_eq_nil_iff.1 hd;omega
  refine JB ?_
  unfold QiJ
  dsimp only
  rw [jFj (by rw [QiF];omega),List.append_nil,Qla 10 _ hno]
  unfold recP rrcE
  dsimp only
  rw [jTj (by split <;> simp)]
  simp
 | x::rest,i,fr,acc,K+1,hd,hf,hi,hc,hno,hK=>by
  obtain ⟨hil,hx,hd'⟩:=QkB hd
  have htk:(l.take (i+1)).drop fr=(l.take i).drop fr++[x]:=by
   rw [List.take_add_one,hx,List.drop_append_of_le_length (by simp;omega)];rfl
  have hlen:((l.take i).drop fr).length=i - fr:=by simp;omega
  simp only [List.length_cons] at hK
  by_cases h10:x=10
  ·subst h10
   have hself:(l.take (i+1)).drop (i+1)=[]:=List.drop_eq_nil_of_le (by simp;omega)
   rw [QlU 10 _ _ hno]
   have hp:((l.take i).drop fr).length≤2000:=by omega
   have hsub:Qi7 (mkS l) (some (fr:Int)) (some (i:Int))=some (mkS ((l.take i).drop fr)):=QmX l hf (by omega)
   generalize hpe:(l.take i).drop fr=p at hlen hp hsub
   obtain ⟨q,L,hL⟩:∃ q L,spl 10 rest=q::L:=by
    cases h:spl 10 rest with
    | nil=>exact absurd h (QjB 10 rest)
    | cons q L=>exact ⟨q,L,rfl⟩
   rw [hL]
   unfold recP
   cases hr:recX p with
   | inr e =>
    have he:=Qkg hr
    refine JB ?_
    unfold QiJ rrcE
    dsimp only
    rw [jTj (by rw [QiF];omega),Qi8,hx,Option.map_some,jBj,jTj (by decide),hsub,jBj,QkJ hn hp,hr,show some (recR (.inr e))=some (0,⟨#[]⟩,[],[],⟨#[]⟩,e) from rfl,jBj]
    dsimp only
    rw [jFj (by omega),jFj (by omega)]
    simp
   | inl ev =>
    dsimp only
    by_cases hev:ev.1=(acc.length:Int)+1
    ·rw [jTj hev]
     have ih:=Qlc hn l hl rest (i+1) (i+1) (acc++[ev]) K hd' (jLj _) hil (by simp;omega) (by rw [hself];simp) (by omega)
     rw [hself,List.nil_append,List.length_append,List.length_singleton,hL] at ih
     refine (E3 (s':=(((i+1:Nat):Int),((i+1:Nat):Int),(acc++[ev]).map Zr)) ?_).trans (ih.trans ?_)
     ·unfold QiJ
      dsimp only
      rw [jTj (by rw [QiF];omega),Qi8,hx,Option.map_some,jBj,jTj (by decide),hsub,jBj,QkJ hn hp,hr,show some (recR (.inl ev))=some (ev.1,ev.2.1,ev.2.2.1.map Sd,ev.2.2.2.1.map I,ev.2.2.2.2,0) from rfl,jBj]
      dsimp only
      rw [jTj rfl,List.length_map,jTj (i64 (by omega) (by omega)),jTj hev,jTj (QlW (by omega)),jTj (i64 (by omega) (by omega)),List.map_append]
      rfl
     ·unfold rrcE
      dsimp only
      rw [List.append_assoc,List.singleton_append,show i+1+(recP (q::L) (acc.length+1)).2.1=fr+(p.length+1+(recP (q::L) (acc.length+1)).2.1) by omega]
    ·rw [jFj hev]
     refine JB ?_
     unfold QiJ rrcE
     dsimp only
     rw [jTj (by rw [QiF];omega),Qi8,hx,Option.map_some,jBj,jTj (by decide),hsub,jBj,QkJ hn hp,hr,show some (recR (.inl ev))=some (ev.1,ev.2.1,ev.2.2.1.map Sd,ev.2.2.2.1.map I,ev.2.2.2.2,0) from rfl,jBj]
     dsimp only
     rw [jTj rfl,List.length_map,jTj (i64 (by omega) (by omega)),jFj hev]
     simp
  ·have ih:=Qlc hn l hl rest (i+1) fr acc K hd' (by omega) hil hc (by rw [htk];exact fun hm=>(List.mem_append.1 hm).elim hno fun h=>h10 (List.mem_singleton.1 h).symm) (by omega)
   rw [htk,List.append_assoc,List.singleton_append] at ih
   refine (E3 ?_).trans ih
   unfold QiJ
   dsimp only
   have h10' : ¬ ((x.toNat:Int)=10):=fun e=>h10 (UInt8.toNat_inj.1 (by show x.toNat=10;omega))
   rw [jTj (by rw [QiF];omega),Qi8,hx,Option.map_some,jBj,jFj h10',jTj (i64 (by omega) (by omega))]
   rfl
theorem QlA {n:Nat} (hn:3000≤n) {l:Wrd} (hl:l.length≤2000):Qjp n (mkS l)=some ((recP (spl 10 l) 0).1.map Zr,((recP (spl 10 l) 0).2.1:Int),(recP (spl 10 l) 0).2.2):=by
 unfold Qjp
 have h:Q2 (QiJ n (mkS l)) n (0,0,[])=_:=Qlc hn l hl l 0 0 [] n rfl (jLj _) (Nat.zero_le _) (jLj _) (by simp) (by omega)
 rw [jFj (by rw [QiF];omega),h,jBj]
 obtain ⟨h1,h2,h3⟩:=Qmb (spl 10 l) 0 (QjB 10 l)
 rw [QjE] at h1 h2 h3
 unfold rrcE
 simp only [List.take_zero,List.drop_nil,List.length_nil,List.nil_append,Nat.zero_add]
 by_cases h0:(recP (spl 10 l) 0).2.2=0
 ·rw [jTj (.inl h0)]
  have:=h2 h0
  dsimp only
  rw [jFj (by rw [QiF];omega),h0]
 ·by_cases h28:(recP (spl 10 l) 0).2.2=28
  ·rw [jTj (.inr h28)]
   have:=h3 h28
   dsimp only
   rw [jTj (by rw [QiF];omega),h28]
  ·rw [jFj (fun h=>h.elim h0 h28)]
end Go.Proofs.YtljabneifpkbjaaGreatDoor
set_option maxRecDepth 20000
namespace Go.Proofs.YtljabneifpkbjaaGreatDoor
open Go.SX
abbrev dat (s:jSj):Wrd:=s.data.toList
def QjP (e:Ev):List Wrd:=Lib.itoa e.1::dat e.2.1::(e.2.2.1.map dat++e.2.2.2.1.map Lib.itoa)
def QjR (e:Ev):Wrd:=Lib.join (QjP e) [32]
def recL (e:Ev):Wrd:=QjR e++35::dig7 (QjR e)++[10]
theorem Qne (l:List jSj):(l.map dat).map eS=l.map Sd:=by
 rw [List.map_map]
 exact List.map_congr_left fun s _=>by show eS (dat s)=Sd s;unfold eS dat;rw [yD]
theorem QlM (l:List Wrd):(l.map mkS).map dat=l:=by
 rw [List.map_map]
 conv=>rhs;rw [← List.map_id l]
 exact List.map_congr_left fun p _=>Qjx p
theorem QlP (c:UInt8):∀ L:List Wrd,glue c L=Lib.join L [c]
 | []=>rfl
 | [p]=>(Lib.join_one p [c]).symm
 | p::q::L=>by
  show p++c::glue c (q::L)=_
  rw [QlP c (q::L),Lib.join_cons,Lib.join_cons]
  simp [Lib.joinTail]
theorem Qnm (n:Nat) {a:Int} (h:Qh a):Jk n a=some (mkS (Lib.itoa a)):=by
 unfold Jk
 rw [jTj h];rfl
theorem QmA:∀ L:List Wrd,yi (L.map eS)=some (L.map mkS)
 | []=>rfl
 | p::L=>by
  rw [jCj,yi,show JR (eS p)=some (mkS p) from rfl,QmA L];rfl
theorem Qng (n:Nat) (L:List Wrd) (sep:Wrd) (h1:L.length≤1000000) (h2:(Lib.join L sep).length≤1000000):Jj n (L.map eS) (mkS sep)=some (mkS (Lib.join L sep)):=by
 unfold Jj
 rw [QmA,jBj]
 have e:(L.map mkS).map (·.data.toList)=L:=QlM L
 unfold QdS
 rw [e,Qjx,jTj ⟨by rw [List.length_map];omega,by omega⟩]
 rfl
theorem Qnf {n:Nat} (hn:3000≤n) (l:List Int) (hl:l.length≤60) (h:∀ v,v∈l→Qh v):QiX n (l.map I)=some ((l.map Lib.itoa).map eS):=by
 unfold QiX
 have:=UV (step:=QiS n (l.map I)) (E:=jVj) (fun out=>out) l (fun v=>[eS (Lib.itoa v)]) (fun _=>jLj _)
  (fun i out x hx ho=>by
   have hi:=(jGj hx).1
   have hv:=h x (List.mem_of_getElem? hx)
   unfold QiS
   dsimp only
   rw [jTj (ZD hx),EM hx,jBj,Qnm n hv,jBj,jTj (V7 (by decide) (by omega)),jTj (by unfold Qh;omega)];rfl)
  (fun out _=>by unfold QiS;dsimp only;rw [jFj (by simp)]) (k:=n) (by omega)
 rw [this,jBj,wW,List.map_map]
 rfl
theorem Ql8 (b:Nat):∀ (L:List Wrd),(∀ w,w∈L→w.length≤b)→(Lib.joinTail [32] L).length≤(b+1) * L.length
 | [],_=>by simp [Lib.joinTail]
 | w::L,h=>by
  have h1:=h w jMj
  have h2:=Ql8 b L fun x hx=>h x (List.mem_cons_of_mem _ hx)
  simp only [Lib.joinTail,jCj,List.flatten_cons,List.length_append,List.length_cons,List.length_nil] at h2 ⊢
  rw [Nat.mul_add];omega
theorem Qnr (k:Ki):(kw k).length≤7:=by cases k <;> decide
theorem Qll {e:Ev} {k:Ki} (hg:Good e k):(QjP e).length≤9∧∀ w,w∈QjP e→w.length≤24:=by
 have hk:=Qnv k
 have hkw:=Qnr k
 refine ⟨?_,fun w hw=>?_⟩
 ·have:=hg.names;have:=hg.vals
  unfold QjP;simp;omega
 ·unfold QjP at hw
  rcases List.mem_cons.1 hw with h | h
  ·rw [h];have:=Qmh (n:=e.1) (by have:=hg.num;omega) (by have:=hg.num;omega);omega
  rcases List.mem_cons.1 h with h | h
  ·rw [h];show e.2.1.data.toList.length≤24;rw [hg.kind];omega
  rcases List.mem_append.1 h with h | h
  ·obtain ⟨s,hs,rfl⟩:=List.mem_map.1 h
   have:=hg.name s hs
   unfold Us at this
   simp only [jAj,decide_eq_true_eq] at this
   show s.data.toList.length≤24
   rw [dlen];omega
  ·obtain ⟨v,hv,rfl⟩:=List.mem_map.1 h
   have:=hg.val v hv
   have:=Qmh (n:=v) (by omega) (by omega);omega
theorem Qki {e:Ev} {k:Ki} (hg:Good e k):(QjR e).length≤300:=by
 obtain ⟨h1,h2⟩:=Qll hg
 unfold QjR
 unfold QjP at h1 h2 ⊢
 rw [Lib.join_cons,List.length_append]
 have h3:=h2 _ jMj
 have h4:=Ql8 24 _ fun w hw=>h2 w (List.mem_cons_of_mem _ hw)
 simp only [List.length_cons] at h1 h4
 omega
theorem Qkz {α:Type} (f:α→D) (l:List α):UF (l.map f)=true↔l=[]:=by cases l <;> simp [UF]
theorem Qnj {n:Nat} (hn:3000≤n) {e:Ev} {k:Ki} (hg:Good e k):QjI n e.1 e.2.1 (e.2.2.1.map Sd) (e.2.2.2.1.map I) e.2.2.2.2=some (mkS (QjR e)):=by
 have hk:=Qnv k
 have hn1:=hg.names
 have hv1:=hg.vals
 have hj:=Qng n (QjP e) [32] (by have:=(Qll hg).1;omega) (by have:=Qki hg;unfold QjR at this;omega)
 have hm:=Qnf hn e.2.2.2.1 (by omega) fun v hv=>i64 (by have:=hg.val v hv;omega) (by have:=hg.val v hv;omega)
 have hw:(QjP e).map eS=.v (.string (mkS (Lib.itoa e.1)))::.v (.string e.2.1)::(e.2.2.1.map Sd++(e.2.2.2.1.map Lib.itoa).map eS):=by
  unfold QjP
  rw [jCj,jCj,List.map_append,Qne]
  show eS (Lib.itoa e.1)::eS (dat e.2.1)::_=_
  rw [show eS (dat e.2.1)=.v (.string e.2.1) by unfold eS dat;rw [yD]];rfl
 have hj' : Jj n (.v (.string (mkS (Lib.itoa e.1)))::.v (.string e.2.1)::(e.2.2.1.map Sd++(e.2.2.2.1.map Lib.itoa).map eS)) ⟨#[32]⟩=some (mkS (QjR e)):=by rw [← hw];exact hj
 unfold QjI
 rw [Qnm n (i64 (by have:=hg.num;omega) (by have:=hg.num;omega)),jBj,jTj (Qky (by decide) (by simp;omega))]
 by_cases h0:e.2.2.1=[]
 ·rw [jTj ((Qkz _ _).2 h0),hm,jBj,jTj (Qky (by decide) (by simp;omega))]
  rw [h0,List.map_nil,List.nil_append] at hj'
  by_cases h1:e.2.2.2.1.map Lib.itoa=[]
  ·rw [jTj ((Qkz _ _).2 h1)]
   rw [h1,List.map_nil] at hj'
   rw [hj'];rfl
  ·rw [jFj (mt (Qkz _ _).1 h1),hj'];rfl
 ·rw [jFj (mt (Qkz _ _).1 h0),hm,jBj,jTj (Qky (by decide) (by simp;omega)),hj'];rfl
theorem Qma {n:Nat} (hn:3000≤n) {e:Ev} {k:Ki} (hg:Good e k):Qjv n e.1 e.2.1 (e.2.2.1.map Sd) (e.2.2.2.1.map I) e.2.2.2.2=some (mkS (recL e)):=by
 have hb:=Qki hg
 have hd:=Qlm (QjR e)
 unfold Qjv
 have e35:(⟨#[35]⟩:jSj)=mkS [35]:=rfl
 have e10:(⟨#[10]⟩:jSj)=mkS [10]:=rfl
 rw [Qnj hn hg,jBj,e35,e10,jTj (by rw [QiF,QiF];simp;omega),QkU hn (by omega),jBj,Qjy,Qjy,Qjy,jTj (by rw [QiF,QiF];simp;omega),jTj (by rw [QiF,QiF];simp;omega)]
 unfold recL
 simp
theorem QmC {e:Ev} {k:Ki} (hg:Good e k):(recL e).length≤310:=by
 have hb:=Qki hg
 have hd:=Qlm (QjR e)
 unfold recL;simp;omega
theorem QmE (n:Nat) (a0:Int) (a1:jSj) (a3:jVj) (a4:jSj) (l:List jSj) (hl:l.length≤60):∀ (rest:List jSj) (i:Nat) (s:Wrd) (K:Nat),l.drop i=rest→i≤l.length→s.length+(Lib.joinTail [32] (rest.map dat)).length≤100000→rest.length < K →
  Q2 (Qi1 n a0 a1 (l.map Sd) a3 a4) K (mkS s,(i:Int))=some (mkS (s++Lib.joinTail [32] (rest.map dat)))
 | _,_,_,0,_,_,_,h=>absurd h (by omega)
 | [],i,s,K+1,hd,hi,_,_=>by
  have hie:i=l.length:=by have:=List.drop_eq_nil_iff.1 hd;omega
  refine JB ?_
  unfold Qi1
  dsimp only
  rw [jFj (by rw [List.length_map];omega)]
  simp [Lib.joinTail]
 | x::rest,i,s,K+1,hd,hi,hs,hK=>by
  obtain ⟨hil,hx,hd'⟩:=QkA hd
  have e32:(⟨#[32]⟩:jSj)=mkS [32]:=rfl
  have ej:Lib.joinTail [32] ((x::rest).map dat)=32::dat x++Lib.joinTail [32] (rest.map dat):=by simp [Lib.joinTail]
  have ex:x=mkS (dat x):=(yD x).symm
  have hxs:x.size=(dat x).length:=(dlen x).symm
  rw [ej] at hs ⊢
  simp only [List.length_append,List.length_cons] at hs
  have ih:=QmE n a0 a1 a3 a4 l hl rest (i+1) (s++32::dat x) K hd' hil (by simp;omega) (by simp at hK;omega)
  refine (E3 ?_).trans (ih.trans (by simp))
  unfold Qi1
  dsimp only
  rw [jTj (ZD hx),e32,jTj (by rw [QiF,QiF];simp;omega),jH hx,jBj,Qjy,jTj (by rw [QiF];simp;omega),jTj (i64 (by omega) (by omega))]
  rw [show mkS (s++[32])++x=mkS (s++32::dat x) by conv=>lhs;rw [ex];rw [Qjy];simp]
  rfl
theorem QmD {n:Nat} (hn:3000≤n) (a0:Int) (a1:jSj) (a2:jVj) (a4:jSj) (l:List Int) (hl:l.length≤60) (hv:∀ v,v∈l→0≤v∧v≤999999999):∀ (rest:List Int) (i:Nat) (s:Wrd) (K:Nat),l.drop i=rest→i≤l.length→s.length+(Lib.joinTail [32] (rest.map Lib.itoa)).length≤100000→rest.length < K →
  Q2 (Qi0 n a0 a1 a2 (l.map I) a4) K (mkS s,(i:Int))=some (mkS (s++Lib.joinTail [32] (rest.map Lib.itoa)))
 | _,_,_,0,_,_,_,h=>absurd h (by omega)
 | [],i,s,K+1,hd,hi,_,_=>by
  have hie:i=l.length:=by have:=List.drop_eq_nil_iff.1 hd;omega
  refine JB ?_
  unfold Qi0
  dsimp only
  rw [jFj (by rw [List.length_map];omega)]
  simp [Lib.joinTail]
 | x::rest,i,s,K+1,hd,hi,hs,hK=>by
  obtain ⟨hil,hx,hd'⟩:=QkA hd
  have hxv:=hv x (List.mem_of_getElem? hx)
  have e32:(⟨#[32]⟩:jSj)=mkS [32]:=rfl
  have ej:Lib.joinTail [32] ((x::rest).map Lib.itoa)=32::Lib.itoa x++Lib.joinTail [32] (rest.map Lib.itoa):=by simp [Lib.joinTail]
  rw [ej] at hs ⊢
  simp only [List.length_append,List.length_cons] at hs
  have ih:=QmD hn a0 a1 a2 a4 l hl hv rest (i+1) (s++32::Lib.itoa x) K hd' hil (by simp;omega) (by simp at hK;omega)
  refine (E3 ?_).trans (ih.trans (by simp))
  unfold Qi0
  dsimp only
  rw [jTj (ZD hx),e32,jTj (by rw [QiF,QiF];simp;omega),EM hx,jBj,Qmt hn hxv.1 (by omega),jBj,Qjy,jTj (by rw [QiF,QiF];simp;omega),jTj (i64 (by omega) (by omega)),Qjy,List.append_assoc]
  rfl
theorem Qmu {n:Nat} (hn:3000≤n) {e:Ev} {k:Ki} (hg:Good e k):QjG n e.1 e.2.1 (e.2.2.1.map Sd) (e.2.2.2.1.map I) e.2.2.2.2=some (mkS (QjR e)):=by
 have hk:=Qnv k
 have hn1:=hg.names
 have hv1:=hg.vals
 have hb:=Qki hg
 have hnum:=hg.num
 have hB:QjR e=Lib.itoa e.1++[32]++dat e.2.1++Lib.joinTail [32] (e.2.2.1.map dat)++Lib.joinTail [32] (e.2.2.2.1.map Lib.itoa):=by
  unfold QjR QjP
  rw [Lib.join_cons]
  simp [Lib.joinTail]
 rw [hB] at hb
 simp only [List.length_append,List.length_cons,List.length_nil] at hb
 have ex:e.2.1=mkS (dat e.2.1):=(yD e.2.1).symm
 have hks:e.2.1.size=(dat e.2.1).length:=(dlen e.2.1).symm
 have e32:(⟨#[32]⟩:jSj)=mkS [32]:=rfl
 unfold QjG
 rw [Qmt hn (by omega) (by omega),jBj,e32,Qjy,jTj (by rw [QiF,QiF];simp;omega),jTj (by rw [QiF,hks];simp;omega)]
 have happ:mkS (Lib.itoa e.1++[32])++e.2.1=mkS (Lib.itoa e.1++[32]++dat e.2.1):=by conv=>lhs;rw [ex];rw [Qjy]
 rw [happ]
 have l1:Q2 (Qi1 n e.1 e.2.1 (e.2.2.1.map Sd) (e.2.2.2.1.map I) e.2.2.2.2) n (mkS (Lib.itoa e.1++[32]++dat e.2.1),0)=_:=QmE n e.1 e.2.1 (e.2.2.2.1.map I) e.2.2.2.2 e.2.2.1 (by omega) e.2.2.1 0 _ n rfl (Nat.zero_le _) (by simp;omega) (by omega)
 rw [l1,jBj]
 have l2:Q2 (Qi0 n e.1 e.2.1 (e.2.2.1.map Sd) (e.2.2.2.1.map I) e.2.2.2.2) n (mkS (Lib.itoa e.1++[32]++dat e.2.1++Lib.joinTail [32] (e.2.2.1.map dat)),0)=_:=QmD hn e.1 e.2.1 (e.2.2.1.map Sd) e.2.2.2.2 e.2.2.2.1 (by omega) hg.val e.2.2.2.1 0 _ n rfl (Nat.zero_le _) (by simp;omega) (by omega)
 rw [l2,jBj,← hB]
theorem Qmf {n:Nat} (hn:3000≤n) (l:List Ev) (hl:l.length≤2100) (hg:∀ e,e∈l→∃ k,Good e k):∀ (rest:List Ev) (i:Nat) (s:Wrd) (K:Nat),l.drop i=rest→i≤l.length→s.length≤310 * i→rest.length < K →
  Q2 (QiY n (l.map Zr)) K (mkS s,(i:Int))=some (mkS (s++rest.flatMap recL))
 | _,_,_,0,_,_,_,h=>absurd h (by omega)
 | [],i,s,K+1,hd,hi,_,_=>by
  have hie:i=l.length:=by have:=List.drop_eq_nil_iff.1 hd;omega
  refine JB ?_
  unfold QiY
  dsimp only
  rw [jFj (by rw [List.length_map];omega)]
  simp
 | x::rest,i,s,K+1,hd,hi,hs,hK=>by
  obtain ⟨hil,hx,hd'⟩:=QkA hd
  obtain ⟨k,hk⟩:=hg x (List.mem_of_getElem? hx)
  have hb:=Qki hk
  have h7:=Qlm (QjR x)
  have hr:=QmC hk
  have ih:=Qmf hn l hl hg rest (i+1) (s++recL x) K hd' hil (by simp;omega) (by simp at hK;omega)
  refine (E3 ?_).trans (ih.trans (by simp))
  have e35:(⟨#[35]⟩:jSj)=mkS [35]:=rfl
  have e10:(⟨#[10]⟩:jSj)=mkS [10]:=rfl
  have hel:el Ze (l.map Zr) (i:Int)=some (x.1,x.2.1,x.2.2.1.map Sd,x.2.2.2.1.map I,x.2.2.2.2):=by
   unfold el
   rw [jTj (by omega),Int.toNat_natCast,Ub,List.getElem?_map,hx];rfl
  unfold QiY
  dsimp only
  rw [jTj (ZD hx),hel,jBj,Qmu hn hk,jBj,e35,e10,jTj (by rw [QiF,QiF];omega),Qjy,jTj (by rw [QiF,QiF];simp;omega),QlH hn (by omega),jBj,Qjy,jTj (by rw [QiF,QiF];simp;omega),Qjy,jTj (by rw [QiF,QiF];simp;omega),jTj (i64 (by omega) (by omega)),Qjy]
  unfold recL
  simp
theorem Qnq {n:Nat} (hn:3000≤n) (l:List Ev) (hl:l.length≤2100) (hg:∀ e,e∈l→∃ k,Good e k):QjD n (l.map Zr)=some (mkS (l.flatMap recL)):=by
 unfold QjD
 have h:Q2 (QiY n (l.map Zr)) n (mkS [],0)=_:=Qmf hn l hl hg l 0 [] n rfl (Nat.zero_le _) (by simp) (by omega)
 have h' : Q2 (QiY n (l.map Zr)) n (⟨#[]⟩,0)=_:=h
 rw [h'];simp
theorem QlK:∀ {l:List Wrd} {vs:List Int},l.mapM num=some vs→vs.map Lib.itoa=l
 | [],vs,h=>by cases h;rfl
 | w::l,vs,h=>by
  rw [List.mapM_cons] at h
  cases hw:num w with
  | none=>rw [hw] at h;cases h
  | some v =>
   rw [hw] at h
   cases hl:l.mapM num with
   | none=>rw [hl] at h;cases h
   | some us =>
    rw [hl] at h;cases h
    rw [jCj,(Qmg hw).1,QlK hl]
theorem QlI {l:Wrd} {ev:Ev} (h:recX l=.inl ev):recL ev=l++[10]∧chk ev=0:=by
 unfold recX at h
 split at h
 ·cases h
 rename_i h8
 split at h
 case isFalse=>cases h
 rename_i h35
 split at h
 case isFalse=>cases h
 rename_i hsum
 split at h
 ·cases h
 rename_i w wsx hs
 cases hn:num w with
 | none=>rw [hn] at h;cases h
 | some m =>
  cases ht:QjK wsx with
  | none=>rw [hn,ht] at h;cases h
  | some t =>
   rw [hn,ht] at h
   dsimp only at h
   split at h
   case isFalse=>cases h
   rename_i hc
   cases h
   refine ⟨?_,hc⟩
   obtain ⟨h1,h2,w0,rest,rfl,hw,hr,h3,h4⟩:=Qlf ht
   have hwords:QjP (evOf m t)=spl 32 (l.take (l.length - 8)):=by
    unfold QjP evOf
    dsimp only
    rw [hs,(Qmg hn).1,QlM,QlK h4,h3,List.take_append_drop,hw]
    show w::dat (mkS (kw t.1))::rest=_
    rw [show dat (mkS (kw t.1))=kw t.1 from Qjx _]
   have hbody:QjR (evOf m t)=l.take (l.length - 8):=by
    unfold QjR
    rw [hwords,← QlP,QjE]
   unfold recL
   rw [hbody,hsum]
   congr 1
   have hq:l.length - 8 < l.length:=by omega
   have:=List.drop_eq_getElem_cons hq
   have hx:l[l.length - 8]=35:=by
    have:=h35.1
    rw [List.getElem?_eq_getElem hq] at this
    exact Option.some.inj this
   rw [hx] at this
   rw [← this,List.take_append_drop]
theorem Qle:∀ (L:List Wrd) (k:Nat) (e:Ev),e∈(recP L k).1→chk e=0
 | [],_,e,h=>by cases h
 | [p],_,e,h=>by cases h
 | p::q::L,k,e,h=>by
  unfold recP at h
  cases hx:recX p with
  | inr _=>rw [hx] at h;cases h
  | inl ev =>
   rw [hx] at h
   dsimp only at h
   by_cases hev:ev.1=(k:Int)+1
   ·rw [jTj hev] at h
    cases h with
    | head=>exact (QlI hx).2
    | tail _ h=>exact Qle (q::L) (k+1) e h
   ·rw [jFj hev] at h;cases h
theorem QlJ:∀ (L:List Wrd) (k:Nat),(recP L k).2.2=0→(recP L k).1.flatMap recL=glue 10 L
 | [],_,_=>rfl
 | [p],_,h=>by
  unfold recP at h ⊢
  dsimp only at h ⊢
  by_cases hp:p=[]
  ·subst hp;rfl
  ·rw [jFj hp] at h;cases h
 | p::q::L,k,h=>by
  unfold recP at h ⊢
  cases hx:recX p with
  | inr e=>rw [hx] at h;dsimp only at h;have:=Qkg hx;omega
  | inl ev =>
   rw [hx] at h
   dsimp only at h ⊢
   by_cases hev:ev.1=(k:Int)+1
   ·rw [jTj hev] at h ⊢
    dsimp only at h ⊢
    rw [List.flatMap_cons,QlJ (q::L) (k+1) h,(QlI hx).1]
    show _=p++10::glue 10 (q::L)
    simp
   ·rw [jFj hev] at h;cases h
theorem Qmc:∀ (L:List Wrd) (k:Nat),(recP L k).1.length≤L.length
 | [],_=>jLj _
 | [p],_=>Nat.zero_le _
 | p::q::L,k=>by
  unfold recP
  cases hx:recX p with
  | inr e=>exact Nat.zero_le _
  | inl ev =>
   dsimp only
   by_cases hev:ev.1=(k:Int)+1
   ·rw [jTj hev]
    have:=Qmc (q::L) (k+1)
    simp at this ⊢;omega
   ·rw [jFj hev];exact Nat.zero_le _
end Go.Proofs.YtljabneifpkbjaaGreatDoor
set_option maxRecDepth 10000
set_option maxHeartbeats 4000000
namespace Go.Proofs.YtljabneifpkbjaaGreatDoor
open Go.SX
def Qjq (n:Nat) (a0:Int) (a1:jSj) (a2 a3:jVj) (a4 a5:jSj):Option (Bool) :=
 (WM n ([.agg [I a0,.v (.string a1),.lst false 1 a2,.lst false 1 a3,.v (.string a4)]]) 1).bind fun t1 =>
 if t1=true then
  if (a5.size:Int) > 1500 then
   (WI n).bind fun t4 =>
   some t4
  else
  (Qjw n a5 a0 a1 a2 a3 a4).bind fun t4 =>
  (Qjc n a5).bind fun t5 =>
  (Qjp n a5).bind fun t6 =>
  (WV n a0 a1 a2 a3 a4).bind fun t7 =>
  if Qh (((t6.1).length:Int)+1) then
  (Yt n (a0 != (((t6.1).length:Int)+1)) 11).bind fun t9 =>
  (V5 n ([I t6.2.2,I t7,I t9])).bind fun t10 =>
  if t10=0 then
   if Wa 88 (0+(t6.1).length) then
   if Wa 88 ((t6.1).length+1) then
   (QjD n (t6.1++([.agg [I a0,.v (.string a1),.lst false 1 a2,.lst false 1 a3,.v (.string a4)]]:jVj))).bind fun t14 =>
   if t4.2=t10 then
    if (t4.1.toList == t14.toList)=true then
     (Qd1 n t5.1 t6.1).bind fun t17 =>
     if t17=true then
      if t5.2.1=t6.2.1 then
       if t5.2.2=t6.2.2 then
        (WI n).bind fun t21 =>
        some t21
       else
       none
      else
      none
     else
     none
    else
    none
   else
   none
   else none
   else none
  else
  if t4.2=t10 then
   if (t4.1.toList == (⟨#[]⟩:jSj).toList)=true then
    (Qd1 n t5.1 t6.1).bind fun t14 =>
    if t14=true then
     if t5.2.1=t6.2.1 then
      if t5.2.2=t6.2.2 then
       (WI n).bind fun t18 =>
       some t18
      else
      none
     else
     none
    else
    none
   else
   none
  else
  none
  else none
 else
 (WI n).bind fun t3 =>
 some t3
theorem QkF {n:Nat} {a0:Int} {a1:jSj} {a2 a3:jVj} {a4 a5:jSj} {r:Bool} (h:Qjq n a0 a1 a2 a3 a4 a5=some r):Computes cx 9 [.agg [I a0,.v (.string a1),.lst false 1 a2,.lst false 1 a3,.v (.string a4)],.v (.string a5)] (B r):=by
 unfold Qjq at h
 obtain ⟨t1,h1,h⟩:=bo h
 have q:=Qa (((XY h1).le (.cons (.full _ _ _) (.cons (.refl _) (.nil))) (.refl _)):Computes cx 13 [.lst true 5 [.agg [I a0,.v (.string a1),.lst false 1 a2,.lst false 1 a3,.v (.string a4)]],I 1] (B t1)) QL
 let o (l:List Orc):=.ret (B t1)::l
 rcases io h with ⟨h2,h⟩ | ⟨h2,h⟩
 ·have q:=Qa (Ud h2) q
  rcases io h with ⟨h3,h⟩ | ⟨h3,h⟩
  ·obtain ⟨t4,h4,h⟩:=bo h;obtain rfl:=oi h
   exact rf (o [b0,b1,.ret (B t4)]) (Qa (YE h4) (Qa (jDj h3) q))
  obtain ⟨t4,h4,h⟩:=bo h;obtain ⟨t5,h5,h⟩:=bo h;obtain ⟨t6,h6,h⟩:=bo h;obtain ⟨t7,h7,h⟩:=bo h;obtain ⟨h8,h⟩:=gd h;obtain ⟨t9,h9,h⟩:=bo h;obtain ⟨t10,h10,h⟩:=bo h
  have q:=Qa (((jL h10).le (.cons (.full _ _ _) (.nil)) (.refl _)):Computes cx 19 [.lst true 1 [I t6.2.2,I t7,I t9]] (I t10)) (Qa (qu h9) (Qa h8 (Qa (K7 h7) (Qa (QkZ h6) (Qa (Qj7 h5) (Qa (Qls h4) (Qa (jEj h3) q)))))))
  let o l:=o (b0::b0::.ret (.tup [.v (.string t4.1),I t4.2])::.ret (.tup [.lst false 5 t5.1,I t5.2.1,I t5.2.2])::.ret (.tup [.lst false 5 t6.1,I t6.2.1,I t6.2.2])::.ret (I t7)::.ret (I t9)::.ret (I t10)::l)
  rcases io h with ⟨h11,h⟩ | ⟨h11,h⟩
  ·obtain ⟨h12,h⟩:=gd h;obtain ⟨h13,h⟩:=gd h;obtain ⟨t14,h14,h⟩:=bo h
   rcases io h with ⟨h15,h⟩ | ⟨h15,h⟩
   ·rcases io h with ⟨h16,h⟩ | ⟨h16,h⟩
    ·obtain ⟨t17,h17,h⟩:=bo h
     rcases io h with ⟨h18,h⟩ | ⟨h18,h⟩
     ·rcases io h with ⟨h19,h⟩ | ⟨h19,h⟩
      ·rcases io h with ⟨h20,h⟩ | ⟨h20,h⟩
       ·obtain ⟨t21,h21,h⟩:=bo h;obtain rfl:=oi h
        exact rf (o [b1,.ix (-8),b1,b1,.ix (-7),.ret (.v (.string t14)),b1,b1,.ret (B t17),b1,b1,b1,.ret (B t21)]) (Qa (YE h21) (Qa (eqt h20) (Qa (eqt h19) (Qa h18 (Qa (Qee h17) (Qa h16 (Qa (eqt h15) (Qa (Qmr h14) (Qa (ro 65 h13) (Qa (ro 65 h12) (Qa (eqt h11) q)))))))))))
       cases h
      cases h
     cases h
    cases h
   cases h
  rcases io h with ⟨h12,h⟩ | ⟨h12,h⟩
  ·rcases io h with ⟨h13,h⟩ | ⟨h13,h⟩
   ·obtain ⟨t14,h14,h⟩:=bo h
    rcases io h with ⟨h15,h⟩ | ⟨h15,h⟩
    ·rcases io h with ⟨h16,h⟩ | ⟨h16,h⟩
     ·rcases io h with ⟨h17,h⟩ | ⟨h17,h⟩
      ·obtain ⟨t18,h18,h⟩:=bo h;obtain rfl:=oi h
       exact rf (o [b0,b1,b1,.ret (B t14),b1,b1,b1,.ret (B t18)]) (Qa (YE h18) (Qa (eqt h17) (Qa (eqt h16) (Qa h15 (Qa (Qee h14) (Qa h13 (Qa (eqt h12) (Qa (eqf h11) q))))))))
      cases h
     cases h
    cases h
   cases h
  cases h
 obtain ⟨t3,h3,h⟩:=bo h;obtain rfl:=oi h
 exact rf (o [b1,.no,.ret (B t3)]) (Qa (YE h3) (Qa (Uc (QA h2)) q))
end Go.Proofs.YtljabneifpkbjaaGreatDoor
set_option maxRecDepth 20000
namespace Go.Proofs.YtljabneifpkbjaaGreatDoor
open Go.SX
abbrev Qj5 (l:Wrd):List Ev:=(recP (spl 10 l) 0).1
abbrev QkS (l:Wrd):Int:=(recP (spl 10 l) 0).2.2
theorem Ql0 {l:Wrd} (hl:l.length≤2000):(Qj5 l).length≤2001:=by
 have h1:=Qmc (spl 10 l) 0
 have h2:l.count 10≤l.length:=List.count_le_length
 rw [QjJ] at h1
 show (recP (spl 10 l) 0).1.length≤2001
 omega
theorem QmU {n:Nat} (hn:3000≤n) {l:Wrd} (hl:l.length≤2000) {e:Ev} (hs:Yf e):Qjw n (mkS l) e.1 e.2.1 (e.2.2.1.map Sd) (e.2.2.2.1.map I) e.2.2.2.2 =
  some (if Qt [QkS l,chk e,QF (e.1 != ((Qj5 l).length:Int)+1) 11]=0 then (mkS (l++recL e),0) else (⟨#[]⟩,Qt [QkS l,chk e,QF (e.1 != ((Qj5 l).length:Int)+1) 11])):=by
 have hel:=Ql0 hl
 have hel2:(recP (spl 10 l) 0).1.length≤2001:=hel
 unfold Qjw
 rw [Qld hn hl,jBj,V3 (by omega) e hs,jBj]
 dsimp only
 rw [List.length_map,jTj (i64 (by omega) (by omega)),Zd,jBj,wX (by omega),jBj]
 by_cases h:Qt [QkS l,chk e,QF (e.1 != ((Qj5 l).length:Int)+1) 11]=0
 ·have hc:=Zv h (chk e) (by simp)
  obtain ⟨k,hk⟩:=qn hc
  have hr:=QmC hk
  rw [jTj h,jTj h,Qma hn hk,jBj,jTj (by rw [QiF,QiF];omega),Qjy,jFj (by rw [QiF];simp;omega)]
 ·rw [jFj h,jFj h]
theorem Ql9 {n:Nat} (hn:3000≤n) {l:Wrd} (hl:l.length≤2000):Qd1 n ((Qj5 l).map Zr) ((Qj5 l).map Zr)=some true:=by
 have hel:=Ql0 hl
 have hel2:(recP (spl 10 l) 0).1.length≤2001:=hel
 refine Qec _ (fun e he=>?_) (by omega) (by omega) (by omega)
 obtain ⟨k,hk⟩:=qn (Qle _ _ e he)
 have:=Qnv k
 have:=hk.names
 have:=hk.vals
 omega
theorem QlB (e:Ev) (log:jSj):Qjq 5000 e.1 e.2.1 (e.2.2.1.map Sd) (e.2.2.2.1.map I) e.2.2.2.2 log=some true:=by
 unfold Qjq
 have hsh1:=wu (n:=5000) (by decide) [e] 1 (by decide)
 refine Eq.trans (congrArg (fun x=>Option.bind x _) hsh1) ?_
 rw [jBj]
 by_cases h1:([e]:List Ev).length≤1∧∀ x,x∈[e]→Yf x
 case neg=>rw [jFj (by simpa using h1)];rfl
 have hs:Yf e:=h1.2 e (by simp)
 rw [jTj (jDj h1)]
 by_cases hz:(log.size:Int) > 1500
 ·rw [jTj hz];rfl
 rw [jFj hz]
 obtain ⟨l,rfl⟩:∃ l,log=mkS l:=⟨_,(yD log).symm⟩
 rw [QiF] at hz
 have hl:l.length≤2000:=by omega
 have hel:=Ql0 hl
 have hel2:(recP (spl 10 l) 0).1.length≤2001:=hel
 have hn:3000≤5000:=by decide
 rw [QmU hn hl hs,jBj,Qld hn hl,jBj,QlA hn hl,jBj,Ga (by decide) e hs,jBj]
 dsimp only
 have hf:V5 5000 [I (QkS l),I (chk e),I (QF (e.1 != ((Qj5 l).length:Int)+1) 11)]=some (Qt [QkS l,chk e,QF (e.1 != ((Qj5 l).length:Int)+1) 11]):=Qcv [QkS l,chk e,QF (e.1 != ((Qj5 l).length:Int)+1) 11] (by simp) (by simp)
 rw [List.length_map,jTj (i64 (by omega) (by omega)),wi,jBj,hf,jBj]
 by_cases h:Qt [QkS l,chk e,QF (e.1 != ((Qj5 l).length:Int)+1) 11]=0
 ·have hc:=Zv h (chk e) (by simp)
  have he:=Zv h (QkS l) (by simp)
  have hlog:QjD 5000 ((Qj5 l).map Zr++[Zr e])=some (mkS (l++recL e)):=by
   have:=Qnq hn (Qj5 l++[e]) (by simp;omega) (fun x hx=>by
    rcases List.mem_append.1 hx with hx | hx
    ·exact qn (Qle _ _ x hx)
    ·rw [List.mem_singleton.1 hx];exact qn hc)
   rw [List.map_append,List.flatMap_append,QlJ _ _ he,QjE] at this
   simpa using this
  rw [jTj h,jTj h,jTj (QlW (by omega)),jTj (QlW (by omega))]
  refine Eq.trans (congrArg (fun x=>Option.bind x _) hlog) ?_
  rw [jBj]
  dsimp only
  rw [jTj h.symm,jTj (by simp),Ql9 hn hl,jBj,jTj rfl,jTj rfl,jTj rfl];rfl
 ·rw [jFj h,jFj h]
  dsimp only
  rw [jTj rfl,jTj (by simp),Ql9 hn hl,jBj,jTj rfl,jTj rfl,jTj rfl];rfl
end Go.Proofs.YtljabneifpkbjaaGreatDoor
