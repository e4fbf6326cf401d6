/- Own texts. -/
import Derived.Test.YtfiigcbhiopagaaGreatDoorShelf
import Derived.Sort.AssemblyPlain
import Derived.Lib.BitFns
import Derived.Test.YtfiigcbhiopagaaGreatDoorSxTwentyFive
import Derived.WalkKit
import Derived.WalkSpells
import Derived.WalkLawsBesides
import Derived.Shelf.SlGeneric
import Derived.Shelf.SlLaysF0
import Derived.Shelf.SlSortCmp.WholeK
set_option linter.unusedVariables false
set_option linter.unusedSimpArgs false
set_option linter.unnecessarySimpa false
set_option maxRecDepth 20000
namespace Go.Proofs.YtfiigcbhiopagaaGreatDoor
open Go.SX Go.Sort Go.Proofs
def X2 (t:Int×Int×Int×Int):Prop:=(-1000≤t.1∧t.1≤1000)∧(-1000≤t.2.1∧t.2.1≤1000)∧(0≤t.2.2.1∧t.2.2.1≤1000000000000)∧(1≤t.2.2.2∧t.2.2.2≤10000)
instance (t:Int×Int×Int×Int):Decidable (X2 t):=by unfold X2;exact inferInstance
abbrev Tri:={ t:Int×Int×Int×Int // X2 t }
instance:Inhabited Tri:=⟨⟨(0,0,0,1),by decide⟩⟩
def Y4 (t:Tri):D:=.agg [I t.1.1,I t.1.2.1,I t.1.2.2.1,I t.1.2.2.2]
def QcS:D→Option Tri
 | .agg [.v (.int .i64 a),.v (.int .i64 b),.v (.int .i64 c),.v (.int .i64 d)]=>if h:X2 (a,b,c,d) then some ⟨(a,b,c,d),h⟩ else none
 | _=>none
def Eb:List D→Option (List Tri)
 | []=>some []
 | d::l=>match QcS d,Eb l with
  | some p,some ps=>some (p::ps)
  | _,_=>none
def sgn (a b:Int):Int:=if a < b then -1 else if a > b then 1 else 0
def kQ (a:Int):Int:=Go.SX.maxI a (-a)
def or2 (a b:Int):Int:=if a=0 then b else a
def qt (x y:Tri):Int:=or2 (sgn (x.1.2.2.1 * y.1.2.2.2) (y.1.2.2.1 * x.1.2.2.2)) (or2 (sgn (kQ x.1.1+kQ x.1.2.1) (kQ y.1.1+kQ y.1.2.1)) (or2 (sgn x.1.2.1 y.1.2.1) (sgn x.1.1 y.1.1)))
def ltT (x y:Tri):Bool:=decide (qt x y < 0)
def Uq (l:List Tri):List Tri:=(pdq ltT l.toArray 0 l.toArray.size (Go.Lib.bitLen l.toArray.size) true true).toList
def Wm (n:Nat) (l:List D):Option (List D):=if l.length≤1000 then (Eb l).bind fun ps=>some ((Uq ps).map Y4) else none
structure Cmp {α:Type} (f:α→α→Int):Prop where
 refl:∀ x,f x x=0
 anti:∀ x y,f y x=- f x y
 le:∀ x y z,f x y≤0→f y z≤0→f x z≤0
theorem Cmp.lex {α:Type} {f g:α→α→Int} (hf:Cmp f) (hg:Cmp g):Cmp fun x y=>or2 (f x y) (g x y) where
 refl x:=by show or2 (f x x) (g x x)=0;unfold or2;rw [if_pos (hf.refl x),hg.refl x]
 anti x y:=by
  show or2 (f y x) (g y x)=-or2 (f x y) (g x y)
  unfold or2
  have h1:=hf.anti x y
  have h2:=hg.anti x y
  by_cases h:f x y=0
  ·rw [if_pos h,if_pos (by omega),h2]
  ·rw [if_neg h,if_neg (by omega),h1]
 le x y z h1 h2:=by
  have k1:f x y≤0:=by
   by_cases h:f x y=0
   ·omega
   ·have:or2 (f x y) (g x y)≤0:=h1
    unfold or2 at this
    rw [if_neg h] at this;exact this
  have k2:f y z≤0:=by
   by_cases h:f y z=0
   ·omega
   ·have:or2 (f y z) (g y z)≤0:=h2
    unfold or2 at this
    rw [if_neg h] at this;exact this
  have k3:=hf.le x y z k1 k2
  show or2 (f x z) (g x z)≤0
  unfold or2
  by_cases h:f x z=0
  ·rw [if_pos h]
   have a1:=hf.anti x z
   have a2:=hf.anti x y
   have a3:=hf.anti y z
   have b1:=hf.le z x y (by omega) k1
   have b2:=hf.le y z x k2 (by omega)
   have e1:f x y=0:=by omega
   have e2:f y z=0:=by omega
   have g1:or2 (f x y) (g x y)≤0:=h1
   have g2:or2 (f y z) (g y z)≤0:=h2
   unfold or2 at g1 g2
   rw [if_pos e1] at g1
   rw [if_pos e2] at g2
   exact hg.le x y z g1 g2
  ·rw [if_neg h];exact k3
theorem GO {a b:Int}:sgn a b≤0↔a≤b:=by
 unfold sgn
 split
 ·constructor <;> intro <;> omega
 ·split
  ·constructor <;> intro <;> omega
  ·constructor <;> intro <;> omega
theorem QaZ (a b:Int):sgn b a=- sgn a b:=by
 unfold sgn
 split <;> split <;> first | omega | (split <;> first | omega | rfl)
theorem Cmp.key {α:Type} (k:α→Int):Cmp fun x y=>sgn (k x) (k y) where
 refl x:=by show sgn (k x) (k x)=0;unfold sgn;rw [if_neg (by omega),if_neg (by omega)]
 anti x y:=QaZ _ _
 le x y z h1 h2:=by
  have h1:=GO.1 h1
  have h2:=GO.1 h2
  exact GO.2 (by omega)
theorem QgX {a b c d e f:Int} (hb:0 < b) (hd:0 < d) (hf:0 < f) (h1:a * d≤c * b) (h2:c * f≤e * d):a * f≤e * b:=by
 have k1:a * d * f≤c * b * f:=Int.mul_le_mul_of_nonneg_right h1 (by omega)
 have k2:c * f * b≤e * d * b:=Int.mul_le_mul_of_nonneg_right h2 (by omega)
 have k3:a * f * d≤e * b * d:=by
  rw [Int.mul_right_comm a f d,Int.mul_right_comm e b d]
  rw [Int.mul_right_comm c f b] at k2
  omega
 exact Int.le_of_mul_le_mul_right k3 hd
theorem cmpT_ok:Cmp qt:=by
 refine Cmp.lex (f:=fun x y:Tri=>sgn (x.1.2.2.1 * y.1.2.2.2) (y.1.2.2.1 * x.1.2.2.2)) ⟨fun x=>?_,fun x y=>QaZ _ _,fun x y z h1 h2=>?_⟩
  (Cmp.lex (Cmp.key fun x:Tri=>kQ x.1.1+kQ x.1.2.1) (Cmp.lex (Cmp.key fun x:Tri=>x.1.2.1) (Cmp.key fun x:Tri=>x.1.1)))
 ·show sgn _ _=0
  unfold sgn;rw [if_neg (by omega),if_neg (by omega)]
 ·have h1:=GO.1 h1
  have h2:=GO.1 h2
  have hx:=x.2.2.2.2.1
  have hy:=y.2.2.2.2.1
  have hz:=z.2.2.2.2.1
  exact GO.2 (QgX (by omega) (by omega) (by omega) h1 h2)
theorem swoT:SWO ltT where
 irrefl x:=by
  unfold ltT;rw [cmpT_ok.refl];rfl
 trans x y z h1 h2:=by
  unfold ltT at *
  have h1:=of_decide_eq_true h1
  have h2:=of_decide_eq_true h2
  have k:=cmpT_ok.le x y z (by omega) (by omega)
  refine decide_eq_true ?_
  by_cases h:qt x z=0
  ·exfalso
   have a1:=cmpT_ok.anti x z
   have b1:=cmpT_ok.le z x y (by omega) (by omega)
   have a2:=cmpT_ok.anti y z
   omega
  ·omega
 ntrans x y z h1 h2:=by
  unfold ltT at *
  have h1:=of_decide_eq_false h1
  have h2:=of_decide_eq_false h2
  have a1:=cmpT_ok.anti x y
  have a2:=cmpT_ok.anti y z
  have a3:=cmpT_ok.anti x z
  have k:=cmpT_ok.le z y x (by omega) (by omega)
  exact decide_eq_false (by omega)
theorem Xw (l:List Tri):(Uq l).Perm l∧∀ i j:Nat,i < j→∀ x y:Tri,(Uq l)[i]?=some x→(Uq l)[j]?=some y→qt x y≤0:=by
 unfold Uq
 have hq:=pdq_sorts ltT swoT l.toArray 0 l.toArray.size (Go.Lib.bitLen l.toArray.size) true true (Nat.zero_le _) (Nat.le_refl _) (Or.inl rfl)
 generalize pdq ltT l.toArray 0 l.toArray.size (Go.Lib.bitLen l.toArray.size) true true=d at hq
 obtain ⟨⟨s1,s2,s3⟩,hs⟩:=hq
 refine ⟨?_,fun i j hij x y hx hy=>?_⟩
 ·have e1:d.extract 0 l.toArray.size=d:=by
   rw [← s1];exact Array.extract_size
  have e2:l.toArray.extract 0 l.toArray.size=l.toArray:=Array.extract_size
  rw [e1,e2] at s3
  exact s3
 ·rw [Array.getElem?_toList] at hx hy
  obtain ⟨hi,hx⟩:=Array.getElem?_eq_some_iff.1 hx
  obtain ⟨hj,hy⟩:=Array.getElem?_eq_some_iff.1 hy
  have h:=hs i j (Nat.zero_le _) hij (by rw [← s1];exact hj)
  rw [getElem!_pos _ j hj,getElem!_pos _ i hi,hx,hy] at h
  unfold ltT at h
  have h:=of_decide_eq_false h
  have a:=cmpT_ok.anti x y
  omega
theorem Yg (n:Nat) (a b:Int):T.F_cmp_Compare_g n a b=some (sgn a b):=by
 unfold T.F_cmp_Compare_g T.F_cmp_isNaN_g sgn
 have e:∀ x:Int,(x != x)=false:=fun x=>by simp
 rw [e,e,Option.bind_some,Option.bind_some,if_neg (by decide),if_neg (by decide)]
 split
 ·rfl
 ·split <;> rfl
theorem E5 (n:Nat) {a:Int} (h : -1000≤a∧a≤1000):T.F_cloud_size n a=some (kQ a):=by
 unfold T.F_cloud_size kQ
 rw [Uo (n:=0 - a) (by unfold Qb;omega),Int.zero_sub]
theorem QgK (x:Int):T.un_i (I x)=some x:=rfl
def oG (s:Nat) (x:Int):Nat⊕(Int⊕Unit):=if x=0 then .inl (s+1) else .inr (.inl x)
def nz:List Int→Int
 | []=>0
 | x::l=>if x=0 then nz l else x
theorem QeF:∀ (ms:List Int) (s:Nat),K4 oG (fun _=>(.inr ():Int⊕Unit)) ms s=(if nz ms=0 then .inr () else .inl (nz ms))
 | [],s=>rfl
 | x::l,s=>by
  unfold K4 oG nz
  by_cases h:x=0
  ·rw [if_pos h,if_pos h];exact QeF l (s+1)
  ·rw [if_neg h,if_neg h,if_neg h]
theorem QeA {n:Nat} (hn:50≤n) (ms:List Int) (hm:ms.length≤40):T.F_cmp_Or_g n (ms.map I)=some (nz ms):=by
 unfold T.F_cmp_Or_g
 have h:=Vw (step:=T.F_cmp_Or_g_L1 n (ms.map I)) oG (fun _=>(.inr ():Int⊕Unit)) (fun i _=>(i:Int)) ms (fun i s=>True)
  (fun i s x hx _=>by
   have hi:=(List.getElem?_eq_some_iff.1 hx).1
   have e:T.F_cmp_Or_g_L1 n (ms.map I) (i:Int)=if x=0 then some (.inl ((i+1:Nat):Int)) else some (.inr (.inl x)):=by
    unfold T.F_cmp_Or_g_L1
    rw [if_pos (by rw [List.length_map];omega),Vo QgK hx,Option.bind_some]
    by_cases h0:x=0
    ·rw [if_pos h0,if_pos h0,if_pos (by unfold Qb;omega)]
     rfl
    ·rw [if_neg h0,if_neg h0]
   unfold oG
   by_cases h0:x=0
   ·rw [if_pos h0] at e ⊢
    exact ⟨e,trivial⟩
   ·rw [if_neg h0] at e ⊢
    exact e)
  (fun s _=>by unfold T.F_cmp_Or_g_L1;rw [if_neg (by simp)]) (k:=n) (s:=0) trivial (by omega)
 rw [QeF] at h
 have h' : Qz (T.F_cmp_Or_g_L1 n (ms.map I)) n 0=_:=h
 rw [h',Option.bind_some]
 by_cases h0:nz ms=0
 ·rw [if_pos h0,h0]
 ·rw [if_neg h0]
theorem nz2 (a b:Int):nz [a,b]=or2 a b:=by
 unfold nz nz nz or2
 split
 ·split
  ·rename_i h;exact h.symm
  ·rfl
 ·rfl
theorem nz3 (a b c:Int):nz [a,b,c]=or2 a (or2 b c):=by
 have h:=nz2 b c
 show (if a=0 then nz [b,c] else a)=_
 rw [h];rfl
theorem XL {a:Int} (h : -1000≤a∧a≤1000):0≤kQ a∧kQ a≤1000:=by
 unfold kQ maxI;split <;> omega
theorem ub {a b:Int} (ha:0≤a∧a≤1000000000000) (hb:1≤b∧b≤10000):Qb (a * b):=by
 have h1:0≤a * b:=Int.mul_nonneg ha.1 (by omega)
 have h2:a * b≤1000000000000 * 10000:=Int.mul_le_mul ha.2 hb.2 (by omega) (by omega)
 unfold Qb;omega
theorem QfU {n:Nat} (hn:50≤n) (x y:Tri):T.F_cloud_tried_compare n x.1.1 x.1.2.1 x.1.2.2.1 x.1.2.2.2 y.1.1 y.1.2.1 y.1.2.2.1 y.1.2.2.2=some (qt x y):=by
 obtain ⟨⟨x1,x2,x3,x4⟩,hx1,hx2,hx3,hx4⟩:=x
 obtain ⟨⟨y1,y2,y3,y4⟩,hy1,hy2,hy3,hy4⟩:=y
 dsimp only at *
 have a1:=XL hx1
 have a2:=XL hx2
 have b1:=XL hy1
 have b2:=XL hy2
 unfold T.F_cloud_tried_compare T.F_cloud_inOrder
 rw [if_pos (ub hx3 hy4),if_pos (ub hy3 hx4),Yg,Option.bind_some,E5 n hx1,Option.bind_some,E5 n hx2,Option.bind_some,if_pos (by unfold Qb;omega),E5 n hy1,Option.bind_some,E5 n hy2,Option.bind_some,
  if_pos (by unfold Qb;omega),Yg,Option.bind_some,Yg,Option.bind_some,Yg,Option.bind_some,show ∀ a b:Int,([I a,I b]:List D)=[a,b].map I from fun _ _=>rfl,QeA hn _ (by simp),Option.bind_some,Option.bind_some,
  show ∀ a b c:Int,([I a,I b,I c]:List D)=[a,b,c].map I from fun _ _ _=>rfl,QeA hn _ (by simp),Option.bind_some,nz2,nz3]
 rfl
set_option maxRecDepth 10000
open Go.Shelf
def Tryz.sortT_ren:Go.Shelf.Ren:=⟨fun | 6=>67 | 15=>62 | 14=>89 | 28=>86 | 29=>87 | 20=>100 | 21=>101 | 22=>102 | 23=>103 | 24=>104 | 25=>105 | 26=>106 | 27=>107 | 46=>112 | 47=>96 | 48=>97 | 49=>113 | 50=>114 | 57=>118 | n=>n,fun | 22=>85 | 24=>81 | 25=>113 | 3=>3 | 39=>108 | 0=>0 | 53=>130 | 55=>132 | 4=>4 | 46=>123 | 45=>122 | 50=>127 | 5=>5 | 9=>9 | 66=>141 | 70=>145 | 76=>152 | 77=>153 | n=>n,fun | n=>n⟩
theorem Tryz.sortT:Go.Proofs.SlLaysF0.n6 Tryz.prog Tryz.sortT_ren:={
 mixed:=by kernel_rfl
 f6:=⟨Tryz.f67.name,by decide,Tryz.func67.trans (congrArg some (by kernel_rfl))⟩
 f14:=⟨Tryz.f89.name,by decide,Tryz.func89.trans (congrArg some (by kernel_rfl))⟩
 f15:=Tryz.func62.trans (congrArg some (by kernel_rfl))
 f20:=⟨Tryz.f100.name,by decide,Tryz.func100.trans (congrArg some (by kernel_rfl))⟩
 f21:=⟨Tryz.f101.name,by decide,Tryz.func101.trans (congrArg some (by kernel_rfl))⟩
 f22:=⟨Tryz.f102.name,by decide,Tryz.func102.trans (congrArg some (by kernel_rfl))⟩
 f23:=⟨Tryz.f103.name,by decide,Tryz.func103.trans (congrArg some (by kernel_rfl))⟩
 f24:=⟨Tryz.f104.name,by decide,Tryz.func104.trans (congrArg some (by kernel_rfl))⟩
 f25:=⟨Tryz.f105.name,by decide,Tryz.func105.trans (congrArg some (by kernel_rfl))⟩
 f26:=⟨Tryz.f106.name,by decide,Tryz.func106.trans (congrArg some (by kernel_rfl))⟩
 f27:=⟨Tryz.f107.name,by decide,Tryz.func107.trans (congrArg some (by kernel_rfl))⟩
 f28:=Tryz.func86.trans (congrArg some (by kernel_rfl))
 f29:=Tryz.func87.trans (congrArg some (by kernel_rfl))
 f46:=⟨Tryz.f112.name,by decide,Tryz.func112.trans (congrArg some (by kernel_rfl))⟩
 f47:=Tryz.func96.trans (congrArg some (by kernel_rfl))
 f48:=Tryz.func97.trans (congrArg some (by kernel_rfl))
 f49:=⟨Tryz.f113.name,by decide,Tryz.func113.trans (congrArg some (by kernel_rfl))⟩
 f50:=⟨Tryz.f114.name,by decide,Tryz.func114.trans (congrArg some (by kernel_rfl))⟩
 f57:=⟨Tryz.f118.name,by decide,Tryz.func118.trans (congrArg some (by kernel_rfl))⟩
 t0:=Tryz.underlying0
 a0:=Tryz.isAgg0
 z0:=Tryz.sizeOf0
 v0:=Tryz.zeroValue0
 t3:=Tryz.underlying3
 a3:=Tryz.isAgg3
 z3:=Tryz.sizeOf3
 v3:=Tryz.zeroValue3
 t4:=Tryz.underlying4
 a4:=Tryz.isAgg4
 z4:=Tryz.sizeOf4
 v4:=Tryz.zeroValue4
 t5:=Tryz.underlying5
 a5:=Tryz.isAgg5
 z5:=Tryz.sizeOf5
 v5:=Tryz.zeroValue5
 t9:=Tryz.underlying9
 a9:=Tryz.isAgg9
 z9:=Tryz.sizeOf9
 v9:=Tryz.zeroValue9
 t22:=Tryz.underlying85
 a22:=Tryz.isAgg85
 z22:=Tryz.sizeOf85
 v22:=Tryz.zeroValue85
 t25:=Tryz.underlying113
 a25:=Tryz.isAgg113
 z25:=Tryz.sizeOf113
 v25:=Tryz.zeroValue113
 t39:=Tryz.underlying108
 a39:=Tryz.isAgg108
 z39:=Tryz.sizeOf108
 v39:=Tryz.zeroValue108
 t45:=Tryz.underlying122
 a45:=Tryz.isAgg122
 z45:=Tryz.sizeOf122
 v45:=Tryz.zeroValue122
 t46:=Tryz.underlying123
 a46:=Tryz.isAgg123
 z46:=Tryz.sizeOf123
 v46:=Tryz.zeroValue123
 t50:=Tryz.underlying127
 a50:=Tryz.isAgg127
 z50:=Tryz.sizeOf127
 v50:=Tryz.zeroValue127
 t53:=Tryz.underlying130
 a53:=Tryz.isAgg130
 z53:=Tryz.sizeOf130
 v53:=Tryz.zeroValue130
 t55:=Tryz.underlying132
 a55:=Tryz.isAgg132
 z55:=Tryz.sizeOf132
 v55:=Tryz.zeroValue132
 t66:=Tryz.underlying141
 a66:=Tryz.isAgg141
 z66:=Tryz.sizeOf141
 v66:=Tryz.zeroValue141
 t70:=Tryz.underlying145
 a70:=Tryz.isAgg145
 z70:=Tryz.sizeOf145
 v70:=Tryz.zeroValue145
 t76:=Tryz.underlying152
 a76:=Tryz.isAgg152
 z76:=Tryz.sizeOf152
 v76:=Tryz.zeroValue152
 t77:=Tryz.underlying153
 a77:=Tryz.isAgg153
 z77:=Tryz.sizeOf153
 v77:=Tryz.zeroValue153 }
def Tryz.pdqP_ren:Go.Shelf.Ren:=⟨fun | 14=>61 | 20=>78 | 21=>79 | 22=>80 | 23=>81 | 24=>82 | 25=>83 | 26=>84 | 27=>85 | 46=>95 | 47=>96 | 48=>97 | 49=>98 | 50=>99 | 15=>62 | 57=>111 | 28=>86 | 29=>87 | n=>n,fun | 24=>30 | 22=>49 | 3=>3 | 25=>75 | 4=>4 | 0=>0 | 46=>123 | 45=>122 | 50=>127 | 66=>141 | 39=>108 | 55=>132 | 70=>145 | 76=>152 | 77=>153 | 53=>130 | 5=>5 | 9=>9 | n=>n,fun | n=>n⟩
theorem Tryz.pdqP:Go.Proofs.SlLaysF0.n14 Tryz.prog Tryz.pdqP_ren:={
 mixed:=by kernel_rfl
 f14:=⟨Tryz.f61.name,by decide,Tryz.func61.trans (congrArg some (by kernel_rfl))⟩
 f15:=Tryz.func62.trans (congrArg some (by kernel_rfl))
 f20:=⟨Tryz.f78.name,by decide,Tryz.func78.trans (congrArg some (by kernel_rfl))⟩
 f21:=⟨Tryz.f79.name,by decide,Tryz.func79.trans (congrArg some (by kernel_rfl))⟩
 f22:=⟨Tryz.f80.name,by decide,Tryz.func80.trans (congrArg some (by kernel_rfl))⟩
 f23:=⟨Tryz.f81.name,by decide,Tryz.func81.trans (congrArg some (by kernel_rfl))⟩
 f24:=⟨Tryz.f82.name,by decide,Tryz.func82.trans (congrArg some (by kernel_rfl))⟩
 f25:=⟨Tryz.f83.name,by decide,Tryz.func83.trans (congrArg some (by kernel_rfl))⟩
 f26:=⟨Tryz.f84.name,by decide,Tryz.func84.trans (congrArg some (by kernel_rfl))⟩
 f27:=⟨Tryz.f85.name,by decide,Tryz.func85.trans (congrArg some (by kernel_rfl))⟩
 f28:=Tryz.func86.trans (congrArg some (by kernel_rfl))
 f29:=Tryz.func87.trans (congrArg some (by kernel_rfl))
 f46:=⟨Tryz.f95.name,by decide,Tryz.func95.trans (congrArg some (by kernel_rfl))⟩
 f47:=Tryz.func96.trans (congrArg some (by kernel_rfl))
 f48:=Tryz.func97.trans (congrArg some (by kernel_rfl))
 f49:=⟨Tryz.f98.name,by decide,Tryz.func98.trans (congrArg some (by kernel_rfl))⟩
 f50:=⟨Tryz.f99.name,by decide,Tryz.func99.trans (congrArg some (by kernel_rfl))⟩
 f57:=⟨Tryz.f111.name,by decide,Tryz.func111.trans (congrArg some (by kernel_rfl))⟩
 t0:=Tryz.underlying0
 a0:=Tryz.isAgg0
 z0:=Tryz.sizeOf0
 v0:=Tryz.zeroValue0
 t3:=Tryz.underlying3
 a3:=Tryz.isAgg3
 z3:=Tryz.sizeOf3
 v3:=Tryz.zeroValue3
 t4:=Tryz.underlying4
 a4:=Tryz.isAgg4
 z4:=Tryz.sizeOf4
 v4:=Tryz.zeroValue4
 t5:=Tryz.underlying5
 a5:=Tryz.isAgg5
 z5:=Tryz.sizeOf5
 v5:=Tryz.zeroValue5
 t9:=Tryz.underlying9
 a9:=Tryz.isAgg9
 z9:=Tryz.sizeOf9
 v9:=Tryz.zeroValue9
 t22:=Tryz.underlying49
 a22:=Tryz.isAgg49
 z22:=Tryz.sizeOf49
 v22:=Tryz.zeroValue49
 t25:=Tryz.underlying75
 a25:=Tryz.isAgg75
 z25:=Tryz.sizeOf75
 v25:=Tryz.zeroValue75
 t39:=Tryz.underlying108
 a39:=Tryz.isAgg108
 z39:=Tryz.sizeOf108
 v39:=Tryz.zeroValue108
 t45:=Tryz.underlying122
 a45:=Tryz.isAgg122
 z45:=Tryz.sizeOf122
 v45:=Tryz.zeroValue122
 t46:=Tryz.underlying123
 a46:=Tryz.isAgg123
 z46:=Tryz.sizeOf123
 v46:=Tryz.zeroValue123
 t50:=Tryz.underlying127
 a50:=Tryz.isAgg127
 z50:=Tryz.sizeOf127
 v50:=Tryz.zeroValue127
 t53:=Tryz.underlying130
 a53:=Tryz.isAgg130
 z53:=Tryz.sizeOf130
 v53:=Tryz.zeroValue130
 t55:=Tryz.underlying132
 a55:=Tryz.isAgg132
 z55:=Tryz.sizeOf132
 v55:=Tryz.zeroValue132
 t66:=Tryz.underlying141
 a66:=Tryz.isAgg141
 z66:=Tryz.sizeOf141
 v66:=Tryz.zeroValue141
 t70:=Tryz.underlying145
 a70:=Tryz.isAgg145
 z70:=Tryz.sizeOf145
 v70:=Tryz.zeroValue145
 t76:=Tryz.underlying152
 a76:=Tryz.isAgg152
 z76:=Tryz.sizeOf152
 v76:=Tryz.zeroValue152
 t77:=Tryz.underlying153
 a77:=Tryz.isAgg153
 z77:=Tryz.sizeOf153
 v77:=Tryz.zeroValue153 }
set_option maxRecDepth 20000
open Go.RowKit
def J3 (x:Tri):List Value:=[.int .i64 x.1.1,.int .i64 x.1.2.1,.int .i64 x.1.2.2.1,.int .i64 x.1.2.2.2]
theorem dr_i {w:World} {F:Nat→Prop} {x:Int} {y:Value} (h:DR w F (I x) y):y=.int .i64 x:=by cases h;rfl
theorem Qga (w:World) (F:Nat→Prop) (p:Tri):DR w F (Y4 p) (.agg (J3 p).toArray):=by
 refine .agg [I p.1.1,I p.1.2.1,I p.1.2.2.1,I p.1.2.2.2] (J3 p) rfl fun i c y hi hy=>?_
 match i,hi,hy with
 | 0,hi,hy=>cases hi;cases hy;exact .v _
 | 1,hi,hy=>cases hi;cases hy;exact .v _
 | 2,hi,hy=>cases hi;cases hy;exact .v _
 | 3,hi,hy=>cases hi;cases hy;exact .v _
theorem yw (x y:Tri) (W:World):Calls cx.P 68 #[.agg (J3 x).toArray,.agg (J3 y).toArray] W fun e w'=>e=.returned (.int .i64 (qt x y))∧∃ q os',w'=grow (W.drewN q) os':=by
 have hc:=T.c_cloud_tried_compare (QfU (n:=100) (by omega) x y) W (fun _=>False) [.agg (J3 x).toArray,.agg (J3 y).toArray] (fun _ h=>h.elim) (fun g x h=>by cases h) rfl fun i c v hi hv=>by
  match i,hi,hv with
  | 0,hi,hv=>cases hi;cases hv;exact Qga _ _ x
  | 1,hi,hv=>cases hi;cases hv;exact Qga _ _ y
 refine Calls.mono hc ?_
 rintro e w' ⟨v,rfl,hd,hx⟩
 refine ⟨by rw [dr_i hd],w'.drawn - W.drawn,w'.heap.extract W.heap.size w'.heap.size,?_⟩
 have h1:=(@Ext.drawn T.drawT _ _ _ hx) rfl
 have h2:=(@Ext.os T.drawT _ _ _ hx)
 have h3:=(@Ext.tape T.drawT _ _ _ hx)
 have h4:=(@Ext.output T.drawT _ _ _ hx)
 have h5:w'.heap=W.heap++w'.heap.extract W.heap.size w'.heap.size:=by
  apply Array.ext_getElem?
  intro k
  have hsz:=(@Ext.size T.drawT _ _ _ hx)
  rw [Array.getElem?_append]
  by_cases hk:k < W.heap.size
  ·rw [if_pos hk]
   exact @Ext.same T.drawT _ _ _ hx k hk (fun h=>h)
  ·rw [if_neg hk,Array.getElem?_extract]
   by_cases h6:k < w'.heap.size
   ·rw [if_pos (by omega),show W.heap.size+(k - W.heap.size)=k by omega]
   ·rw [if_neg (by omega),Array.getElem?_eq_none (by omega)]
 show w'={ heap:=W.heap++w'.heap.extract W.heap.size w'.heap.size,tape:=W.tape,drawn:=W.drawn+(w'.drawn - W.drawn),os:=W.os,output:=W.output }
 rw [← h5,← h2,← h3,← h4,show W.drawn+(w'.drawn - W.drawn)=w'.drawn by omega]
theorem Qej {d:D} {p:Tri} (h:QcS d=some p):d=Y4 p:=by
 unfold QcS at h
 split at h
 ·split at h
  ·cases h;rfl
  ·cases h
 ·cases h
theorem yL:∀ {l:List D} {ps:List Tri},Eb l=some ps→l=ps.map Y4
 | [],ps,h=>by cases h;rfl
 | d::l,ps,h=>by
  unfold Eb at h
  split at h
  ·rename_i p qs h1 h2
   cases h
   rw [Qej h1,yL h2];rfl
  ·cases h
theorem XP {n:Nat} {l r:List D} (h:Wm n l=some r):EU cx 67 4 l [.fn (.func 68) [] []] r:=by
 unfold Wm at h
 by_cases hl:l.length≤1000
 ·rw [if_pos hl] at h
  obtain ⟨ps,hps,h⟩:=Qe h
  obtain rfl:=Option.some.inj h
  obtain rfl:=yL hps
  intro w F rr cap c e vs hF hG hFr hlen hv hb hrow hcap hsz
  match vs,hlen with
  | [y],_ =>
   have hy:y=.func (.func 68) #[] #[]:=by
    have:=hv 0 _ y rfl rfl
    cases this with
    | fn _ _ _ xs ys h1 h2 _ _ =>
     have a1:=List.length_eq_zero_iff.1 h1.symm
     have a2:=List.length_eq_zero_iff.1 h2.symm
     subst a1;subst a2;rfl
   subst hy
   rw [List.length_map] at hl hcap ⊢
   have hrr:=hF rr hFr
   have hcs:ps.length * 4≤c.size:=by
    have:=Nat.mul_le_mul_right 4 hcap
    omega
   have hcell:∀ t,t < ps.length * 4→c[t]?=some ((J3 ps.toArray[t / 4]!)[t % 4]!):=by
    intro t ht
    have hi:t / 4 < ps.length:=by omega
    have he:(ps.map Y4)[t / 4]?=some (Y4 ps[t / 4]):=by rw [List.getElem?_map,List.getElem?_eq_getElem hi];rfl
    have hg:(ps.toArray[t / 4]!)=ps[t / 4]:=by rw [getElem!_pos _ _ (by simpa using hi)];simp
    rw [hg]
    have hm:t % 4=0 ∨ t % 4=1 ∨ t % 4=2 ∨ t % 4=3:=by omega
    rcases hm with h0 | h0 | h0 | h0
    ·obtain ⟨v,q1,_,q3⟩:=hrow.2 (t / 4) _ 0 _ he rfl
     rw [show t / 4 * 4+0=t by omega] at q1
     rw [h0,q1,dr_i q3];rfl
    ·obtain ⟨v,q1,_,q3⟩:=hrow.2 (t / 4) _ 1 _ he rfl
     rw [show t / 4 * 4+1=t by omega] at q1
     rw [h0,q1,dr_i q3];rfl
    ·obtain ⟨v,q1,_,q3⟩:=hrow.2 (t / 4) _ 2 _ he rfl
     rw [show t / 4 * 4+2=t by omega] at q1
     rw [h0,q1,dr_i q3];rfl
    ·obtain ⟨v,q1,_,q3⟩:=hrow.2 (t / 4) _ 3 _ he rfl
     rw [show t / 4 * 4+3=t by omega] at q1
     rw [h0,q1,dr_i q3];rfl
   have hH:HoldsK J3 4 w rr 0 ps.toArray:=by
    intro j hj
    rw [size_flatK] at hj
    have hj' : j < ps.length * 4:=by simpa using hj
    refine ⟨?_,?_⟩
    ·rw [get_flatK _ _ _ _ hj]
     unfold World.cell?
     rw [hb]
     simpa using hcell j hj'
    ·unfold World.frozen?
     rw [hb]
     simp
   have eg:∀ args w,(callFunc 68 args).run cx.P w=.ok (.enter 68 args) w:=enters_of Tryz.func68 (by kernel_rfl) rfl
   have hcon:=AnyQ.slices_SortFunc_eq Tryz.sortT 4 Tryz.isAgg81 Tryz.sizeOf81 J3 (fun _=>rfl) (fun x v hv=>by simp [J3] at hv;rcases hv with rfl | rfl | rfl | rfl <;> rfl) qt swoT 68 #[] rr 0 cap ps.toArray w eg
    (fun _ _ _ _ x y=>yw x y _) hH hrr (by simp;omega)
   refine Calls.mono (show Calls cx.P 67 (Value.slice (some ⟨rr,0,none⟩) ps.length cap::[Value.func (.func 68) #[] #[]]).toArray w (fun e w'=>e=.returned (.tuple #[])∧∃ m os,w'=sortWorldK J3 4 w rr 0 m (pdq (ltOf qt) ps.toArray 0 ps.toArray.size (Go.Lib.bitLen ps.toArray.size) true true) os) from hcon) ?_
   rintro e' w' ⟨rfl,m,os,rfl⟩
   have hd:(pdq (ltOf qt) ps.toArray 0 ps.toArray.size (Go.Lib.bitLen ps.toArray.size) true true).toList=Uq ps:=rfl
   generalize pdq (ltOf qt) ps.toArray 0 ps.toArray.size (Go.Lib.bitLen ps.toArray.size) true true=d' at hd
   have s3:(Uq ps).length=ps.length:=(Xw ps).1.length_eq
   have hds:d'.size=ps.length:=by rw [← s3,← hd];simp
   have hfs:(flatK J3 4 d').size=ps.length * 4:=by rw [size_flatK,hds]
   have hheap:∀ q,q < w.heap.size→(sortWorldK J3 4 w rr 0 m d' os).heap[q]?=(w.heap.modify rr (onCells (putCells id 0 (flatK J3 4 d'))))[q]?:=by
    intro q hq
    show ((w.heap.modify rr _)++os)[q]?=_
    rw [Array.getElem?_append,if_pos (by simpa using hq)]
   refine ⟨rfl,by simp [s3],putCells id 0 (flatK J3 4 d') c,by unfold putCells;simp,⟨fun i d hi=>?_,fun i d j a hi hj=>?_⟩,?_,⟨(fun hh=>by cases hh),rfl,rfl,rfl,?_,fun q hq hne=>?_⟩⟩
   ·rw [List.getElem?_map,Option.map_eq_some_iff] at hi
    obtain ⟨p,_,rfl⟩:=hi;rfl
   ·rw [List.getElem?_map,Option.map_eq_some_iff] at hi
    obtain ⟨p,hi,rfl⟩:=hi
    have hil:=(List.getElem?_eq_some_iff.1 hi).1
    rw [s3] at hil
    have hg:(d'[i]!)=p:=by
     rw [getElem!_pos _ _ (by omega)]
     have:d'.toList[i]?=some p:=by rw [hd];exact hi
     rw [List.getElem?_eq_some_iff] at this
     obtain ⟨_,h2⟩:=this
     simpa using h2
    have hput:∀ t,t < ps.length * 4→(putCells id 0 (flatK J3 4 d') c)[t]?=some ((J3 d'[t / 4]!)[t % 4]!):=by
     intro t ht
     unfold putCells
     rw [Array.getElem?_mapIdx,hcell t ht,Option.map_some,if_pos ⟨Nat.zero_le _,by omega⟩,Nat.sub_zero,get_flatK _ _ _ _ (by omega)];rfl
    have key:∀ k,k < 4→(putCells id 0 (flatK J3 4 d') c)[i * 4+k]?=some ((J3 p)[k]!):=by
     intro k hk
     rw [hput (i * 4+k) (by omega),show (i * 4+k) / 4=i by omega,show (i * 4+k) % 4=k by omega,hg]
    match j,hj with
    | 0,hj=>cases hj;exact ⟨_,key 0 (by omega),rfl,.v _⟩
    | 1,hj=>cases hj;exact ⟨_,key 1 (by omega),rfl,.v _⟩
    | 2,hj=>cases hj;exact ⟨_,key 2 (by omega),rfl,.v _⟩
    | 3,hj=>cases hj;exact ⟨_,key 3 (by omega),rfl,.v _⟩
   ·rw [hheap rr hrr,Array.getElem?_modify,if_pos rfl,hb];rfl
   ·show w.heap.size≤((w.heap.modify rr _)++os).size
    simp
   ·rw [hheap q hq,Array.getElem?_modify,if_neg (fun h=>hne h.symm)]
 ·rw [if_neg hl] at h;cases h
abbrev PtQ:=Int×Int
def yx (x y:PtQ):Int:=or2 (sgn x.2 y.2) (sgn x.1 y.1)
theorem cmpQ_ok:Cmp yx:=Cmp.lex (Cmp.key fun x:PtQ=>x.2) (Cmp.key fun x:PtQ=>x.1)
def ltQ (x y:PtQ):Bool:=decide (yx x y < 0)
theorem swoQ:SWO ltQ where
 irrefl x:=by
  unfold ltQ;rw [cmpQ_ok.refl];rfl
 trans x y z h1 h2:=by
  unfold ltQ at *
  have h1:=of_decide_eq_true h1
  have h2:=of_decide_eq_true h2
  have k:=cmpQ_ok.le x y z (by omega) (by omega)
  refine decide_eq_true ?_
  by_cases h:yx x z=0
  ·exfalso
   have a1:=cmpQ_ok.anti x z
   have b1:=cmpQ_ok.le z x y (by omega) (by omega)
   have a2:=cmpQ_ok.anti y z
   omega
  ·omega
 ntrans x y z h1 h2:=by
  unfold ltQ at *
  have h1:=of_decide_eq_false h1
  have h2:=of_decide_eq_false h2
  have a1:=cmpQ_ok.anti x y
  have a2:=cmpQ_ok.anti y z
  have a3:=cmpQ_ok.anti x z
  have k:=cmpQ_ok.le z y x (by omega) (by omega)
  exact decide_eq_false (by omega)
def srtQ (l:List PtQ):List PtQ:=(pdq ltQ l.toArray 0 l.toArray.size (Go.Lib.bitLen l.toArray.size) true true).toList
theorem yN (l:List PtQ):(srtQ l).Perm l:=by
 unfold srtQ
 have hq:=pdq_sorts ltQ swoQ l.toArray 0 l.toArray.size (Go.Lib.bitLen l.toArray.size) true true (Nat.zero_le _) (Nat.le_refl _) (Or.inl rfl)
 generalize pdq ltQ l.toArray 0 l.toArray.size (Go.Lib.bitLen l.toArray.size) true true=d at hq
 obtain ⟨⟨s1,s2,s3⟩,hs⟩:=hq
 have e1:d.extract 0 l.toArray.size=d:=by
  rw [← s1];exact Array.extract_size
 have e2:l.toArray.extract 0 l.toArray.size=l.toArray:=Array.extract_size
 rw [e1,e2] at s3
 exact s3
def ptD (p:PtQ):D:=.agg [I p.1,I p.2]
def ptOf:D→Option PtQ
 | .agg [.v (.int .i64 a),.v (.int .i64 b)]=>some (a,b)
 | _=>none
def yW:List D→Option (List PtQ)
 | []=>some []
 | d::l=>match ptOf d,yW l with
  | some p,some ps=>some (p::ps)
  | _,_=>none
theorem Qdy (l:List PtQ):yW (l.map ptD)=some l:=by
 induction l with
 | nil=>rfl
 | cons t l ih =>
  rw [List.map_cons]
  unfold yW
  rw [show ptOf (ptD t)=some t from rfl,ih]
def Zt (n:Nat) (l:List D):Option (List D):=if l.length≤1000 then (yW l).bind fun ps=>some ((srtQ ps).map ptD) else none
theorem Qcu {n:Nat} (hn:100≤n) (x y:PtQ):T.F_cloud_inOrder n x.1 x.2 y.1 y.2=some (yx x y):=by
 unfold T.F_cloud_inOrder
 rw [Yg,Option.bind_some,Yg,Option.bind_some]
 have h:=QeA (show 50≤n by omega) [sgn x.2 y.2,sgn x.1 y.1] (by simp)
 rw [show ([I (sgn x.2 y.2),I (sgn x.1 y.1)]:List D)=[sgn x.2 y.2,sgn x.1 y.1].map I from rfl,h,Option.bind_some]
 congr 1
 show (if sgn x.2 y.2=0 then (if sgn x.1 y.1=0 then (0:Int) else sgn x.1 y.1) else sgn x.2 y.2)=(if sgn x.2 y.2=0 then sgn x.1 y.1 else sgn x.2 y.2)
 by_cases h1:sgn x.2 y.2=0
 ·rw [if_pos h1,if_pos h1]
  by_cases h2:sgn x.1 y.1=0
  ·rw [if_pos h2,h2]
  ·rw [if_neg h2]
 ·rw [if_neg h1,if_neg h1]
def K9 (x:PtQ):List Value:=[.int .i64 x.1,.int .i64 x.2]
theorem Qfh (w:World) (F:Nat→Prop) (p:PtQ):DR w F (ptD p) (.agg (K9 p).toArray):=by
 refine .agg [I p.1,I p.2] (K9 p) rfl fun i c y hi hy=>?_
 match i,hi,hy with
 | 0,hi,hy=>cases hi;cases hy;exact .v _
 | 1,hi,hy=>cases hi;cases hy;exact .v _
theorem yr (x y:PtQ) (W:World):Calls cx.P 34 #[.agg (K9 x).toArray,.agg (K9 y).toArray] W fun e w'=>e=.returned (.int .i64 (yx x y))∧∃ q os',w'=grow (W.drewN q) os':=by
 have hc:=T.c_cloud_inOrder (Qcu (n:=100) (by omega) x y) W (fun _=>False) [.agg (K9 x).toArray,.agg (K9 y).toArray] (fun _ h=>h.elim) (fun g x h=>by cases h) rfl fun i c v hi hv=>by
  match i,hi,hv with
  | 0,hi,hv=>cases hi;cases hv;exact Qfh _ _ x
  | 1,hi,hv=>cases hi;cases hv;exact Qfh _ _ y
 refine Calls.mono hc ?_
 rintro e w' ⟨v,rfl,hd,hx⟩
 refine ⟨by rw [dr_i hd],w'.drawn - W.drawn,w'.heap.extract W.heap.size w'.heap.size,?_⟩
 have h1:=(@Ext.drawn T.drawT _ _ _ hx) rfl
 have h2:=(@Ext.os T.drawT _ _ _ hx)
 have h3:=(@Ext.tape T.drawT _ _ _ hx)
 have h4:=(@Ext.output T.drawT _ _ _ hx)
 have h5:w'.heap=W.heap++w'.heap.extract W.heap.size w'.heap.size:=by
  apply Array.ext_getElem?
  intro k
  have hsz:=(@Ext.size T.drawT _ _ _ hx)
  rw [Array.getElem?_append]
  by_cases hk:k < W.heap.size
  ·rw [if_pos hk]
   exact @Ext.same T.drawT _ _ _ hx k hk (fun h=>h)
  ·rw [if_neg hk,Array.getElem?_extract]
   by_cases h6:k < w'.heap.size
   ·rw [if_pos (by omega),show W.heap.size+(k - W.heap.size)=k by omega]
   ·rw [if_neg (by omega),Array.getElem?_eq_none (by omega)]
 show w'={ heap:=W.heap++w'.heap.extract W.heap.size w'.heap.size,tape:=W.tape,drawn:=W.drawn+(w'.drawn - W.drawn),os:=W.os,output:=W.output }
 rw [← h5,← h2,← h3,← h4,show W.drawn+(w'.drawn - W.drawn)=w'.drawn by omega]
set_option maxHeartbeats 2000000 in
set_option maxRecDepth 100000 in
theorem Qgl (blk cap : Nat) (d : Array PtQ) (w : World) (hH : HoldsK K9 2 w blk 0 d) (hblk : blk < w.heap.size) (hsz : d.size < 4611686018427387904) :
  Calls Tryz.prog 33 #[.slice (some ⟨blk, 0, none⟩) d.size cap, .func (.func 34) #[] #[]] w fun e w' => e = .returned (.tuple #[]) ∧ ∃ n os, w' = sortWorldK K9 2 w blk 0 n (pdq (ltOf yx) d 0 d.size (Go.Lib.bitLen d.size) true true) os := by
 have L := Tryz.pdqP
 have eg : ∀ args w, (callFunc 34 args).run Tryz.prog w = .ok (.enter 34 args) w := enters_of Tryz.func34 (by kernel_rfl) rfl
 have e61 : ∀ args w, (callFunc 61 args).run Tryz.prog w = .ok (.enter 61 args) w := enters_of Tryz.func61 (by kernel_rfl) rfl
 have e62 : ∀ args w, (callFunc 62 args).run Tryz.prog w = .ok (.enter 62 args) w := enters_of Tryz.func62 (by kernel_rfl) rfl
 have hlim : Go.Lib.bitLen d.size < 4611686018427387904 := Nat.lt_of_le_of_lt (Go.Lib.bitLen_le d.size 62 (by omega) (by omega)) (by omega)
 have hp : Calls Tryz.prog 61 #[.slice (some ⟨blk, 0, none⟩) d.size cap, .int .i64 (0 : Nat), .int .i64 (d.size : Nat), .int .i64 (Go.Lib.bitLen d.size : Nat), .func (.func 34) #[] #[]] w _ := AnyQ.pdqsortCmpFunc_all (P := Tryz.prog) (ρ := Tryz.pdqP_ren) L 2 Tryz.isAgg30 Tryz.sizeOf30 K9 yx 34 #[] swoQ blk 0 cap d w eg (fun _ _ _ _ x y => yr x y _) ⟨fun _ => rfl, fun x v hv => by simp [K9] at hv; rcases hv with rfl | rfl <;> rfl, hH, hblk⟩ (d.size + 1) 0 d.size (Go.Lib.bitLen d.size) d w (by omega) rfl (SWK.start hH) (Nat.zero_le _) (Nat.le_refl _) hsz hlim (Or.inl rfl)
 have hl : Calls Tryz.prog 62 #[.int .u64 (d.size : Int)] w fun e w' => e = .returned (.int .i64 (Go.Lib.bitLen d.size : Nat)) ∧ w' = w := by
  have h := Any.bits_Len (SlLaysF0.n15.bits (P := Tryz.prog) (ρ := Tryz.pdqP_ren) { L with }) (d.size : Int) w (by omega) (by omega)
  rwa [Int.toNat_natCast] at h
 have wr : IntKind.u64.wrap (d.size : Int) = d.size := by simp [IntKind.wrap, IntKind.bits, IntKind.signed]; omega
 clear hH
 go_enter Tryz.func33, Tryz.ntmps33
 go_wp2_with (first | (go_at_fn 62; refine hl.mono ?_; rintro e w' ⟨rfl, rfl⟩) | (go_at_fn 61; refine hp.mono ?_; rintro e w' ⟨rfl, n, os, rfl⟩))
 go_end0
 exact ⟨rfl, n, os, rfl⟩
theorem QfE {d:D} {p:PtQ} (h:ptOf d=some p):d=ptD p:=by
 unfold ptOf at h
 split at h
 ·cases h;rfl
 ·cases h
theorem Qba:∀ {l:List D} {ps:List PtQ},yW l=some ps→l=ps.map ptD
 | [],ps,h=>by cases h;rfl
 | d::l,ps,h=>by
  unfold yW at h
  split at h
  ·rename_i p qs h1 h2
   cases h
   rw [QfE h1,Qba h2];rfl
  ·cases h
theorem Uj {n:Nat} {l r:List D} (h:Zt n l=some r):EU cx 33 2 l [.fn (.func 34) [] []] r:=by
 unfold Zt at h
 by_cases hl:l.length≤1000
 ·rw [if_pos hl] at h
  obtain ⟨ps,hps,h⟩:=Qe h
  obtain rfl:=Option.some.inj h
  obtain rfl:=Qba hps
  intro w F rr cap c e vs hF hG hFr hlen hv hb hrow hcap hsz
  match vs,hlen with
  | [y],_ =>
   have hy:y=.func (.func 34) #[] #[]:=by
    have:=hv 0 _ y rfl rfl
    cases this with
    | fn _ _ _ xs ys h1 h2 _ _ =>
     have a1:=List.length_eq_zero_iff.1 h1.symm
     have a2:=List.length_eq_zero_iff.1 h2.symm
     subst a1;subst a2;rfl
   subst hy
   rw [List.length_map] at hl hcap ⊢
   have hrr:=hF rr hFr
   have hcs:ps.length * 2≤c.size:=by
    have:=Nat.mul_le_mul_right 2 hcap
    omega
   have hcell:∀ t,t < ps.length * 2→c[t]?=some ((K9 ps.toArray[t / 2]!)[t % 2]!):=by
    intro t ht
    have hi:t / 2 < ps.length:=by omega
    have he:(ps.map ptD)[t / 2]?=some (ptD ps[t / 2]):=by rw [List.getElem?_map,List.getElem?_eq_getElem hi];rfl
    have hg:(ps.toArray[t / 2]!)=ps[t / 2]:=by rw [getElem!_pos _ _ (by simpa using hi)];simp
    rw [hg]
    have hm:t % 2=0 ∨ t % 2=1:=by omega
    rcases hm with h0 | h0
    ·obtain ⟨v,q1,_,q3⟩:=hrow.2 (t / 2) _ 0 _ he rfl
     rw [show t / 2 * 2+0=t by omega] at q1
     rw [h0,q1,dr_i q3];rfl
    ·obtain ⟨v,q1,_,q3⟩:=hrow.2 (t / 2) _ 1 _ he rfl
     rw [show t / 2 * 2+1=t by omega] at q1
     rw [h0,q1,dr_i q3];rfl
   have hH:HoldsK K9 2 w rr 0 ps.toArray:=by
    intro j hj
    rw [size_flatK] at hj
    have hj' : j < ps.length * 2:=by simpa using hj
    refine ⟨?_,?_⟩
    ·rw [get_flatK _ _ _ _ hj]
     unfold World.cell?
     rw [hb]
     simpa using hcell j hj'
    ·unfold World.frozen?
     rw [hb]
     simp
   have hcon:=Qgl rr cap ps.toArray w hH hrr (by simp;omega)
   refine Calls.mono (show Calls cx.P 33 (Value.slice (some ⟨rr,0,none⟩) ps.length cap::[Value.func (.func 34) #[] #[]]).toArray w (fun e w'=>e=.returned (.tuple #[])∧∃ m os,w'=sortWorldK K9 2 w rr 0 m (pdq (ltOf yx) ps.toArray 0 ps.toArray.size (Go.Lib.bitLen ps.toArray.size) true true) os) from hcon) ?_
   rintro e' w' ⟨rfl,m,os,rfl⟩
   have hd:(pdq (ltOf yx) ps.toArray 0 ps.toArray.size (Go.Lib.bitLen ps.toArray.size) true true).toList=srtQ ps:=rfl
   generalize pdq (ltOf yx) ps.toArray 0 ps.toArray.size (Go.Lib.bitLen ps.toArray.size) true true=d' at hd
   have s3:(srtQ ps).length=ps.length:=(yN ps).length_eq
   have hds:d'.size=ps.length:=by rw [← s3,← hd];simp
   have hfs:(flatK K9 2 d').size=ps.length * 2:=by rw [size_flatK,hds]
   have hheap:∀ q,q < w.heap.size→(sortWorldK K9 2 w rr 0 m d' os).heap[q]?=(w.heap.modify rr (onCells (putCells id 0 (flatK K9 2 d'))))[q]?:=by
    intro q hq
    show ((w.heap.modify rr _)++os)[q]?=_
    rw [Array.getElem?_append,if_pos (by simpa using hq)]
   refine ⟨rfl,by simp [s3],putCells id 0 (flatK K9 2 d') c,by unfold putCells;simp,⟨fun i d hi=>?_,fun i d j a hi hj=>?_⟩,?_,⟨(fun hh=>by cases hh),rfl,rfl,rfl,?_,fun q hq hne=>?_⟩⟩
   ·rw [List.getElem?_map,Option.map_eq_some_iff] at hi
    obtain ⟨p,_,rfl⟩:=hi;rfl
   ·rw [List.getElem?_map,Option.map_eq_some_iff] at hi
    obtain ⟨p,hi,rfl⟩:=hi
    have hil:=(List.getElem?_eq_some_iff.1 hi).1
    rw [s3] at hil
    have hg:(d'[i]!)=p:=by
     rw [getElem!_pos _ _ (by omega)]
     have:d'.toList[i]?=some p:=by rw [hd];exact hi
     rw [List.getElem?_eq_some_iff] at this
     obtain ⟨_,h2⟩:=this
     simpa using h2
    have hput:∀ t,t < ps.length * 2→(putCells id 0 (flatK K9 2 d') c)[t]?=some ((K9 d'[t / 2]!)[t % 2]!):=by
     intro t ht
     unfold putCells
     rw [Array.getElem?_mapIdx,hcell t ht,Option.map_some,if_pos ⟨Nat.zero_le _,by omega⟩,Nat.sub_zero,get_flatK _ _ _ _ (by omega)];rfl
    have key:∀ k,k < 2→(putCells id 0 (flatK K9 2 d') c)[i * 2+k]?=some ((K9 p)[k]!):=by
     intro k hk
     rw [hput (i * 2+k) (by omega),show (i * 2+k) / 2=i by omega,show (i * 2+k) % 2=k by omega,hg]
    match j,hj with
    | 0,hj=>cases hj;exact ⟨_,key 0 (by omega),rfl,.v _⟩
    | 1,hj=>cases hj;exact ⟨_,key 1 (by omega),rfl,.v _⟩
   ·rw [hheap rr hrr,Array.getElem?_modify,if_pos rfl,hb];rfl
   ·show w.heap.size≤((w.heap.modify rr _)++os).size
    simp
   ·rw [hheap q hq,Array.getElem?_modify,if_neg (fun h=>hne h.symm)]
 ·rw [if_neg hl] at h;cases h
set_option maxRecDepth 10000
set_option maxHeartbeats 4000000
def VO (n:Nat)  : Option (Int) :=
 some 3
theorem Gb {n:Nat}  {r:Int} (h:VO n =some r):Computes cx 69 [B true,I 3] (I r):=by
 unfold VO at h
 replace h:=Option.some.inj h
 subst h
 exact run (n:=100) (f:=69) (args:=[B true,I 3]) (orc:=[.no]) (r:=I 3) (ob:=[]) (by kernel_rfl) trivial
def We (n:Nat) (a0:Bool) (a1:Int):Option (Int) :=
 if a0=true then
  some a1
 else
 some 0
theorem Kc {n:Nat} {a0:Bool} {a1:Int} {r:Int} (h:We n a0 a1=some r):Computes cx 69 [B a0,I a1] (I r):=by
 unfold We at h
 by_cases h1:a0=true
 ·replace h:=Qj h h1
  replace h:=Option.some.inj h
  subst h
  exact run (n:=100) (f:=69) (args:=[B a0,I a1]) (orc:=[.br true]) (r:=I a1) (ob:=[a0=true]) (by kernel_rfl) ⟨h1,trivial⟩
 ·replace h:=Qk h h1
  replace h:=Option.some.inj h
  subst h
  exact run (n:=100) (f:=69) (args:=[B a0,I a1]) (orc:=[.br false]) (r:=I 0) (ob:=[a0=false]) (by kernel_rfl) ⟨(QJ h1),trivial⟩
def Wd (n:Nat) (a0 a1 a2:Int):Option (Int) :=
 if a0 < a1 then
  (VO n).bind fun t2 =>
  some t2
 else
 (We n (decide (a0 > a2)) 3).bind fun t2 =>
 some t2
theorem QF {n:Nat} {a0 a1 a2:Int} {r:Int} (h:Wd n a0 a1 a2=some r):Computes cx 45 [I a0,I a1,I a2] (I r):=by
 unfold Wd at h
 by_cases h1:a0 < a1
 ·replace h:=Qj h h1
  obtain ⟨t2,h2,h⟩:=Qe h
  replace h:=Option.some.inj h
  subst h
  exact run (n:=100) (f:=45) (args:=[I a0,I a1,I a2]) (orc:=[.br true,.ret (I t2)]) (r:=I t2) (ob:=[Computes cx 69 [B true,I 3] (I t2),(decide (a0 < a1))=true]) (by kernel_rfl) ⟨(Gb h2),(decide_eq_true h1),trivial⟩
 ·replace h:=Qk h h1
  obtain ⟨t2,h2,h⟩:=Qe h
  replace h:=Option.some.inj h
  subst h
  exact run (n:=100) (f:=45) (args:=[I a0,I a1,I a2]) (orc:=[.br false,.ret (I t2)]) (r:=I t2) (ob:=[Computes cx 69 [B (decide (a0 > a2)),I 3] (I t2),(decide (a0 < a1))=false]) (by kernel_rfl) ⟨(Kc h2),(decide_eq_false h1),trivial⟩
def Qfe (x:Int):D:=I x
def un_i (d:D):Option (Int):=K0 .i64 d
theorem QQ {d:D} {x:Int} (h:un_i d=some x):d=Qfe x:=Yb h
def W4 (n:Nat) (a0:List D) (sa:(Int)):Option (((Int))⊕((Int)⊕(Unit))) :=
 if sa < ((a0).length:Int) then
  (el un_i a0 sa).bind fun ta2 =>
  if ta2=0 then
   if Qb (sa+1) then
   some (.inl (sa+1))
   else none
  else
  some (.inr (.inl ta2))
 else
 some (.inr (.inr ()))
noncomputable def wp (a0:List D) (sa:(Int)):List (Nat×AV):=[(5,.d (.lst false 1 a0)),(6,.d (I ((a0).length:Int))),(7,.d (I sa))]
noncomputable def wv (a0:List D) (sa:(Int)):List (Nat×Blk):=[]
noncomputable def wj (a0:List D) (e:(Int)⊕(Unit)):Ex:=match e with
 | (.inl e)=>.ret
 | (.inr e)=>(.exit 0)
noncomputable def qP (a0:List D) (e:(Int)⊕(Unit)):List (Nat×AV):=match e with
 | (.inl e)=>[(2,.d (I e))]
 | (.inr e)=>[]
noncomputable def qT (a0:List D) (e:(Int)⊕(Unit)):List (Nat×Blk):=match e with
 | (.inl e)=>[]
 | (.inr e)=>[]
theorem JH {n:Nat} {a0:List D} (sa:(Int)) (r) (h:W4 n a0 sa=some r):Rd cx (Qs cx.P 44 0) 15 0 false (wp a0) (wv a0) (wj a0) (qP a0) (qT a0) sa r:=by
 unfold W4 at h
 by_cases ha1:sa < ((a0).length:Int)
 ·replace h:=Qj h ha1
  obtain ⟨ta2,ha2,h⟩:=Qe h
  by_cases ha3:ta2=0
  ·replace h:=Qj h ha3
   obtain ⟨ha4,h⟩:=Qf h
   replace h:=Option.some.inj h
   subst h
   exact ⟨100,4,[.br true,.el (I ta2),.br false],[],[5,6,7],[],Qg (ob:=[Qb (sa+1),(ta2 != 0)=false,(0:Int)≤sa,nth (a0) (Int.toNat sa)=some (I ta2),(decide (sa < ((a0).length:Int)))=true]) (by kernel_rfl) ⟨ha4,(nef ha3),(Qp QQ ha2).1,(Qp QQ ha2).2,(decide_eq_true ha1),trivial⟩⟩
  ·replace h:=Qk h ha3
   replace h:=Option.some.inj h
   subst h
   exact ⟨⟨100,4,[.br true,.el (I ta2),.br true],[],[2],[],Qg (ob:=[(ta2 != 0)=true,(0:Int)≤sa,nth (a0) (Int.toNat sa)=some (I ta2),(decide (sa < ((a0).length:Int)))=true]) (by kernel_rfl) ⟨(net ha3),(Qp QQ ha2).1,(Qp QQ ha2).2,(decide_eq_true ha1),trivial⟩⟩,nofun⟩
 ·replace h:=Qk h ha1
  replace h:=Option.some.inj h
  subst h
  exact ⟨⟨100,4,[.br false],[],[],[],Qg (ob:=[(decide (sa < ((a0).length:Int)))=false]) (by kernel_rfl) ⟨(decide_eq_false ha1),trivial⟩⟩,nofun⟩
def Ww (n:Nat) (a0:List D):Option (Int) :=
 (Qz (W4 n a0) n 0).bind fun t1=>match t1 with
  | (.inl t1)=>(
   some t1)
  | (.inr t1)=>(
   some 0)
theorem ZA {n:Nat} {a0:List D} {r:Int} (h:Ww n a0=some r):Computes cx 44 [.lst false 1 a0] (I r):=by
 unfold Ww at h
 obtain ⟨t1,h1,h⟩:=Qe h
 rcases t1 with t1 | t1
 ·replace h:=Option.some.inj h
  subst h
  exact run (n:=100) (f:=44) (args:=[.lst false 1 a0]) (orc:=[.lp [] [5,6,7] [] .ret [(2,.d (I t1))] [] 23]) (r:=I t1) (ob:=[QM cx (Qs cx.P 44 0) 15 0 false [(5,.d (.lst false 1 a0)),(6,.d (I ((a0).length:Int))),(7,.d (I 0))] [] .ret [(2,.d (I t1))] []]) (by kernel_rfl) ⟨(Qu JH h1),trivial⟩
 ·replace h:=Option.some.inj h
  subst h
  exact run (n:=100) (f:=44) (args:=[.lst false 1 a0]) (orc:=[.lp [] [5,6,7] [] (.exit 0) [] [] 23]) (r:=I 0) (ob:=[QM cx (Qs cx.P 44 0) 15 0 false [(5,.d (.lst false 1 a0)),(6,.d (I ((a0).length:Int))),(7,.d (I 0))] [] (.exit 0) [] []]) (by kernel_rfl) ⟨(Qu JH h1),trivial⟩
def Qm (x:Nat):D:=.v (.float .f32 x)
def Vq (d:D):Option (Nat):=Qb0 .f32 d
theorem Qr {d:D} {x:Nat} (h:Vq d=some x):d=Qm x:=Qdp h
def UI (n:Nat) (a0:Nat):Option (Bool) :=
 some ((FloatKind.format .f64).order a0 a0 != some .eq)
theorem qA {n:Nat} {a0:Nat} {r:Bool} (h:UI n a0=some r):Computes cx 90 [.v (.float .f64 a0)] (B r):=by
 unfold UI at h
 replace h:=Option.some.inj h
 subst h
 exact run (n:=100) (f:=90) (args:=[.v (.float .f64 a0)]) (orc:=[]) (r:=B ((FloatKind.format .f64).order a0 a0 != some .eq)) (ob:=[]) (by kernel_rfl) trivial
def UJ (n:Nat) (a0:Nat) (a1:Int):Option (Bool) :=
 if a1=0 then
  (EZ n a0).bind fun t2 =>
  some ((FloatKind.format .f64).order t2 9218868437227405311 == some .gt)
 else
 if a1 < 0 then
  some ((FloatKind.format .f64).order (Op.negFloat .f64 a0) 9218868437227405311 == some .gt)
 else
 some ((FloatKind.format .f64).order a0 9218868437227405311 == some .gt)
theorem Qau {n:Nat} {a0:Nat} {a1:Int} {r:Bool} (h:UJ n a0 a1=some r):Computes cx 91 [.v (.float .f64 a0),I a1] (B r):=by
 unfold UJ at h
 by_cases h1:a1=0
 ·replace h:=Qj h h1
  obtain ⟨t2,h2,h⟩:=Qe h
  replace h:=Option.some.inj h
  subst h
  exact run (n:=100) (f:=91) (args:=[.v (.float .f64 a0),I a1]) (orc:=[.br true,.ret (.v (.float .f64 t2))]) (r:=B ((FloatKind.format .f64).order t2 9218868437227405311 == some .gt)) (ob:=[Computes cx 108 [.v (.float .f64 a0)] (.v (.float .f64 t2)),(a1 == 0)=true]) (by kernel_rfl) ⟨(QcD h2),(eqt h1),trivial⟩
 ·replace h:=Qk h h1
  by_cases h2:a1 < 0
  ·replace h:=Qj h h2
   replace h:=Option.some.inj h
   subst h
   exact run (n:=100) (f:=91) (args:=[.v (.float .f64 a0),I a1]) (orc:=[.br false,.br true]) (r:=B ((FloatKind.format .f64).order (Op.negFloat .f64 a0) 9218868437227405311 == some .gt)) (ob:=[(decide (a1 < 0))=true,(a1 == 0)=false]) (by kernel_rfl) ⟨(decide_eq_true h2),(eqf h1),trivial⟩
  ·replace h:=Qk h h2
   replace h:=Option.some.inj h
   subst h
   exact run (n:=100) (f:=91) (args:=[.v (.float .f64 a0),I a1]) (orc:=[.br false,.br false]) (r:=B ((FloatKind.format .f64).order a0 9218868437227405311 == some .gt)) (ob:=[(decide (a1 < 0))=false,(a1 == 0)=false]) (by kernel_rfl) ⟨(decide_eq_false h2),(eqf h1),trivial⟩
def W3 (n:Nat) (a0:Nat):Option (Bool) :=
 if (f2f .f32 a0 .f64).isSome=true then
 (UI n ((f2f .f32 a0 .f64).getD 0)).bind fun t2 =>
 if t2=true then
  some true
 else
 (UJ n ((f2f .f32 a0 .f64).getD 0) 0).bind fun t4 =>
 some t4
 else none
theorem zX {n:Nat} {a0:Nat} {r:Bool} (h:W3 n a0=some r):Computes cx 71 [.v (.float .f32 a0)] (B r):=by
 unfold W3 at h
 obtain ⟨h1,h⟩:=Qf h
 obtain ⟨t2,h2,h⟩:=Qe h
 by_cases h3:t2=true
 ·replace h:=Qj h h3
  replace h:=Option.some.inj h
  subst h
  exact run (n:=100) (f:=71) (args:=[.v (.float .f32 a0)]) (orc:=[.ret (B t2),.br true]) (r:=B true) (ob:=[t2=true,Computes cx 90 [.v (.float .f64 ((f2f .f32 a0 .f64).getD 0))] (B t2),(f2f .f32 a0 .f64).isSome=true]) (by kernel_rfl) ⟨h3,(qA h2),h1,trivial⟩
 ·replace h:=Qk h h3
  obtain ⟨t4,h4,h⟩:=Qe h
  replace h:=Option.some.inj h
  subst h
  exact run (n:=100) (f:=71) (args:=[.v (.float .f32 a0)]) (orc:=[.ret (B t2),.br false,.ret (B t4)]) (r:=B t4) (ob:=[Computes cx 91 [.v (.float .f64 ((f2f .f32 a0 .f64).getD 0)),I 0] (B t4),(f2f .f32 a0 .f64).isSome=true,t2=false,Computes cx 90 [.v (.float .f64 ((f2f .f32 a0 .f64).getD 0))] (B t2),(f2f .f32 a0 .f64).isSome=true]) (by kernel_rfl) ⟨(Qau h4),h1,(QJ h3),(qA h2),h1,trivial⟩
def VF (n:Nat) (a0 a1:Nat):Option (Int) :=
 if ((FloatKind.format .f32).order a0 (Op.negFloat .f32 a1) == some .lt)=true then
  (VO n).bind fun t2 =>
  some t2
 else
 if ((FloatKind.format .f32).order a0 a1 == some .gt)=true then
  (VO n).bind fun t3 =>
  some t3
 else
 if (fop .mul .f32 1098907648 a0).isSome=true then
 if (f2f .f32 ((fop .mul .f32 1098907648 a0).getD 0) .f64).isSome=true then
 (Gm n ((f2f .f32 ((fop .mul .f32 1098907648 a0).getD 0) .f64).getD 0)).bind fun t5 =>
 if (f2f .f64 t5 .f32).isSome=true then
 (We n ((FloatKind.format .f32).order ((f2f .f64 t5 .f32).getD 0) ((fop .mul .f32 1098907648 a0).getD 0) != some .eq) 3).bind fun t7 =>
 some t7
 else none
 else none
 else none
theorem kE {n:Nat} {a0 a1:Nat} {r:Int} (h:VF n a0 a1=some r):Computes cx 72 [.v (.float .f32 a0),.v (.float .f32 a1)] (I r):=by
 unfold VF at h
 by_cases h1:((FloatKind.format .f32).order a0 (Op.negFloat .f32 a1) == some .lt)=true
 ·replace h:=Qj h h1
  obtain ⟨t2,h2,h⟩:=Qe h
  replace h:=Option.some.inj h
  subst h
  exact run (n:=100) (f:=72) (args:=[.v (.float .f32 a0),.v (.float .f32 a1)]) (orc:=[.br true,.no,.ret (I t2)]) (r:=I t2) (ob:=[Computes cx 69 [B true,I 3] (I t2),((FloatKind.format .f32).order a0 (Op.negFloat .f32 a1) == some .lt)=true]) (by kernel_rfl) ⟨(Gb h2),h1,trivial⟩
 ·replace h:=Qk h h1
  by_cases h2:((FloatKind.format .f32).order a0 a1 == some .gt)=true
  ·replace h:=Qj h h2
   obtain ⟨t3,h3,h⟩:=Qe h
   replace h:=Option.some.inj h
   subst h
   exact run (n:=100) (f:=72) (args:=[.v (.float .f32 a0),.v (.float .f32 a1)]) (orc:=[.br false,.br true,.ret (I t3)]) (r:=I t3) (ob:=[Computes cx 69 [B true,I 3] (I t3),((FloatKind.format .f32).order a0 a1 == some .gt)=true,((FloatKind.format .f32).order a0 (Op.negFloat .f32 a1) == some .lt)=false]) (by kernel_rfl) ⟨(Gb h3),h2,(QJ h1),trivial⟩
  ·replace h:=Qk h h2
   obtain ⟨h3,h⟩:=Qf h
   obtain ⟨h4,h⟩:=Qf h
   obtain ⟨t5,h5,h⟩:=Qe h
   obtain ⟨h6,h⟩:=Qf h
   obtain ⟨t7,h7,h⟩:=Qe h
   replace h:=Option.some.inj h
   subst h
   exact run (n:=100) (f:=72) (args:=[.v (.float .f32 a0),.v (.float .f32 a1)]) (orc:=[.br false,.br false,.ret (.v (.float .f64 t5)),.ret (I t7)]) (r:=I t7) (ob:=[Computes cx 69 [B ((FloatKind.format .f32).order ((f2f .f64 t5 .f32).getD 0) ((fop .mul .f32 1098907648 a0).getD 0) != some .eq),I 3] (I t7),(fop .mul .f32 1098907648 a0).isSome=true,(f2f .f64 t5 .f32).isSome=true,Computes cx 92 [.v (.float .f64 ((f2f .f32 ((fop .mul .f32 1098907648 a0).getD 0) .f64).getD 0))] (.v (.float .f64 t5)),(f2f .f32 ((fop .mul .f32 1098907648 a0).getD 0) .f64).isSome=true,(fop .mul .f32 1098907648 a0).isSome=true,((FloatKind.format .f32).order a0 a1 == some .gt)=false,((FloatKind.format .f32).order a0 (Op.negFloat .f32 a1) == some .lt)=false]) (by kernel_rfl) ⟨(Kc h7),h3,h6,(Qav h5),h4,h3,(QJ h2),(QJ h1),trivial⟩
def Zu (n:Nat) (a0:Nat):Option (Int) :=
 (W3 n a0).bind fun t1 =>
 (We n t1 1).bind fun t2 =>
 (VF n a0 1149239296).bind fun t3 =>
 (Ww n ([I t2,I t3])).bind fun t4 =>
 some t4
theorem Ul {n:Nat} {a0:Nat} {r:Int} (h:Zu n a0=some r):Computes cx 50 [.v (.float .f32 a0)] (I r):=by
 unfold Zu at h
 obtain ⟨t1,h1,h⟩:=Qe h
 obtain ⟨t2,h2,h⟩:=Qe h
 obtain ⟨t3,h3,h⟩:=Qe h
 obtain ⟨t4,h4,h⟩:=Qe h
 replace h:=Option.some.inj h
 subst h
 exact run (n:=100) (f:=50) (args:=[.v (.float .f32 a0)]) (orc:=[.ret (B t1),.ret (I t2),.ret (I t3),.ret (I t4)]) (r:=I t4) (ob:=[Computes cx 44 [.lst true 1 [I t2,I t3]] (I t4),Computes cx 72 [.v (.float .f32 a0),.v (.float .f32 1149239296)] (I t3),Computes cx 69 [B t1,I 1] (I t2),Computes cx 71 [.v (.float .f32 a0)] (B t1)]) (by kernel_rfl) ⟨((ZA h4).le (.cons (.full _ _ _) (.nil)) (.refl _)),(kE h3),(Kc h2),(zX h1),trivial⟩
def ZW (n:Nat) (a0:List D) (sa:(Int×List D)):Option (((Int×List D))⊕((List D))) :=
 if sa.1 < ((a0).length:Int) then
  (el Vq a0 sa.1).bind fun ta2 =>
  (Zu n ta2).bind fun ta3 =>
  if ZZ 8 ((sa.2).length+1) then
  if Qb (sa.1+1) then
  some (.inl ((sa.1+1),(sa.2++([I ta3]:List D))))
  else none
  else none
 else
 some (.inr sa.2)
noncomputable def XY (a0:List D) (sa:(Int×List D)):List (Nat×AV):=[(1,.d (.fn (.func 50) [] [])),(5,.own 5 0),(8,.d (.lst false 1 a0)),(9,.d (I ((a0).length:Int))),(10,.d (I sa.1))]
noncomputable def X0 (a0:List D) (sa:(Int×List D)):List (Nat×Blk):=[(5,.row 0 1 sa.2)]
noncomputable def XS (a0:List D) (e:(List D)):Ex:=(.exit 0)
noncomputable def Xf (a0:List D) (e:(List D)):List (Nat×AV):=[(5,.own 5 0)]
noncomputable def Xg (a0:List D) (e:(List D)):List (Nat×Blk):=[(5,.row 0 1 e)]
theorem XZ {n:Nat} {a0:List D} (sa:(Int×List D)) (r) (h:ZW n a0 sa=some r):Rd cx (Qs cx.P 49 0) 22 0 false (XY a0) (X0 a0) (XS a0) (Xf a0) (Xg a0) sa r:=by
 unfold ZW at h
 by_cases ha1:sa.1 < ((a0).length:Int)
 ·replace h:=Qj h ha1
  obtain ⟨ta2,ha2,h⟩:=Qe h
  obtain ⟨ta3,ha3,h⟩:=Qe h
  obtain ⟨ha4,h⟩:=Qf h
  obtain ⟨ha5,h⟩:=Qf h
  replace h:=Option.some.inj h
  subst h
  exact ⟨100,6,[.br true,.el (.v (.float .f32 ta2)),.ret (I ta3),.br true],[],[1,5,8,9,10],[5],Qg (ob:=[Qb (sa.1+1),room cx 34 ((sa.2).length+1),Computes cx 50 [.v (.float .f32 ta2)] (I ta3),(0:Int)≤sa.1,nth (a0) (Int.toNat sa.1)=some (.v (.float .f32 ta2)),(decide (sa.1 < ((a0).length:Int)))=true]) (by kernel_rfl) ⟨ha5,(QT (b:=8) (by kernel_rfl) (by decide) ha4),(Ul ha3),(Qp Qr ha2).1,(Qp Qr ha2).2,(decide_eq_true ha1),trivial⟩⟩
 ·replace h:=Qk h ha1
  replace h:=Option.some.inj h
  subst h
  exact ⟨⟨100,6,[.br false],[],[5],[5],Qg (ob:=[(decide (sa.1 < ((a0).length:Int)))=false]) (by kernel_rfl) ⟨(decide_eq_false ha1),trivial⟩⟩,nofun⟩
def VP (n:Nat) (a0:List D):Option (List D) :=
 (Qz (ZW n a0) n (0,[])).bind fun t1 =>
 some t1
theorem zW {n:Nat} {a0:List D} {r:List D} (h:VP n a0=some r):Computes cx 49 [.lst false 1 a0,.fn (.func 50) [] []] (.lst false 1 r):=by
 unfold VP at h
 obtain ⟨t1,h1,h⟩:=Qe h
 replace h:=Option.some.inj h
 subst h
 exact run (n:=100) (f:=49) (args:=[.lst false 1 a0,.fn (.func 50) [] []]) (orc:=[.lp [5,1] [1,5,8,9,10] [5] (.exit 0) [(5,.own 5 0)] [(5,.row 0 1 t1)] 30]) (r:=.lst false 1 t1) (ob:=[QM cx (Qs cx.P 49 0) 22 0 false [(1,.d (.fn (.func 50) [] [])),(5,.own 5 0),(8,.d (.lst false 1 a0)),(9,.d (I ((a0).length:Int))),(10,.d (I 0))] [(5,.row 0 1 [])] (.exit 0) [(5,.own 5 0)] [(5,.row 0 1 t1)]]) (by kernel_rfl) ⟨(Qu XZ h1),trivial⟩
def Zq (n:Nat) (a0 a1:Int) (a2:List D):Option (Int) :=
 (Wd n a0 1 64).bind fun t1 =>
 (Wd n a1 1 64).bind fun t2 =>
 (Ww n ([I t1,I t2])).bind fun t3 =>
 if t3=0 then
  if Qb (a0 * a1) then
  if ((a2).length:Int)=(a0 * a1) then
   (VP n a2).bind fun t7 =>
   (Ww n t7).bind fun t8 =>
   some t8
  else
  some 2
  else none
 else
 some t3
theorem QL {n:Nat} {a0 a1:Int} {a2:List D} {r:Int} (h:Zq n a0 a1 a2=some r):Computes cx 23 [.agg [I a0,I a1,.lst false 1 a2]] (I r):=by
 unfold Zq at h
 obtain ⟨t1,h1,h⟩:=Qe h
 obtain ⟨t2,h2,h⟩:=Qe h
 obtain ⟨t3,h3,h⟩:=Qe h
 by_cases h4:t3=0
 ·replace h:=Qj h h4
  obtain ⟨h5,h⟩:=Qf h
  by_cases h6:((a2).length:Int)=(a0 * a1)
  ·replace h:=Qj h h6
   obtain ⟨t7,h7,h⟩:=Qe h
   obtain ⟨t8,h8,h⟩:=Qe h
   replace h:=Option.some.inj h
   subst h
   exact run (n:=100) (f:=23) (args:=[.agg [I a0,I a1,.lst false 1 a2]]) (orc:=[.ret (I t1),.ret (I t2),.ret (I t3),.br false,.br false,.ret (.lst false 1 t7),.ret (I t8)]) (r:=I t8) (ob:=[Computes cx 44 [.lst false 1 t7] (I t8),Computes cx 49 [.lst false 1 a2,.fn (.func 50) [] []] (.lst false 1 t7),(((a2).length:Int) != (a0 * a1))=false,Qb (a0 * a1),(t3 != 0)=false,Computes cx 44 [.lst true 1 [I t1,I t2]] (I t3),Computes cx 45 [I a1,I 1,I 64] (I t2),Computes cx 45 [I a0,I 1,I 64] (I t1)]) (by kernel_rfl) ⟨(ZA h8),(zW h7),(nef h6),h5,(nef h4),((ZA h3).le (.cons (.full _ _ _) (.nil)) (.refl _)),(QF h2),(QF h1),trivial⟩
  ·replace h:=Qk h h6
   replace h:=Option.some.inj h
   subst h
   exact run (n:=100) (f:=23) (args:=[.agg [I a0,I a1,.lst false 1 a2]]) (orc:=[.ret (I t1),.ret (I t2),.ret (I t3),.br false,.br true]) (r:=I 2) (ob:=[(((a2).length:Int) != (a0 * a1))=true,Qb (a0 * a1),(t3 != 0)=false,Computes cx 44 [.lst true 1 [I t1,I t2]] (I t3),Computes cx 45 [I a1,I 1,I 64] (I t2),Computes cx 45 [I a0,I 1,I 64] (I t1)]) (by kernel_rfl) ⟨(net h6),h5,(nef h4),((ZA h3).le (.cons (.full _ _ _) (.nil)) (.refl _)),(QF h2),(QF h1),trivial⟩
 ·replace h:=Qk h h4
  replace h:=Option.some.inj h
  subst h
  exact run (n:=100) (f:=23) (args:=[.agg [I a0,I a1,.lst false 1 a2]]) (orc:=[.ret (I t1),.ret (I t2),.ret (I t3),.br true]) (r:=I t3) (ob:=[(t3 != 0)=true,Computes cx 44 [.lst true 1 [I t1,I t2]] (I t3),Computes cx 45 [I a1,I 1,I 64] (I t2),Computes cx 45 [I a0,I 1,I 64] (I t1)]) (by kernel_rfl) ⟨(net h4),((ZA h3).le (.cons (.full _ _ _) (.nil)) (.refl _)),(QF h2),(QF h1),trivial⟩
def WH (n:Nat) (a0:Nat):Option (Bool) :=
 some ((FloatKind.format .f32).order a0 0 == some .lt)
theorem YC {n:Nat} {a0:Nat} {r:Bool} (h:WH n a0=some r):Computes cx 76 [.v (.float .f32 a0)] (B r):=by
 unfold WH at h
 replace h:=Option.some.inj h
 subst h
 exact run (n:=100) (f:=76) (args:=[.v (.float .f32 a0)]) (orc:=[]) (r:=B ((FloatKind.format .f32).order a0 0 == some .lt)) (ob:=[]) (by kernel_rfl) trivial
def Zc (n:Nat) (a0:List D) (sa:(Int)):Option (((Int))⊕((Int)⊕(Unit))) :=
 if sa < ((a0).length:Int) then
  (el Vq a0 sa).bind fun ta2 =>
  (WH n ta2).bind fun ta3 =>
  if ta3=true then
   some (.inr (.inl sa))
  else
  if Qb (sa+1) then
  some (.inl (sa+1))
  else none
 else
 some (.inr (.inr ()))
noncomputable def JE (a0:List D) (sa:(Int)):List (Nat×AV):=[(0,.d (.lst false 1 a0)),(1,.d (.fn (.func 76) [] [])),(7,.d (I ((a0).length:Int))),(8,.d (I sa))]
noncomputable def JJ (a0:List D) (sa:(Int)):List (Nat×Blk):=[]
noncomputable def JA (a0:List D) (e:(Int)⊕(Unit)):Ex:=match e with
 | (.inl e)=>.ret
 | (.inr e)=>(.exit 0)
noncomputable def Jg (a0:List D) (e:(Int)⊕(Unit)):List (Nat×AV):=match e with
 | (.inl e)=>[(4,.d (I e))]
 | (.inr e)=>[]
noncomputable def Ji (a0:List D) (e:(Int)⊕(Unit)):List (Nat×Blk):=match e with
 | (.inl e)=>[]
 | (.inr e)=>[]
theorem Yh {n:Nat} {a0:List D} (sa:(Int)) (r) (h:Zc n a0 sa=some r):Rd cx (Qs cx.P 94 0) 19 0 false (JE a0) (JJ a0) (JA a0) (Jg a0) (Ji a0) sa r:=by
 unfold Zc at h
 by_cases ha1:sa < ((a0).length:Int)
 ·replace h:=Qj h ha1
  obtain ⟨ta2,ha2,h⟩:=Qe h
  obtain ⟨ta3,ha3,h⟩:=Qe h
  by_cases ha4:ta3=true
  ·replace h:=Qj h ha4
   replace h:=Option.some.inj h
   subst h
   exact ⟨⟨100,4,[.br true,.el (.v (.float .f32 ta2)),.ret (B ta3),.br true],[],[4],[],Qg (ob:=[ta3=true,Computes cx 76 [.v (.float .f32 ta2)] (B ta3),(0:Int)≤sa,nth (a0) (Int.toNat sa)=some (.v (.float .f32 ta2)),(decide (sa < ((a0).length:Int)))=true]) (by kernel_rfl) ⟨ha4,(YC ha3),(Qp Qr ha2).1,(Qp Qr ha2).2,(decide_eq_true ha1),trivial⟩⟩,nofun⟩
  ·replace h:=Qk h ha4
   obtain ⟨ha5,h⟩:=Qf h
   replace h:=Option.some.inj h
   subst h
   exact ⟨100,4,[.br true,.el (.v (.float .f32 ta2)),.ret (B ta3),.br false],[],[0,1,7,8],[],Qg (ob:=[Qb (sa+1),ta3=false,Computes cx 76 [.v (.float .f32 ta2)] (B ta3),(0:Int)≤sa,nth (a0) (Int.toNat sa)=some (.v (.float .f32 ta2)),(decide (sa < ((a0).length:Int)))=true]) (by kernel_rfl) ⟨ha5,(QJ ha4),(YC ha3),(Qp Qr ha2).1,(Qp Qr ha2).2,(decide_eq_true ha1),trivial⟩⟩
 ·replace h:=Qk h ha1
  replace h:=Option.some.inj h
  subst h
  exact ⟨⟨100,4,[.br false],[],[],[],Qg (ob:=[(decide (sa < ((a0).length:Int)))=false]) (by kernel_rfl) ⟨(decide_eq_false ha1),trivial⟩⟩,nofun⟩
def WP (n:Nat) (a0:List D):Option (Int) :=
 (Qz (Zc n a0) n 0).bind fun t1=>match t1 with
  | (.inl t1)=>(
   some t1)
  | (.inr t1)=>(
   some (-1))
theorem G5 {n:Nat} {a0:List D} {r:Int} (h:WP n a0=some r):Computes cx 94 [.lst false 1 a0,.fn (.func 76) [] []] (I r):=by
 unfold WP at h
 obtain ⟨t1,h1,h⟩:=Qe h
 rcases t1 with t1 | t1
 ·replace h:=Option.some.inj h
  subst h
  exact run (n:=100) (f:=94) (args:=[.lst false 1 a0,.fn (.func 76) [] []]) (orc:=[.lp [] [0,1,7,8] [] .ret [(4,.d (I t1))] [] 26]) (r:=I t1) (ob:=[QM cx (Qs cx.P 94 0) 19 0 false [(0,.d (.lst false 1 a0)),(1,.d (.fn (.func 76) [] [])),(7,.d (I ((a0).length:Int))),(8,.d (I 0))] [] .ret [(4,.d (I t1))] []]) (by kernel_rfl) ⟨(Qu Yh h1),trivial⟩
 ·replace h:=Option.some.inj h
  subst h
  exact run (n:=100) (f:=94) (args:=[.lst false 1 a0,.fn (.func 76) [] []]) (orc:=[.lp [] [0,1,7,8] [] (.exit 0) [] [] 26]) (r:=I (-1)) (ob:=[QM cx (Qs cx.P 94 0) 19 0 false [(0,.d (.lst false 1 a0)),(1,.d (.fn (.func 76) [] [])),(7,.d (I ((a0).length:Int))),(8,.d (I 0))] [] (.exit 0) [] []]) (by kernel_rfl) ⟨(Qu Yh h1),trivial⟩
def ZK (n:Nat) (a0:List D):Option (Bool) :=
 (WP n a0).bind fun t1 =>
 some (decide (t1 ≥ 0))
theorem Jw {n:Nat} {a0:List D} {r:Bool} (h:ZK n a0=some r):Computes cx 75 [.lst false 1 a0,.fn (.func 76) [] []] (B r):=by
 unfold ZK at h
 obtain ⟨t1,h1,h⟩:=Qe h
 replace h:=Option.some.inj h
 subst h
 exact run (n:=100) (f:=75) (args:=[.lst false 1 a0,.fn (.func 76) [] []]) (orc:=[.ret (I t1)]) (r:=B (decide (t1 ≥ 0))) (ob:=[Computes cx 94 [.lst false 1 a0,.fn (.func 76) [] []] (I t1)]) (by kernel_rfl) ⟨(G5 h1),trivial⟩
def Ws (n:Nat) (a0:Bool) (a1:Int):Option (Int) :=
 if a0=true then
  some a1
 else
 some 0
theorem Yw {n:Nat} {a0:Bool} {a1:Int} {r:Int} (h:Ws n a0 a1=some r):Computes cx 40 [B a0,I a1] (I r):=by
 unfold Ws at h
 by_cases h1:a0=true
 ·replace h:=Qj h h1
  replace h:=Option.some.inj h
  subst h
  exact run (n:=100) (f:=40) (args:=[B a0,I a1]) (orc:=[.br true]) (r:=I a1) (ob:=[a0=true]) (by kernel_rfl) ⟨h1,trivial⟩
 ·replace h:=Qk h h1
  replace h:=Option.some.inj h
  subst h
  exact run (n:=100) (f:=40) (args:=[B a0,I a1]) (orc:=[.br false]) (r:=I 0) (ob:=[a0=false]) (by kernel_rfl) ⟨(QJ h1),trivial⟩
def W5 (n:Nat) (a0:List D) (sa:(Int)):Option (((Int))⊕((Int)⊕(Unit))) :=
 if sa < ((a0).length:Int) then
  (el un_i a0 sa).bind fun ta2 =>
  if ta2=0 then
   if Qb (sa+1) then
   some (.inl (sa+1))
   else none
  else
  some (.inr (.inl ta2))
 else
 some (.inr (.inr ()))
noncomputable def ws (a0:List D) (sa:(Int)):List (Nat×AV):=[(5,.d (.lst false 1 a0)),(6,.d (I ((a0).length:Int))),(7,.d (I sa))]
noncomputable def wx (a0:List D) (sa:(Int)):List (Nat×Blk):=[]
noncomputable def wl (a0:List D) (e:(Int)⊕(Unit)):Ex:=match e with
 | (.inl e)=>.ret
 | (.inr e)=>(.exit 0)
noncomputable def qR (a0:List D) (e:(Int)⊕(Unit)):List (Nat×AV):=match e with
 | (.inl e)=>[(2,.d (I e))]
 | (.inr e)=>[]
noncomputable def qV (a0:List D) (e:(Int)⊕(Unit)):List (Nat×Blk):=match e with
 | (.inl e)=>[]
 | (.inr e)=>[]
theorem JI {n:Nat} {a0:List D} (sa:(Int)) (r) (h:W5 n a0 sa=some r):Rd cx (Qs cx.P 36 0) 15 0 false (ws a0) (wx a0) (wl a0) (qR a0) (qV a0) sa r:=by
 unfold W5 at h
 by_cases ha1:sa < ((a0).length:Int)
 ·replace h:=Qj h ha1
  obtain ⟨ta2,ha2,h⟩:=Qe h
  by_cases ha3:ta2=0
  ·replace h:=Qj h ha3
   obtain ⟨ha4,h⟩:=Qf h
   replace h:=Option.some.inj h
   subst h
   exact ⟨100,4,[.br true,.el (I ta2),.br false],[],[5,6,7],[],Qg (ob:=[Qb (sa+1),(ta2 != 0)=false,(0:Int)≤sa,nth (a0) (Int.toNat sa)=some (I ta2),(decide (sa < ((a0).length:Int)))=true]) (by kernel_rfl) ⟨ha4,(nef ha3),(Qp QQ ha2).1,(Qp QQ ha2).2,(decide_eq_true ha1),trivial⟩⟩
  ·replace h:=Qk h ha3
   replace h:=Option.some.inj h
   subst h
   exact ⟨⟨100,4,[.br true,.el (I ta2),.br true],[],[2],[],Qg (ob:=[(ta2 != 0)=true,(0:Int)≤sa,nth (a0) (Int.toNat sa)=some (I ta2),(decide (sa < ((a0).length:Int)))=true]) (by kernel_rfl) ⟨(net ha3),(Qp QQ ha2).1,(Qp QQ ha2).2,(decide_eq_true ha1),trivial⟩⟩,nofun⟩
 ·replace h:=Qk h ha1
  replace h:=Option.some.inj h
  subst h
  exact ⟨⟨100,4,[.br false],[],[],[],Qg (ob:=[(decide (sa < ((a0).length:Int)))=false]) (by kernel_rfl) ⟨(decide_eq_false ha1),trivial⟩⟩,nofun⟩
def Zk (n:Nat) (a0:List D):Option (Int) :=
 (Qz (W5 n a0) n 0).bind fun t1=>match t1 with
  | (.inl t1)=>(
   some t1)
  | (.inr t1)=>(
   some 0)
theorem Z7 {n:Nat} {a0:List D} {r:Int} (h:Zk n a0=some r):Computes cx 36 [.lst false 1 a0] (I r):=by
 unfold Zk at h
 obtain ⟨t1,h1,h⟩:=Qe h
 rcases t1 with t1 | t1
 ·replace h:=Option.some.inj h
  subst h
  exact run (n:=100) (f:=36) (args:=[.lst false 1 a0]) (orc:=[.lp [] [5,6,7] [] .ret [(2,.d (I t1))] [] 23]) (r:=I t1) (ob:=[QM cx (Qs cx.P 36 0) 15 0 false [(5,.d (.lst false 1 a0)),(6,.d (I ((a0).length:Int))),(7,.d (I 0))] [] .ret [(2,.d (I t1))] []]) (by kernel_rfl) ⟨(Qu JI h1),trivial⟩
 ·replace h:=Option.some.inj h
  subst h
  exact run (n:=100) (f:=36) (args:=[.lst false 1 a0]) (orc:=[.lp [] [5,6,7] [] (.exit 0) [] [] 23]) (r:=I 0) (ob:=[QM cx (Qs cx.P 36 0) 15 0 false [(5,.d (.lst false 1 a0)),(6,.d (I ((a0).length:Int))),(7,.d (I 0))] [] (.exit 0) [] []]) (by kernel_rfl) ⟨(Qu JI h1),trivial⟩
def ZI (n:Nat) (a0 a1:Int) (a2:List D):Option (Int) :=
 (Zq n a0 a1 a2).bind fun t1 =>
 (ZK n a2).bind fun t2 =>
 (Ws n t2 3).bind fun t3 =>
 (Zk n ([I t1,I t3])).bind fun t4 =>
 some t4
theorem WA {n:Nat} {a0 a1:Int} {a2:List D} {r:Int} (h:ZI n a0 a1 a2=some r):Computes cx 57 [.agg [I a0,I a1,.lst false 1 a2]] (I r):=by
 unfold ZI at h
 obtain ⟨t1,h1,h⟩:=Qe h
 obtain ⟨t2,h2,h⟩:=Qe h
 obtain ⟨t3,h3,h⟩:=Qe h
 obtain ⟨t4,h4,h⟩:=Qe h
 replace h:=Option.some.inj h
 subst h
 exact run (n:=100) (f:=57) (args:=[.agg [I a0,I a1,.lst false 1 a2]]) (orc:=[.ret (I t1),.ret (B t2),.ret (I t3),.ret (I t4)]) (r:=I t4) (ob:=[Computes cx 36 [.lst true 1 [I t1,I t3]] (I t4),Computes cx 40 [B t2,I 3] (I t3),Computes cx 75 [.lst false 1 a2,.fn (.func 76) [] []] (B t2),Computes cx 23 [.agg [I a0,I a1,.lst false 1 a2]] (I t1)]) (by kernel_rfl) ⟨((Z7 h4).le (.cons (.full _ _ _) (.nil)) (.refl _)),(Yw h3),(Jw h2),(QL h1),trivial⟩
def ZX (n:Nat) (a0 a1:Int) (a2:List D) (a3 a4:Int) (a5:List D):Option (Int) :=
 (ZI n a0 a1 a2).bind fun t1 =>
 (ZI n a3 a4 a5).bind fun t2 =>
 (Zk n ([I t1,I t2])).bind fun t3 =>
 if t3=0 then
  (Ws n (!((a0 == a3) && ((a1 == a4) && true))) 2).bind fun t5 =>
  some t5
 else
 some t3
theorem VX {n:Nat} {a0 a1:Int} {a2:List D} {a3 a4:Int} {a5:List D} {r:Int} (h:ZX n a0 a1 a2 a3 a4 a5=some r):Computes cx 37 [.agg [I a0,I a1,.lst false 1 a2],.agg [I a3,I a4,.lst false 1 a5]] (I r):=by
 unfold ZX at h
 obtain ⟨t1,h1,h⟩:=Qe h
 obtain ⟨t2,h2,h⟩:=Qe h
 obtain ⟨t3,h3,h⟩:=Qe h
 by_cases h4:t3=0
 ·replace h:=Qj h h4
  obtain ⟨t5,h5,h⟩:=Qe h
  replace h:=Option.some.inj h
  subst h
  exact run (n:=100) (f:=37) (args:=[.agg [I a0,I a1,.lst false 1 a2],.agg [I a3,I a4,.lst false 1 a5]]) (orc:=[.ret (I t1),.ret (I t2),.ret (I t3),.br false,.ret (I t5)]) (r:=I t5) (ob:=[Computes cx 40 [B (!((a0 == a3) && ((a1 == a4) && true))),I 2] (I t5),(t3 != 0)=false,Computes cx 36 [.lst true 1 [I t1,I t2]] (I t3),Computes cx 57 [.agg [I a3,I a4,.lst false 1 a5]] (I t2),Computes cx 57 [.agg [I a0,I a1,.lst false 1 a2]] (I t1)]) (by kernel_rfl) ⟨(Yw h5),(nef h4),((Z7 h3).le (.cons (.full _ _ _) (.nil)) (.refl _)),(WA h2),(WA h1),trivial⟩
 ·replace h:=Qk h h4
  replace h:=Option.some.inj h
  subst h
  exact run (n:=100) (f:=37) (args:=[.agg [I a0,I a1,.lst false 1 a2],.agg [I a3,I a4,.lst false 1 a5]]) (orc:=[.ret (I t1),.ret (I t2),.ret (I t3),.br true]) (r:=I t3) (ob:=[(t3 != 0)=true,Computes cx 36 [.lst true 1 [I t1,I t2]] (I t3),Computes cx 57 [.agg [I a3,I a4,.lst false 1 a5]] (I t2),Computes cx 57 [.agg [I a0,I a1,.lst false 1 a2]] (I t1)]) (by kernel_rfl) ⟨(net h4),((Z7 h3).le (.cons (.full _ _ _) (.nil)) (.refl _)),(WA h2),(WA h1),trivial⟩
def Kw (n:Nat)  : Option (Int) :=
 some 3
theorem kG {n:Nat}  {r:Int} (h:Kw n =some r):Computes cx 40 [B true,I 3] (I r):=by
 unfold Kw at h
 replace h:=Option.some.inj h
 subst h
 exact run (n:=100) (f:=40) (args:=[B true,I 3]) (orc:=[.no]) (r:=I 3) (ob:=[]) (by kernel_rfl) trivial
def Wf (n:Nat) (a0 a1 a2:Int):Option (Int) :=
 if a0 < a1 then
  (Kw n).bind fun t2 =>
  some t2
 else
 (Ws n (decide (a0 > a2)) 3).bind fun t2 =>
 some t2
theorem Yv {n:Nat} {a0 a1 a2:Int} {r:Int} (h:Wf n a0 a1 a2=some r):Computes cx 66 [I a0,I a1,I a2] (I r):=by
 unfold Wf at h
 by_cases h1:a0 < a1
 ·replace h:=Qj h h1
  obtain ⟨t2,h2,h⟩:=Qe h
  replace h:=Option.some.inj h
  subst h
  exact run (n:=100) (f:=66) (args:=[I a0,I a1,I a2]) (orc:=[.br true,.ret (I t2)]) (r:=I t2) (ob:=[Computes cx 40 [B true,I 3] (I t2),(decide (a0 < a1))=true]) (by kernel_rfl) ⟨(kG h2),(decide_eq_true h1),trivial⟩
 ·replace h:=Qk h h1
  obtain ⟨t2,h2,h⟩:=Qe h
  replace h:=Option.some.inj h
  subst h
  exact run (n:=100) (f:=66) (args:=[I a0,I a1,I a2]) (orc:=[.br false,.ret (I t2)]) (r:=I t2) (ob:=[Computes cx 40 [B (decide (a0 > a2)),I 3] (I t2),(decide (a0 < a1))=false]) (by kernel_rfl) ⟨(Yw h2),(decide_eq_false h1),trivial⟩
def ZG (n:Nat) (a0 a1:Int) (a2:List D) (a3 a4:Int) (a5:List D) (a6 a7:Int):Option (Int) :=
 (ZX n a0 a1 a2 a3 a4 a5).bind fun t1 =>
 (Wf n a6 0 8).bind fun t2 =>
 (Wf n a7 1 4096).bind fun t3 =>
 (Zk n ([I t1,I t2,I t3])).bind fun t4 =>
 some t4
theorem V7 {n:Nat} {a0 a1:Int} {a2:List D} {a3 a4:Int} {a5:List D} {a6 a7:Int} {r:Int} (h:ZG n a0 a1 a2 a3 a4 a5 a6 a7=some r):Computes cx 41 [.agg [I a0,I a1,.lst false 1 a2],.agg [I a3,I a4,.lst false 1 a5],I a6,I a7] (I r):=by
 unfold ZG at h
 obtain ⟨t1,h1,h⟩:=Qe h
 obtain ⟨t2,h2,h⟩:=Qe h
 obtain ⟨t3,h3,h⟩:=Qe h
 obtain ⟨t4,h4,h⟩:=Qe h
 replace h:=Option.some.inj h
 subst h
 exact run (n:=100) (f:=41) (args:=[.agg [I a0,I a1,.lst false 1 a2],.agg [I a3,I a4,.lst false 1 a5],I a6,I a7]) (orc:=[.ret (I t1),.ret (I t2),.ret (I t3),.ret (I t4)]) (r:=I t4) (ob:=[Computes cx 36 [.lst true 1 [I t1,I t2,I t3]] (I t4),Computes cx 66 [I a7,I 1,I 4096] (I t3),Computes cx 66 [I a6,I 0,I 8] (I t2),Computes cx 37 [.agg [I a0,I a1,.lst false 1 a2],.agg [I a3,I a4,.lst false 1 a5]] (I t1)]) (by kernel_rfl) ⟨((Z7 h4).le (.cons (.full _ _ _) (.nil)) (.refl _)),(Yv h3),(Yv h2),(VX h1),trivial⟩
def ZO (n:Nat) (a0:Nat):Option (Int) :=
 if (fop .mul .f32 1098907648 a0).isSome=true then
 if (f2i .f32 ((fop .mul .f32 1098907648 a0).getD 0) .i64).isSome=true then
 some ((f2i .f32 ((fop .mul .f32 1098907648 a0).getD 0) .i64).getD 0)
 else none
 else none
theorem QX {n:Nat} {a0:Nat} {r:Int} (h:ZO n a0=some r):Computes cx 60 [.v (.float .f32 a0)] (I r):=by
 unfold ZO at h
 obtain ⟨h1,h⟩:=Qf h
 obtain ⟨h2,h⟩:=Qf h
 replace h:=Option.some.inj h
 subst h
 exact run (n:=100) (f:=60) (args:=[.v (.float .f32 a0)]) (orc:=[]) (r:=I ((f2i .f32 ((fop .mul .f32 1098907648 a0).getD 0) .i64).getD 0)) (ob:=[(f2i .f32 ((fop .mul .f32 1098907648 a0).getD 0) .i64).isSome=true,(fop .mul .f32 1098907648 a0).isSome=true]) (by kernel_rfl) ⟨h2,h1,trivial⟩
def QE (n:Nat) (a0 a1 a2 a3:Int):Option (Int×Int) :=
 if Qb (a0+a2) then
 if Qb (a1+a3) then
 some ((a0+a2),(a1+a3))
 else none
 else none
theorem Qq {n:Nat} {a0 a1 a2 a3:Int} {r:Int×Int} (h:QE n a0 a1 a2 a3=some r):Computes cx 32 [.agg [I a0,I a1],.agg [I a2,I a3]] (.agg [I r.1,I r.2]):=by
 unfold QE at h
 obtain ⟨h1,h⟩:=Qf h
 obtain ⟨h2,h⟩:=Qf h
 replace h:=Option.some.inj h
 subst h
 exact run (n:=100) (f:=32) (args:=[.agg [I a0,I a1],.agg [I a2,I a3]]) (orc:=[]) (r:=.agg [I (a0+a2),I (a1+a3)]) (ob:=[Qb (a1+a3),Qb (a0+a2)]) (by kernel_rfl) ⟨h2,h1,trivial⟩
def WD (n:Nat) (a0 a1:Int) (a2:List D) (a3 a4:Int) (a5:List D) (a6 a7:Int) (sa:(Int×Int×Int)):Option (((Int×Int×Int))⊕((Int×Int))) :=
 if sa.1 < ((a2).length:Int) then
  (el Vq a2 sa.1).bind fun ta2 =>
  if a0≠0 then
  if Qb (Int.tdiv sa.1 a0) then
  (ZO n ta2).bind fun ta5 =>
  (QE n (Int.tmod sa.1 a0) (Int.tdiv sa.1 a0) a6 a7).bind fun ta6 =>
  if ta6.1 < 0 then
   if Qb (sa.1+1) then
   some (.inl ((sa.1+1),sa.2.1,sa.2.2))
   else none
  else
  if ta6.1 ≥ a3 then
   if Qb (sa.1+1) then
   some (.inl ((sa.1+1),sa.2.1,sa.2.2))
   else none
  else
  if ta6.2 < 0 then
   if Qb (sa.1+1) then
   some (.inl ((sa.1+1),sa.2.1,sa.2.2))
   else none
  else
  if ta6.2 ≥ a4 then
   if Qb (sa.1+1) then
   some (.inl ((sa.1+1),sa.2.1,sa.2.2))
   else none
  else
  if Qb (ta6.2 * a3) then
  if Qb ((ta6.2 * a3)+ta6.1) then
  (el Vq a5 ((ta6.2 * a3)+ta6.1)).bind fun ta13 =>
  (ZO n ta13).bind fun ta14 =>
  if Qb (ta5 - ta14) then
  if Qb ((ta5 - ta14) * (ta5 - ta14)) then
  if Qb (sa.2.1+((ta5 - ta14) * (ta5 - ta14))) then
  if Qb (sa.2.2+1) then
  if Qb (sa.1+1) then
  some (.inl ((sa.1+1),(sa.2.1+((ta5 - ta14) * (ta5 - ta14))),(sa.2.2+1)))
  else none
  else none
  else none
  else none
  else none
  else none
  else none
  else none
  else none
 else
 some (.inr (sa.2.1,sa.2.2))
noncomputable def kY (a0 a1:Int) (a2:List D) (a3 a4:Int) (a5:List D) (a6 a7:Int) (sa:(Int×Int×Int)):List (Nat×AV):=[(0,.own 14 0),(1,.ptr 10 0 0 0 0),(6,.d (.lst false 1 a2)),(7,.d (I ((a2).length:Int))),(8,.d (I sa.1))]
noncomputable def ye (a0 a1:Int) (a2:List D) (a3 a4:Int) (a5:List D) (a6 a7:Int) (sa:(Int×Int×Int)):List (Nat×Blk):=[(0,.box (.d (.agg [I a0,I a1,.lst false 1 a2]))),(1,.box (.d (.agg [I a3,I a4,.lst false 1 a5]))),(2,.box (.d (.agg [I a6,I a7]))),(3,.box (.d (.agg [I 0,I 0,I 0,I 0]))),(6,.box (.d (.agg [I a6,I a7,I sa.2.1,I sa.2.2]))),(10,.box (.d (.agg [I a0,I a1,.lst false 1 a2]))),(14,.loop true [(15,.fn (.func 77) [] [.ptr 10 0 0 0 0]),(14,.d (.agg [I a0,I a1,.lst false 1 a2])),(13,.d (.agg [I a6,I a7,I 0,I 0])),(12,.d (.agg [I a6,I a7])),(7,.ptr 6 0 0 0 0),(6,.ptr 3 0 0 0 0),(5,.ptr 2 0 0 0 0),(4,.ptr 1 0 0 0 0),(3,.ptr 0 0 0 0 0),(2,.d (.agg [I a6,I a7])),(1,.d (.agg [I a3,I a4,.lst false 1 a5])),(0,.d (.agg [I a0,I a1,.lst false 1 a2]))] [16,17] (Qv cx.P 39 0).1 (Qv cx.P 39 0).2 70)]
noncomputable def kU (a0 a1:Int) (a2:List D) (a3 a4:Int) (a5:List D) (a6 a7:Int) (e:(Int×Int)):Ex:=(.exit 0)
noncomputable def wY (a0 a1:Int) (a2:List D) (a3 a4:Int) (a5:List D) (a6 a7:Int) (e:(Int×Int)):List (Nat×AV):=[]
noncomputable def ja (a0 a1:Int) (a2:List D) (a3 a4:Int) (a5:List D) (a6 a7:Int) (e:(Int×Int)):List (Nat×Blk):=[(0,.box (.d (.agg [I a0,I a1,.lst false 1 a2]))),(1,.box (.d (.agg [I a3,I a4,.lst false 1 a5]))),(2,.box (.d (.agg [I a6,I a7]))),(3,.box (.d (.agg [I 0,I 0,I 0,I 0]))),(6,.box (.d (.agg [I a6,I a7,I e.1,I e.2]))),(10,.box (.d (.agg [I a0,I a1,.lst false 1 a2]))),(14,.loop true [(15,.fn (.func 77) [] [.ptr 10 0 0 0 0]),(14,.d (.agg [I a0,I a1,.lst false 1 a2])),(13,.d (.agg [I a6,I a7,I 0,I 0])),(12,.d (.agg [I a6,I a7])),(7,.ptr 6 0 0 0 0),(6,.ptr 3 0 0 0 0),(5,.ptr 2 0 0 0 0),(4,.ptr 1 0 0 0 0),(3,.ptr 0 0 0 0 0),(2,.d (.agg [I a6,I a7])),(1,.d (.agg [I a3,I a4,.lst false 1 a5])),(0,.d (.agg [I a0,I a1,.lst false 1 a2]))] [16,17] (Qv cx.P 39 0).1 (Qv cx.P 39 0).2 70)]
theorem kZ {n:Nat} {a0 a1:Int} {a2:List D} {a3 a4:Int} {a5:List D} {a6 a7:Int} (sa:(Int×Int×Int)) (r) (h:WD n a0 a1 a2 a3 a4 a5 a6 a7 sa=some r):Rd cx (Qs cx.P 77 0) 28 15 false (kY a0 a1 a2 a3 a4 a5 a6 a7) (ye a0 a1 a2 a3 a4 a5 a6 a7) (kU a0 a1 a2 a3 a4 a5 a6 a7) (wY a0 a1 a2 a3 a4 a5 a6 a7) (ja a0 a1 a2 a3 a4 a5 a6 a7) sa r:=by
 unfold WD at h
 by_cases ha1:sa.1 < ((a2).length:Int)
 ·replace h:=Qj h ha1
  obtain ⟨ta2,ha2,h⟩:=Qe h
  obtain ⟨ha3,h⟩:=Qf h
  obtain ⟨ha4,h⟩:=Qf h
  obtain ⟨ta5,ha5,h⟩:=Qe h
  obtain ⟨ta6,ha6,h⟩:=Qe h
  by_cases ha7:ta6.1 < 0
  ·replace h:=Qj h ha7
   obtain ⟨ha8,h⟩:=Qf h
   replace h:=Option.some.inj h
   subst h
   exact ⟨100,19,[.br true,.el (.v (.float .f32 ta2)),.ret (I ta5),.ret (.agg [I ta6.1,I ta6.2]),.br true,.no,.no,.no,.no],[],[0,1,6,7,8],[0,1,2,3,6,10,14],Qg (ob:=[Qb (sa.1+1),(decide (ta6.1 < 0))=true,Computes cx 32 [.agg [I (Int.tmod sa.1 a0),I (Int.tdiv sa.1 a0)],.agg [I a6,I a7]] (.agg [I ta6.1,I ta6.2]),Computes cx 60 [.v (.float .f32 ta2)] (I ta5),a0≠0,Qb (Int.tdiv sa.1 a0),a0≠0,(0:Int)≤sa.1,nth (a2) (Int.toNat sa.1)=some (.v (.float .f32 ta2)),(decide (sa.1 < ((a2).length:Int)))=true]) (by kernel_rfl) ⟨ha8,(decide_eq_true ha7),(Qq ha6),(QX ha5),ha3,ha4,ha3,(Qp Qr ha2).1,(Qp Qr ha2).2,(decide_eq_true ha1),trivial⟩⟩
  ·replace h:=Qk h ha7
   by_cases ha8:ta6.1 ≥ a3
   ·replace h:=Qj h ha8
    obtain ⟨ha9,h⟩:=Qf h
    replace h:=Option.some.inj h
    subst h
    exact ⟨100,19,[.br true,.el (.v (.float .f32 ta2)),.ret (I ta5),.ret (.agg [I ta6.1,I ta6.2]),.br false,.br true,.no,.no,.no],[],[0,1,6,7,8],[0,1,2,3,6,10,14],Qg (ob:=[Qb (sa.1+1),(decide (ta6.1 ≥ a3))=true,(decide (ta6.1 < 0))=false,Computes cx 32 [.agg [I (Int.tmod sa.1 a0),I (Int.tdiv sa.1 a0)],.agg [I a6,I a7]] (.agg [I ta6.1,I ta6.2]),Computes cx 60 [.v (.float .f32 ta2)] (I ta5),a0≠0,Qb (Int.tdiv sa.1 a0),a0≠0,(0:Int)≤sa.1,nth (a2) (Int.toNat sa.1)=some (.v (.float .f32 ta2)),(decide (sa.1 < ((a2).length:Int)))=true]) (by kernel_rfl) ⟨ha9,(decide_eq_true ha8),(decide_eq_false ha7),(Qq ha6),(QX ha5),ha3,ha4,ha3,(Qp Qr ha2).1,(Qp Qr ha2).2,(decide_eq_true ha1),trivial⟩⟩
   ·replace h:=Qk h ha8
    by_cases ha9:ta6.2 < 0
    ·replace h:=Qj h ha9
     obtain ⟨ha10,h⟩:=Qf h
     replace h:=Option.some.inj h
     subst h
     exact ⟨100,19,[.br true,.el (.v (.float .f32 ta2)),.ret (I ta5),.ret (.agg [I ta6.1,I ta6.2]),.br false,.br false,.br true,.no,.no],[],[0,1,6,7,8],[0,1,2,3,6,10,14],Qg (ob:=[Qb (sa.1+1),(decide (ta6.2 < 0))=true,(decide (ta6.1 ≥ a3))=false,(decide (ta6.1 < 0))=false,Computes cx 32 [.agg [I (Int.tmod sa.1 a0),I (Int.tdiv sa.1 a0)],.agg [I a6,I a7]] (.agg [I ta6.1,I ta6.2]),Computes cx 60 [.v (.float .f32 ta2)] (I ta5),a0≠0,Qb (Int.tdiv sa.1 a0),a0≠0,(0:Int)≤sa.1,nth (a2) (Int.toNat sa.1)=some (.v (.float .f32 ta2)),(decide (sa.1 < ((a2).length:Int)))=true]) (by kernel_rfl) ⟨ha10,(decide_eq_true ha9),(decide_eq_false ha8),(decide_eq_false ha7),(Qq ha6),(QX ha5),ha3,ha4,ha3,(Qp Qr ha2).1,(Qp Qr ha2).2,(decide_eq_true ha1),trivial⟩⟩
    ·replace h:=Qk h ha9
     by_cases ha10:ta6.2 ≥ a4
     ·replace h:=Qj h ha10
      obtain ⟨ha11,h⟩:=Qf h
      replace h:=Option.some.inj h
      subst h
      exact ⟨100,19,[.br true,.el (.v (.float .f32 ta2)),.ret (I ta5),.ret (.agg [I ta6.1,I ta6.2]),.br false,.br false,.br false,.br true,.no],[],[0,1,6,7,8],[0,1,2,3,6,10,14],Qg (ob:=[Qb (sa.1+1),(decide (ta6.2 ≥ a4))=true,(decide (ta6.2 < 0))=false,(decide (ta6.1 ≥ a3))=false,(decide (ta6.1 < 0))=false,Computes cx 32 [.agg [I (Int.tmod sa.1 a0),I (Int.tdiv sa.1 a0)],.agg [I a6,I a7]] (.agg [I ta6.1,I ta6.2]),Computes cx 60 [.v (.float .f32 ta2)] (I ta5),a0≠0,Qb (Int.tdiv sa.1 a0),a0≠0,(0:Int)≤sa.1,nth (a2) (Int.toNat sa.1)=some (.v (.float .f32 ta2)),(decide (sa.1 < ((a2).length:Int)))=true]) (by kernel_rfl) ⟨ha11,(decide_eq_true ha10),(decide_eq_false ha9),(decide_eq_false ha8),(decide_eq_false ha7),(Qq ha6),(QX ha5),ha3,ha4,ha3,(Qp Qr ha2).1,(Qp Qr ha2).2,(decide_eq_true ha1),trivial⟩⟩
     ·replace h:=Qk h ha10
      obtain ⟨ha11,h⟩:=Qf h
      obtain ⟨ha12,h⟩:=Qf h
      obtain ⟨ta13,ha13,h⟩:=Qe h
      obtain ⟨ta14,ha14,h⟩:=Qe h
      obtain ⟨ha15,h⟩:=Qf h
      obtain ⟨ha16,h⟩:=Qf h
      obtain ⟨ha17,h⟩:=Qf h
      obtain ⟨ha18,h⟩:=Qf h
      obtain ⟨ha19,h⟩:=Qf h
      replace h:=Option.some.inj h
      subst h
      exact ⟨100,19,[.br true,.el (.v (.float .f32 ta2)),.ret (I ta5),.ret (.agg [I ta6.1,I ta6.2]),.br false,.br false,.br false,.br false,.el (.v (.float .f32 ta13)),.ret (I ta14),.no],[],[0,1,6,7,8],[0,1,2,3,6,10,14],Qg (ob:=[Qb (sa.1+1),Qb (sa.2.2+1),Qb (sa.2.1+((ta5 - ta14) * (ta5 - ta14))),Qb ((ta5 - ta14) * (ta5 - ta14)),Qb (ta5 - ta14),Computes cx 60 [.v (.float .f32 ta13)] (I ta14),(0:Int)≤((ta6.2 * a3)+ta6.1),nth (a5) (Int.toNat ((ta6.2 * a3)+ta6.1))=some (.v (.float .f32 ta13)),Qb ((ta6.2 * a3)+ta6.1),Qb (ta6.2 * a3),(decide (ta6.2 ≥ a4))=false,(decide (ta6.2 < 0))=false,(decide (ta6.1 ≥ a3))=false,(decide (ta6.1 < 0))=false,Computes cx 32 [.agg [I (Int.tmod sa.1 a0),I (Int.tdiv sa.1 a0)],.agg [I a6,I a7]] (.agg [I ta6.1,I ta6.2]),Computes cx 60 [.v (.float .f32 ta2)] (I ta5),a0≠0,Qb (Int.tdiv sa.1 a0),a0≠0,(0:Int)≤sa.1,nth (a2) (Int.toNat sa.1)=some (.v (.float .f32 ta2)),(decide (sa.1 < ((a2).length:Int)))=true]) (by kernel_rfl) ⟨ha19,ha18,ha17,ha16,ha15,(QX ha14),(Qp Qr ha13).1,(Qp Qr ha13).2,ha12,ha11,(decide_eq_false ha10),(decide_eq_false ha9),(decide_eq_false ha8),(decide_eq_false ha7),(Qq ha6),(QX ha5),ha3,ha4,ha3,(Qp Qr ha2).1,(Qp Qr ha2).2,(decide_eq_true ha1),trivial⟩⟩
 ·replace h:=Qk h ha1
  replace h:=Option.some.inj h
  subst h
  exact ⟨⟨100,19,[.br false],[],[],[0,1,2,3,6,10,14],Qg (ob:=[(decide (sa.1 < ((a2).length:Int)))=false]) (by kernel_rfl) ⟨(decide_eq_false ha1),trivial⟩⟩,nofun⟩
def Yk (n:Nat) (a0 a1:Int) (a2:List D) (a3 a4:Int) (a5:List D) (a6 a7:Int):Option (Int×Int×Int×Int) :=
 (Qz (WD n a0 a1 a2 a3 a4 a5 a6 a7) n (0,0,0)).bind fun t1 =>
 some (a6,a7,t1.1,t1.2)
theorem G8 {n:Nat} {a0 a1:Int} {a2:List D} {a3 a4:Int} {a5:List D} {a6 a7:Int} {r:Int×Int×Int×Int} (h:Yk n a0 a1 a2 a3 a4 a5 a6 a7=some r):Computes cx 39 [.agg [I a0,I a1,.lst false 1 a2],.agg [I a3,I a4,.lst false 1 a5],.agg [I a6,I a7]] (.agg [I r.1,I r.2.1,I r.2.2.1,I r.2.2.2]):=by
 unfold Yk at h
 obtain ⟨t1,h1,h⟩:=Qe h
 replace h:=Option.some.inj h
 subst h
 exact run (n:=100) (f:=39) (args:=[.agg [I a0,I a1,.lst false 1 a2],.agg [I a3,I a4,.lst false 1 a5],.agg [I a6,I a7]]) (orc:=[.br true,.lp [] [0,1,6,7,8] [0,1,2,3,6,10,14] (.exit 0) [] [(0,.box (.d (.agg [I a0,I a1,.lst false 1 a2]))),(1,.box (.d (.agg [I a3,I a4,.lst false 1 a5]))),(2,.box (.d (.agg [I a6,I a7]))),(3,.box (.d (.agg [I 0,I 0,I 0,I 0]))),(6,.box (.d (.agg [I a6,I a7,I t1.1,I t1.2]))),(10,.box (.d (.agg [I a0,I a1,.lst false 1 a2]))),(14,.loop true [(15,.fn (.func 77) [] [.ptr 10 0 0 0 0]),(14,.d (.agg [I a0,I a1,.lst false 1 a2])),(13,.d (.agg [I a6,I a7,I 0,I 0])),(12,.d (.agg [I a6,I a7])),(7,.ptr 6 0 0 0 0),(6,.ptr 3 0 0 0 0),(5,.ptr 2 0 0 0 0),(4,.ptr 1 0 0 0 0),(3,.ptr 0 0 0 0 0),(2,.d (.agg [I a6,I a7])),(1,.d (.agg [I a3,I a4,.lst false 1 a5])),(0,.d (.agg [I a0,I a1,.lst false 1 a2]))] [16,17] (Qv cx.P 39 0).1 (Qv cx.P 39 0).2 70)] 111]) (r:=.agg [I a6,I a7,I t1.1,I t1.2]) (ob:=[QM cx (Qs cx.P 77 0) 28 15 false [(0,.own 14 0),(1,.ptr 10 0 0 0 0),(6,.d (.lst false 1 a2)),(7,.d (I ((a2).length:Int))),(8,.d (I 0))] [(0,.box (.d (.agg [I a0,I a1,.lst false 1 a2]))),(1,.box (.d (.agg [I a3,I a4,.lst false 1 a5]))),(2,.box (.d (.agg [I a6,I a7]))),(3,.box (.d (.agg [I 0,I 0,I 0,I 0]))),(6,.box (.d (.agg [I a6,I a7,I 0,I 0]))),(10,.box (.d (.agg [I a0,I a1,.lst false 1 a2]))),(14,.loop true [(15,.fn (.func 77) [] [.ptr 10 0 0 0 0]),(14,.d (.agg [I a0,I a1,.lst false 1 a2])),(13,.d (.agg [I a6,I a7,I 0,I 0])),(12,.d (.agg [I a6,I a7])),(7,.ptr 6 0 0 0 0),(6,.ptr 3 0 0 0 0),(5,.ptr 2 0 0 0 0),(4,.ptr 1 0 0 0 0),(3,.ptr 0 0 0 0 0),(2,.d (.agg [I a6,I a7])),(1,.d (.agg [I a3,I a4,.lst false 1 a5])),(0,.d (.agg [I a0,I a1,.lst false 1 a2]))] [16,17] (Qv cx.P 39 0).1 (Qv cx.P 39 0).2 70)] (.exit 0) [] [(0,.box (.d (.agg [I a0,I a1,.lst false 1 a2]))),(1,.box (.d (.agg [I a3,I a4,.lst false 1 a5]))),(2,.box (.d (.agg [I a6,I a7]))),(3,.box (.d (.agg [I 0,I 0,I 0,I 0]))),(6,.box (.d (.agg [I a6,I a7,I t1.1,I t1.2]))),(10,.box (.d (.agg [I a0,I a1,.lst false 1 a2]))),(14,.loop true [(15,.fn (.func 77) [] [.ptr 10 0 0 0 0]),(14,.d (.agg [I a0,I a1,.lst false 1 a2])),(13,.d (.agg [I a6,I a7,I 0,I 0])),(12,.d (.agg [I a6,I a7])),(7,.ptr 6 0 0 0 0),(6,.ptr 3 0 0 0 0),(5,.ptr 2 0 0 0 0),(4,.ptr 1 0 0 0 0),(3,.ptr 0 0 0 0 0),(2,.d (.agg [I a6,I a7])),(1,.d (.agg [I a3,I a4,.lst false 1 a5])),(0,.d (.agg [I a0,I a1,.lst false 1 a2]))] [16,17] (Qv cx.P 39 0).1 (Qv cx.P 39 0).2 70)]]) (by kernel_rfl) ⟨(Qu kZ h1),trivial⟩
def Zi (n:Nat) (a0 a1:Int) (a2:List D) (a3 a4:Int) (a5:List D) (a6 a7:Int) (sa:Int×List D) (sb:(Int×List D)):Option (((Int×List D))⊕((List D))) :=
 if sb.1 < ((2 * a6)+1) then
  if Qb (sb.1 - a6) then
  if Qb (sa.1 - a6) then
  (Yk n a0 a1 a2 a3 a4 a5 (sb.1 - a6) (sa.1 - a6)).bind fun tb4 =>
  if tb4.2.2.2 ≥ a7 then
   if ZZ 32 ((sb.2).length+1) then
   if Qb (sb.1+1) then
   some (.inl ((sb.1+1),(sb.2++([.agg [I tb4.1,I tb4.2.1,I tb4.2.2.1,I tb4.2.2.2]]:List D))))
   else none
   else none
  else
  if Qb (sb.1+1) then
  some (.inl ((sb.1+1),sb.2))
  else none
  else none
  else none
 else
 some (.inr sb.2)
noncomputable def Xj (a0 a1:Int) (a2:List D) (a3 a4:Int) (a5:List D) (a6 a7:Int) (sa:Int×List D) (sb:(Int×List D)):List (Nat×AV):=[(2,.d (I a6)),(3,.d (I a7)),(4,.ptr 0 0 0 0 0),(5,.ptr 1 0 0 0 0),(9,.own 8 0),(10,.d (I sa.1)),(15,.d (I ((2 * a6)+1))),(16,.d (I sa.1)),(21,.d (I ((2 * a6)+1))),(22,.d (I sb.1))]
noncomputable def Xq (a0 a1:Int) (a2:List D) (a3 a4:Int) (a5:List D) (a6 a7:Int) (sa:Int×List D) (sb:(Int×List D)):List (Nat×Blk):=[(0,.box (.d (.agg [I a0,I a1,.lst false 1 a2]))),(1,.box (.d (.agg [I a3,I a4,.lst false 1 a5]))),(8,.row 0 4 sb.2)]
noncomputable def Xe (a0 a1:Int) (a2:List D) (a3 a4:Int) (a5:List D) (a6 a7:Int) (sa:Int×List D) (e:(List D)):Ex:=(.exit 2)
noncomputable def Gz (a0 a1:Int) (a2:List D) (a3 a4:Int) (a5:List D) (a6 a7:Int) (sa:Int×List D) (e:(List D)):List (Nat×AV):=[(2,.d (I a6)),(3,.d (I a7)),(4,.ptr 0 0 0 0 0),(5,.ptr 1 0 0 0 0),(9,.own 8 0),(15,.d (I ((2 * a6)+1))),(16,.d (I sa.1))]
noncomputable def GC (a0 a1:Int) (a2:List D) (a3 a4:Int) (a5:List D) (a6 a7:Int) (sa:Int×List D) (e:(List D)):List (Nat×Blk):=[(0,.box (.d (.agg [I a0,I a1,.lst false 1 a2]))),(1,.box (.d (.agg [I a3,I a4,.lst false 1 a5]))),(8,.row 0 4 e)]
theorem Xm {n:Nat} {a0 a1:Int} {a2:List D} {a3 a4:Int} {a5:List D} {a6 a7:Int} {sa:Int×List D} (sb:(Int×List D)) (r) (h:Zi n a0 a1 a2 a3 a4 a5 a6 a7 sa sb=some r):Rd cx (Qs cx.P 42 1) 48 0 false (Xj a0 a1 a2 a3 a4 a5 a6 a7 sa) (Xq a0 a1 a2 a3 a4 a5 a6 a7 sa) (Xe a0 a1 a2 a3 a4 a5 a6 a7 sa) (Gz a0 a1 a2 a3 a4 a5 a6 a7 sa) (GC a0 a1 a2 a3 a4 a5 a6 a7 sa) sb r:=by
 unfold Zi at h
 by_cases hb1:sb.1 < ((2 * a6)+1)
 ·replace h:=Qj h hb1
  obtain ⟨hb2,h⟩:=Qf h
  obtain ⟨hb3,h⟩:=Qf h
  obtain ⟨tb4,hb4,h⟩:=Qe h
  by_cases hb5:tb4.2.2.2 ≥ a7
  ·replace h:=Qj h hb5
   obtain ⟨hb6,h⟩:=Qf h
   obtain ⟨hb7,h⟩:=Qf h
   replace h:=Option.some.inj h
   subst h
   exact ⟨100,16,[.br true,.ret (.agg [I tb4.1,I tb4.2.1,I tb4.2.2.1,I tb4.2.2.2]),.br true,.br true],[],[2,3,4,5,9,10,15,16,21,22],[0,1,8],Qg (ob:=[Qb (sb.1+1),room cx 81 ((sb.2).length+1),(decide (tb4.2.2.2 ≥ a7))=true,Computes cx 39 [.agg [I a0,I a1,.lst false 1 a2],.agg [I a3,I a4,.lst false 1 a5],.agg [I (sb.1 - a6),I (sa.1 - a6)]] (.agg [I tb4.1,I tb4.2.1,I tb4.2.2.1,I tb4.2.2.2]),Qb (sa.1 - a6),Qb (sb.1 - a6),(decide (sb.1 < ((2 * a6)+1)))=true]) (by kernel_rfl) ⟨hb7,(QT (b:=32) (by kernel_rfl) (by decide) hb6),(decide_eq_true hb5),(G8 hb4),hb3,hb2,(decide_eq_true hb1),trivial⟩⟩
  ·replace h:=Qk h hb5
   obtain ⟨hb6,h⟩:=Qf h
   replace h:=Option.some.inj h
   subst h
   exact ⟨100,16,[.br true,.ret (.agg [I tb4.1,I tb4.2.1,I tb4.2.2.1,I tb4.2.2.2]),.br false],[],[2,3,4,5,9,10,15,16,21,22],[0,1,8],Qg (ob:=[Qb (sb.1+1),(decide (tb4.2.2.2 ≥ a7))=false,Computes cx 39 [.agg [I a0,I a1,.lst false 1 a2],.agg [I a3,I a4,.lst false 1 a5],.agg [I (sb.1 - a6),I (sa.1 - a6)]] (.agg [I tb4.1,I tb4.2.1,I tb4.2.2.1,I tb4.2.2.2]),Qb (sa.1 - a6),Qb (sb.1 - a6),(decide (sb.1 < ((2 * a6)+1)))=true]) (by kernel_rfl) ⟨hb6,(decide_eq_false hb5),(G8 hb4),hb3,hb2,(decide_eq_true hb1),trivial⟩⟩
 ·replace h:=Qk h hb1
  replace h:=Option.some.inj h
  subst h
  exact ⟨⟨100,16,[.br false],[],[2,3,4,5,9,15,16],[0,1,8],Qg (ob:=[(decide (sb.1 < ((2 * a6)+1)))=false]) (by kernel_rfl) ⟨(decide_eq_false hb1),trivial⟩⟩,nofun⟩
def QR (n:Nat) (a0 a1:Int) (a2:List D) (a3 a4:Int) (a5:List D) (a6 a7:Int) (sa:(Int×List D)):Option (((Int×List D))⊕((List D))) :=
 if sa.1 < ((2 * a6)+1) then
  if Qb (2 * a6) then
  if Qb ((2 * a6)+1) then
  (Qz (Zi n a0 a1 a2 a3 a4 a5 a6 a7 sa) n (0,sa.2)).bind fun ta4 =>
  if Qb (sa.1+1) then
  some (.inl ((sa.1+1),ta4))
  else none
  else none
  else none
 else
 some (.inr sa.2)
noncomputable def Xi (a0 a1:Int) (a2:List D) (a3 a4:Int) (a5:List D) (a6 a7:Int) (sa:(Int×List D)):List (Nat×AV):=[(2,.d (I a6)),(3,.d (I a7)),(4,.ptr 0 0 0 0 0),(5,.ptr 1 0 0 0 0),(9,.own 8 0),(15,.d (I ((2 * a6)+1))),(16,.d (I sa.1))]
noncomputable def Xp (a0 a1:Int) (a2:List D) (a3 a4:Int) (a5:List D) (a6 a7:Int) (sa:(Int×List D)):List (Nat×Blk):=[(0,.box (.d (.agg [I a0,I a1,.lst false 1 a2]))),(1,.box (.d (.agg [I a3,I a4,.lst false 1 a5]))),(8,.row 0 4 sa.2)]
noncomputable def Xd (a0 a1:Int) (a2:List D) (a3 a4:Int) (a5:List D) (a6 a7:Int) (e:(List D)):Ex:=(.exit 0)
noncomputable def Gy (a0 a1:Int) (a2:List D) (a3 a4:Int) (a5:List D) (a6 a7:Int) (e:(List D)):List (Nat×AV):=[(9,.own 8 0)]
noncomputable def GB (a0 a1:Int) (a2:List D) (a3 a4:Int) (a5:List D) (a6 a7:Int) (e:(List D)):List (Nat×Blk):=[(8,.row 0 4 e)]
theorem Xl {n:Nat} {a0 a1:Int} {a2:List D} {a3 a4:Int} {a5:List D} {a6 a7:Int} (sa:(Int×List D)) (r) (h:QR n a0 a1 a2 a3 a4 a5 a6 a7 sa=some r):Rd cx (Qs cx.P 42 0) 48 0 false (Xi a0 a1 a2 a3 a4 a5 a6 a7) (Xp a0 a1 a2 a3 a4 a5 a6 a7) (Xd a0 a1 a2 a3 a4 a5 a6 a7) (Gy a0 a1 a2 a3 a4 a5 a6 a7) (GB a0 a1 a2 a3 a4 a5 a6 a7) sa r:=by
 unfold QR at h
 by_cases ha1:sa.1 < ((2 * a6)+1)
 ·replace h:=Qj h ha1
  obtain ⟨ha2,h⟩:=Qf h
  obtain ⟨ha3,h⟩:=Qf h
  obtain ⟨ta4,ha4,h⟩:=Qe h
  obtain ⟨ha5,h⟩:=Qf h
  replace h:=Option.some.inj h
  subst h
  exact ⟨100,9,[.br true,.lp [] [2,3,4,5,9,10,15,16,21,22] [0,1,8] (.exit 2) [(2,.d (I a6)),(3,.d (I a7)),(4,.ptr 0 0 0 0 0),(5,.ptr 1 0 0 0 0),(9,.own 8 0),(15,.d (I ((2 * a6)+1))),(16,.d (I sa.1))] [(0,.box (.d (.agg [I a0,I a1,.lst false 1 a2]))),(1,.box (.d (.agg [I a3,I a4,.lst false 1 a5]))),(8,.row 0 4 ta4)] 53],[],[2,3,4,5,9,15,16],[0,1,8],Qg (ob:=[Qb (sa.1+1),QM cx (Qs cx.P 42 1) 48 0 false [(2,.d (I a6)),(3,.d (I a7)),(4,.ptr 0 0 0 0 0),(5,.ptr 1 0 0 0 0),(9,.own 8 0),(10,.d (I sa.1)),(15,.d (I ((2 * a6)+1))),(16,.d (I sa.1)),(21,.d (I ((2 * a6)+1))),(22,.d (I 0))] [(0,.box (.d (.agg [I a0,I a1,.lst false 1 a2]))),(1,.box (.d (.agg [I a3,I a4,.lst false 1 a5]))),(8,.row 0 4 sa.2)] (.exit 2) [(2,.d (I a6)),(3,.d (I a7)),(4,.ptr 0 0 0 0 0),(5,.ptr 1 0 0 0 0),(9,.own 8 0),(15,.d (I ((2 * a6)+1))),(16,.d (I sa.1))] [(0,.box (.d (.agg [I a0,I a1,.lst false 1 a2]))),(1,.box (.d (.agg [I a3,I a4,.lst false 1 a5]))),(8,.row 0 4 ta4)],Qb ((2 * a6)+1),Qb (2 * a6),(decide (sa.1 < ((2 * a6)+1)))=true]) (by kernel_rfl) ⟨ha5,(Qu Xm ha4),ha3,ha2,(decide_eq_true ha1),trivial⟩⟩
 ·replace h:=Qk h ha1
  replace h:=Option.some.inj h
  subst h
  exact ⟨⟨100,9,[.br false],[],[9],[8],Qg (ob:=[(decide (sa.1 < ((2 * a6)+1)))=false]) (by kernel_rfl) ⟨(decide_eq_false ha1),trivial⟩⟩,nofun⟩
def ZU (n:Nat) (a0 a1:Int) (a2:List D) (a3 a4:Int) (a5:List D) (a6 a7:Int):Option (List D) :=
 if Qb (2 * a6) then
 if Qb ((2 * a6)+1) then
 (Qz (QR n a0 a1 a2 a3 a4 a5 a6 a7) n (0,[])).bind fun t3 =>
 if WQ t3=false then
 (Wm n t3).bind fun t5 =>
 some t5
 else none
 else none
 else none
theorem KT {n:Nat} {a0 a1:Int} {a2:List D} {a3 a4:Int} {a5:List D} {a6 a7:Int} {r:List D} (h:ZU n a0 a1 a2 a3 a4 a5 a6 a7=some r):Computes cx 42 [.agg [I a0,I a1,.lst false 1 a2],.agg [I a3,I a4,.lst false 1 a5],I a6,I a7] (.lst false 4 r):=by
 unfold ZU at h
 obtain ⟨h1,h⟩:=Qf h
 obtain ⟨h2,h⟩:=Qf h
 obtain ⟨t3,h3,h⟩:=Qe h
 obtain ⟨h4,h⟩:=Qf h
 obtain ⟨t5,h5,h⟩:=Qe h
 replace h:=Option.some.inj h
 subst h
 exact run (n:=100) (f:=42) (args:=[.agg [I a0,I a1,.lst false 1 a2],.agg [I a3,I a4,.lst false 1 a5],I a6,I a7]) (orc:=[.lp [9,4] [2,3,4,5,9,15,16] [0,1,8] (.exit 0) [(9,.own 8 0)] [(8,.row 0 4 t3)] 66,.obj (some 8) (.d (.tup [])) [.row 4 t5] []]) (r:=.lst false 4 t5) (ob:=[EU cx 67 4 t3 [.fn (.func 68) [] []] t5,(t3)≠[],QM cx (Qs cx.P 42 0) 48 0 false [(2,.d (I a6)),(3,.d (I a7)),(4,.ptr 0 0 0 0 0),(5,.ptr 1 0 0 0 0),(9,.own 8 0),(15,.d (I ((2 * a6)+1))),(16,.d (I 0))] [(0,.box (.d (.agg [I a0,I a1,.lst false 1 a2]))),(1,.box (.d (.agg [I a3,I a4,.lst false 1 a5]))),(8,.row 0 4 [])] (.exit 0) [(9,.own 8 0)] [(8,.row 0 4 t3)],Qb ((2 * a6)+1),Qb (2 * a6)]) (by kernel_rfl) ⟨(XP h5),(nnil h4),(Qu Xl h3),h2,h1,trivial⟩
def Qff (x:Int×Int×Int×Int):D:=.agg [I x.1,I x.2.1,I x.2.2.1,I x.2.2.2]
def E2:D→Option (Int×Int×Int×Int)
 | .agg [c0,c1,c2,c3]=>(K0 .i64 c0).bind fun y0=>(K0 .i64 c1).bind fun y1=>(K0 .i64 c2).bind fun y2=>(K0 .i64 c3).bind fun y3=>some (y0,y1,y2,y3)
 | _=>none
theorem YE {d:D} {x:Int×Int×Int×Int} (h:E2 d=some x):d=Qff x:=by
 unfold E2 at h
 split at h
 case h_2=>cases h
 obtain ⟨y0,h0,h⟩:=Qe h
 obtain ⟨y1,h1,h⟩:=Qe h
 obtain ⟨y2,h2,h⟩:=Qe h
 obtain ⟨y3,h3,h⟩:=Qe h
 cases h
 have e0:=Yb h0
 have e1:=Yb h1
 have e2:=Yb h2
 have e3:=Yb h3
 rw [e0,e1,e2,e3];rfl
def F_cloud_size (n:Nat) (a0:Int):Option (Int) :=
 some (maxI a0 (IntKind.wrap .i64 (0 - a0)))
theorem VM {n:Nat} {a0:Int} {r:Int} (h:F_cloud_size n a0=some r):Computes cx 65 [I a0] (I r):=by
 unfold F_cloud_size at h
 replace h:=Option.some.inj h
 subst h
 exact run (n:=100) (f:=65) (args:=[I a0]) (orc:=[]) (r:=I (maxI a0 (IntKind.wrap .i64 (0 - a0)))) (ob:=[]) (by kernel_rfl) trivial
def Wh (n:Nat) (a0 a1:Int) (sa:(Int×Int)):Option (((Int×Int))⊕((Int))) :=
 if sa.2=0 then
  some (.inr sa.1)
 else
 if sa.2≠0 then
 some (.inl (sa.2,(Int.tmod sa.1 sa.2)))
 else none
noncomputable def qY (a0 a1:Int) (sa:(Int×Int)):List (Nat×AV):=[(0,.d (I a0)),(1,.d (I a1)),(4,.ptr 0 0 0 0 0),(5,.d (I sa.1)),(6,.d (I sa.2))]
noncomputable def zm (a0 a1:Int) (sa:(Int×Int)):List (Nat×Blk):=[(0,.box (.d (.agg [I 0,I 0])))]
noncomputable def qJ (a0 a1:Int) (e:(Int)):Ex:=(.exit 0)
noncomputable def EG (a0 a1:Int) (e:(Int)):List (Nat×AV):=[(0,.d (I a0)),(1,.d (I a1)),(4,.ptr 0 0 0 0 0),(5,.d (I e))]
noncomputable def EN (a0 a1:Int) (e:(Int)):List (Nat×Blk):=[(0,.box (.d (.agg [I 0,I 0])))]
theorem zh {n:Nat} {a0 a1:Int} (sa:(Int×Int)) (r) (h:Wh n a0 a1 sa=some r):Rd cx (Qs cx.P 35 0) 23 0 false (qY a0 a1) (zm a0 a1) (qJ a0 a1) (EG a0 a1) (EN a0 a1) sa r:=by
 unfold Wh at h
 by_cases ha1:sa.2=0
 ·replace h:=Qj h ha1
  replace h:=Option.some.inj h
  subst h
  exact ⟨⟨100,6,[.br false],[],[0,1,4,5],[0],Qg (ob:=[(sa.2 != 0)=false]) (by kernel_rfl) ⟨(nef ha1),trivial⟩⟩,nofun⟩
 ·replace h:=Qk h ha1
  obtain ⟨ha2,h⟩:=Qf h
  replace h:=Option.some.inj h
  subst h
  exact ⟨100,6,[.br true],[],[0,1,4,5,6],[0],Qg (ob:=[sa.2≠0,(sa.2 != 0)=true]) (by kernel_rfl) ⟨ha2,(net ha1),trivial⟩⟩
def ZB (n:Nat) (a0 a1:Int):Option (Int×Int) :=
 (F_cloud_size n a0).bind fun t1 =>
 (Qz (Wh n a0 a1) n (t1,a1)).bind fun t2 =>
 if t2≠0 then
 if Qb (Int.tdiv a0 t2) then
 if Qb (Int.tdiv a1 t2) then
 some ((Int.tdiv a0 t2),(Int.tdiv a1 t2))
 else none
 else none
 else none
theorem G9 {n:Nat} {a0 a1:Int} {r:Int×Int} (h:ZB n a0 a1=some r):Computes cx 35 [I a0,I a1] (.agg [I r.1,I r.2]):=by
 unfold ZB at h
 obtain ⟨t1,h1,h⟩:=Qe h
 obtain ⟨t2,h2,h⟩:=Qe h
 obtain ⟨h3,h⟩:=Qf h
 obtain ⟨h4,h⟩:=Qf h
 obtain ⟨h5,h⟩:=Qf h
 replace h:=Option.some.inj h
 subst h
 exact run (n:=100) (f:=35) (args:=[I a0,I a1]) (orc:=[.ret (I t1),.lp [] [0,1,4,5,6] [0] (.exit 0) [(0,.d (I a0)),(1,.d (I a1)),(4,.ptr 0 0 0 0 0),(5,.d (I t2))] [(0,.box (.d (.agg [I 0,I 0])))] 25]) (r:=.agg [I (Int.tdiv a0 t2),I (Int.tdiv a1 t2)]) (ob:=[t2≠0,Qb (Int.tdiv a1 t2),t2≠0,Qb (Int.tdiv a0 t2),QM cx (Qs cx.P 35 0) 23 0 false [(0,.d (I a0)),(1,.d (I a1)),(4,.ptr 0 0 0 0 0),(5,.d (I t1)),(6,.d (I a1))] [(0,.box (.d (.agg [I 0,I 0])))] (.exit 0) [(0,.d (I a0)),(1,.d (I a1)),(4,.ptr 0 0 0 0 0),(5,.d (I t2))] [(0,.box (.d (.agg [I 0,I 0])))],Computes cx 65 [I a0] (I t1)]) (by kernel_rfl) ⟨h3,h5,h3,h4,(Qu zh h2),(VM h1),trivial⟩
def QY (n:Nat) (a0 a1:Int) (a2:List D) (a3 a4:Int) (a5:List D) (a6 a7:Int):Option (Int×Int×Int×Int×Int) :=
 (ZG n a0 a1 a2 a3 a4 a5 a6 a7).bind fun t1 =>
 if t1=0 then
  (ZU n a0 a1 a2 a3 a4 a5 a6 a7).bind fun t3 =>
  if ((t3).length:Int)=0 then
   some (0,0,0,0,18)
  else
  (el E2 t3 0).bind fun t5 =>
  (ZB n t5.2.2.1 t5.2.2.2).bind fun t6 =>
  some (t5.1,t5.2.1,t6.1,t6.2,0)
 else
 some (0,0,0,0,t1)
theorem Vk {n:Nat} {a0 a1:Int} {a2:List D} {a3 a4:Int} {a5:List D} {a6 a7:Int} {r:Int×Int×Int×Int×Int} (h:QY n a0 a1 a2 a3 a4 a5 a6 a7=some r):Computes cx 17 [.agg [I a0,I a1,.lst false 1 a2],.agg [I a3,I a4,.lst false 1 a5],I a6,I a7] (.tup [.agg [I r.1,I r.2.1],.agg [I r.2.2.1,I r.2.2.2.1],I r.2.2.2.2]):=by
 unfold QY at h
 obtain ⟨t1,h1,h⟩:=Qe h
 by_cases h2:t1=0
 ·replace h:=Qj h h2
  obtain ⟨t3,h3,h⟩:=Qe h
  by_cases h4:((t3).length:Int)=0
  ·replace h:=Qj h h4
   replace h:=Option.some.inj h
   subst h
   exact run (n:=100) (f:=17) (args:=[.agg [I a0,I a1,.lst false 1 a2],.agg [I a3,I a4,.lst false 1 a5],I a6,I a7]) (orc:=[.ret (I t1),.br false,.ret (.lst false 4 t3),.br true]) (r:=.tup [.agg [I 0,I 0],.agg [I 0,I 0],I 18]) (ob:=[(((t3).length:Int) == 0)=true,Computes cx 42 [.agg [I a0,I a1,.lst false 1 a2],.agg [I a3,I a4,.lst false 1 a5],I a6,I a7] (.lst false 4 t3),(t1 != 0)=false,Computes cx 41 [.agg [I a0,I a1,.lst false 1 a2],.agg [I a3,I a4,.lst false 1 a5],I a6,I a7] (I t1)]) (by kernel_rfl) ⟨(eqt h4),(KT h3),(nef h2),(V7 h1),trivial⟩
  ·replace h:=Qk h h4
   obtain ⟨t5,h5,h⟩:=Qe h
   obtain ⟨t6,h6,h⟩:=Qe h
   replace h:=Option.some.inj h
   subst h
   exact run (n:=100) (f:=17) (args:=[.agg [I a0,I a1,.lst false 1 a2],.agg [I a3,I a4,.lst false 1 a5],I a6,I a7]) (orc:=[.ret (I t1),.br false,.ret (.lst false 4 t3),.br false,.el (.agg [I t5.1,I t5.2.1,I t5.2.2.1,I t5.2.2.2]),.el (.agg [I t5.1,I t5.2.1,I t5.2.2.1,I t5.2.2.2]),.el (.agg [I t5.1,I t5.2.1,I t5.2.2.1,I t5.2.2.2]),.ret (.agg [I t6.1,I t6.2])]) (r:=.tup [.agg [I t5.1,I t5.2.1],.agg [I t6.1,I t6.2],I 0]) (ob:=[Computes cx 35 [I t5.2.2.1,I t5.2.2.2] (.agg [I t6.1,I t6.2]),(0:Int)≤0,nth (t3) (Int.toNat 0)=some (.agg [I t5.1,I t5.2.1,I t5.2.2.1,I t5.2.2.2]),(0:Int)≤0,nth (t3) (Int.toNat 0)=some (.agg [I t5.1,I t5.2.1,I t5.2.2.1,I t5.2.2.2]),(0:Int)≤0,nth (t3) (Int.toNat 0)=some (.agg [I t5.1,I t5.2.1,I t5.2.2.1,I t5.2.2.2]),(((t3).length:Int) == 0)=false,Computes cx 42 [.agg [I a0,I a1,.lst false 1 a2],.agg [I a3,I a4,.lst false 1 a5],I a6,I a7] (.lst false 4 t3),(t1 != 0)=false,Computes cx 41 [.agg [I a0,I a1,.lst false 1 a2],.agg [I a3,I a4,.lst false 1 a5],I a6,I a7] (I t1)]) (by kernel_rfl) ⟨(G9 h6),(Qp YE h5).1,(Qp YE h5).2,(Qp YE h5).1,(Qp YE h5).2,(Qp YE h5).1,(Qp YE h5).2,(eqf h4),(KT h3),(nef h2),(V7 h1),trivial⟩
 ·replace h:=Qk h h2
  replace h:=Option.some.inj h
  subst h
  exact run (n:=100) (f:=17) (args:=[.agg [I a0,I a1,.lst false 1 a2],.agg [I a3,I a4,.lst false 1 a5],I a6,I a7]) (orc:=[.ret (I t1),.br true]) (r:=.tup [.agg [I 0,I 0],.agg [I 0,I 0],I t1]) (ob:=[(t1 != 0)=true,Computes cx 41 [.agg [I a0,I a1,.lst false 1 a2],.agg [I a3,I a4,.lst false 1 a5],I a6,I a7] (I t1)]) (by kernel_rfl) ⟨(net h2),(V7 h1),trivial⟩
def Vl (n:Nat) (a0:Nat):Option (Int) :=
 if (fop .mul .f32 1098907648 a0).isSome=true then
 if (f2i .f32 ((fop .mul .f32 1098907648 a0).getD 0) .i64).isSome=true then
 some ((f2i .f32 ((fop .mul .f32 1098907648 a0).getD 0) .i64).getD 0)
 else none
 else none
theorem yz {n:Nat} {a0:Nat} {r:Int} (h:Vl n a0=some r):Computes cx 52 [.v (.float .f32 a0)] (I r):=by
 unfold Vl at h
 obtain ⟨h1,h⟩:=Qf h
 obtain ⟨h2,h⟩:=Qf h
 replace h:=Option.some.inj h
 subst h
 exact run (n:=100) (f:=52) (args:=[.v (.float .f32 a0)]) (orc:=[]) (r:=I ((f2i .f32 ((fop .mul .f32 1098907648 a0).getD 0) .i64).getD 0)) (ob:=[(f2i .f32 ((fop .mul .f32 1098907648 a0).getD 0) .i64).isSome=true,(fop .mul .f32 1098907648 a0).isSome=true]) (by kernel_rfl) ⟨h2,h1,trivial⟩
def Zz (n:Nat) (a0:List D) (sa:(Int×List D)):Option (((Int×List D))⊕((List D))) :=
 if sa.1 < ((a0).length:Int) then
  (el Vq a0 sa.1).bind fun ta2 =>
  (Vl n ta2).bind fun ta3 =>
  if ZZ 8 ((sa.2).length+1) then
  if Qb (sa.1+1) then
  some (.inl ((sa.1+1),(sa.2++([I ta3]:List D))))
  else none
  else none
 else
 some (.inr sa.2)
noncomputable def GF (a0:List D) (sa:(Int×List D)):List (Nat×AV):=[(1,.d (.fn (.func 52) [] [])),(5,.own 5 0),(8,.d (.lst false 1 a0)),(9,.d (I ((a0).length:Int))),(10,.d (I sa.1))]
noncomputable def GL (a0:List D) (sa:(Int×List D)):List (Nat×Blk):=[(5,.row 0 1 sa.2)]
noncomputable def Gw (a0:List D) (e:(List D)):Ex:=(.exit 0)
noncomputable def Gg (a0:List D) (e:(List D)):List (Nat×AV):=[(5,.own 5 0)]
noncomputable def Gj (a0:List D) (e:(List D)):List (Nat×Blk):=[(5,.row 0 1 e)]
theorem GH {n:Nat} {a0:List D} (sa:(Int×List D)) (r) (h:Zz n a0 sa=some r):Rd cx (Qs cx.P 51 0) 22 0 false (GF a0) (GL a0) (Gw a0) (Gg a0) (Gj a0) sa r:=by
 unfold Zz at h
 by_cases ha1:sa.1 < ((a0).length:Int)
 ·replace h:=Qj h ha1
  obtain ⟨ta2,ha2,h⟩:=Qe h
  obtain ⟨ta3,ha3,h⟩:=Qe h
  obtain ⟨ha4,h⟩:=Qf h
  obtain ⟨ha5,h⟩:=Qf h
  replace h:=Option.some.inj h
  subst h
  exact ⟨100,6,[.br true,.el (.v (.float .f32 ta2)),.ret (I ta3),.br true],[],[1,5,8,9,10],[5],Qg (ob:=[Qb (sa.1+1),room cx 3 ((sa.2).length+1),Computes cx 52 [.v (.float .f32 ta2)] (I ta3),(0:Int)≤sa.1,nth (a0) (Int.toNat sa.1)=some (.v (.float .f32 ta2)),(decide (sa.1 < ((a0).length:Int)))=true]) (by kernel_rfl) ⟨ha5,(QT (b:=8) (by kernel_rfl) (by decide) ha4),(yz ha3),(Qp Qr ha2).1,(Qp Qr ha2).2,(decide_eq_true ha1),trivial⟩⟩
 ·replace h:=Qk h ha1
  replace h:=Option.some.inj h
  subst h
  exact ⟨⟨100,6,[.br false],[],[5],[5],Qg (ob:=[(decide (sa.1 < ((a0).length:Int)))=false]) (by kernel_rfl) ⟨(decide_eq_false ha1),trivial⟩⟩,nofun⟩
def Vf (n:Nat) (a0:List D):Option (List D) :=
 (Qz (Zz n a0) n (0,[])).bind fun t1 =>
 some t1
theorem XR {n:Nat} {a0:List D} {r:List D} (h:Vf n a0=some r):Z4 cx 51 [.lst false 1 a0,.fn (.func 52) [] []] 1 r (.own 0 0):=by
 unfold Vf at h
 obtain ⟨t1,h1,h⟩:=Qe h
 replace h:=Option.some.inj h
 subst h
 exact runF (n:=100) (f:=51) (args:=[.lst false 1 a0,.fn (.func 52) [] []]) (orc:=[.lp [5,1] [1,5,8,9,10] [5] (.exit 0) [(5,.own 5 0)] [(5,.row 0 1 t1)] 30]) (r:=.own 0 0) (sz:=1) (L:=t1) (ob:=[QM cx (Qs cx.P 51 0) 22 0 false [(1,.d (.fn (.func 52) [] [])),(5,.own 5 0),(8,.d (.lst false 1 a0)),(9,.d (I ((a0).length:Int))),(10,.d (I 0))] [(5,.row 0 1 [])] (.exit 0) [(5,.own 5 0)] [(5,.row 0 1 t1)]]) (by kernel_rfl) ⟨(Qu GH h1),trivial⟩
def Zh (n:Nat) (a0 a1:Int) (a2:List D):Option (Int×Int×List D) :=
 (Vf n a2).bind fun t1 =>
 some (a0,a1,t1)
theorem WV {n:Nat} {a0 a1:Int} {a2:List D} {r:Int×Int×List D} (h:Zh n a0 a1 a2=some r):Z4 cx 24 [.agg [I a0,I a1,.lst false 1 a2]] 1 r.2.2 (.agg [.d (I r.1),.d (I r.2.1),.own 0 0]):=by
 unfold Zh at h
 obtain ⟨t1,h1,h⟩:=Qe h
 replace h:=Option.some.inj h
 subst h
 exact runF (n:=100) (f:=24) (args:=[.agg [I a0,I a1,.lst false 1 a2]]) (orc:=[.obj none (.own 0 0) [.row 1 t1] [true]]) (r:=.agg [.d (I a0),.d (I a1),.own 0 0]) (sz:=1) (L:=t1) (ob:=[Z4 cx 51 [.lst false 1 a2,.fn (.func 52) [] []] 1 t1 (.own 0 0)]) (by kernel_rfl) ⟨(XR h1),trivial⟩
def WU (n:Nat) (a0 a1:Int):Option (Int×Int×List D) :=
 if Qb (a0 * a1) then
 if 0≤(a0 * a1)∧(a0 * a1)≤(a0 * a1)∧8 * (a0 * a1)≤281474976710656∧(a0 * a1)≤9223372036854775807 then
 some (a0,a1,(List.replicate (Int.toNat (a0 * a1)) (I 0:D)))
 else none
 else none
theorem Kf {n:Nat} {a0 a1:Int} {r:Int×Int×List D} (h:WU n a0 a1=some r):Z4 cx 46 [I a0,I a1] 1 r.2.2 (.agg [.d (I r.1),.d (I r.2.1),.own 0 0]):=by
 unfold WU at h
 obtain ⟨h1,h⟩:=Qf h
 obtain ⟨h2,h⟩:=Qf h
 replace h:=Option.some.inj h
 subst h
 exact runF (n:=100) (f:=46) (args:=[I a0,I a1]) (orc:=[.br true]) (r:=.agg [.d (I a0),.d (I a1),.own 0 0]) (sz:=1) (L:=(List.replicate (Int.toNat (a0 * a1)) (I 0:D))) (ob:=[0≤(a0 * a1)∧(a0 * a1)≤(a0 * a1)∧8 * (a0 * a1)≤281474976710656∧(a0 * a1)≤9223372036854775807,Qb (a0 * a1)]) (by kernel_rfl) ⟨h2,h1,trivial⟩
def ZE (n:Nat) (a0 a1:Int) (a2:List D) (a3 a4:Int):Option (Int) :=
 if Qb (a4 * a0) then
 if Qb ((a4 * a0)+a3) then
 some ((a4 * a0)+a3)
 else none
 else none
theorem V6 {n:Nat} {a0 a1:Int} {a2:List D} {a3 a4:Int} {r:Int} (h:ZE n a0 a1 a2 a3 a4=some r):Computes cx 48 [.agg [I a0,I a1,.lst false 1 a2],.agg [I a3,I a4]] (I r):=by
 unfold ZE at h
 obtain ⟨h1,h⟩:=Qf h
 obtain ⟨h2,h⟩:=Qf h
 replace h:=Option.some.inj h
 subst h
 exact run (n:=100) (f:=48) (args:=[.agg [I a0,I a1,.lst false 1 a2],.agg [I a3,I a4]]) (orc:=[]) (r:=I ((a4 * a0)+a3)) (ob:=[Qb ((a4 * a0)+a3),Qb (a4 * a0)]) (by kernel_rfl) ⟨h2,h1,trivial⟩
def VE (n:Nat) (a0:Int):Option (Nat) :=
 if (fop .quo .f32 (FloatKind.nearest .f32 a0) 1098907648).isSome=true then
 some ((fop .quo .f32 (FloatKind.nearest .f32 a0) 1098907648).getD 0)
 else none
theorem kD {n:Nat} {a0:Int} {r:Nat} (h:VE n a0=some r):Computes cx 54 [I a0] (.v (.float .f32 r)):=by
 unfold VE at h
 obtain ⟨h1,h⟩:=Qf h
 replace h:=Option.some.inj h
 subst h
 exact run (n:=100) (f:=54) (args:=[I a0]) (orc:=[]) (r:=.v (.float .f32 ((fop .quo .f32 (FloatKind.nearest .f32 a0) 1098907648).getD 0))) (ob:=[(fop .quo .f32 (FloatKind.nearest .f32 a0) 1098907648).isSome=true]) (by kernel_rfl) ⟨h1,trivial⟩
def Zy (n:Nat) (a0:List D) (sa:(Int×List D)):Option (((Int×List D))⊕((List D))) :=
 if sa.1 < ((a0).length:Int) then
  (el un_i a0 sa.1).bind fun ta2 =>
  (VE n ta2).bind fun ta3 =>
  if ZZ 4 ((sa.2).length+1) then
  if Qb (sa.1+1) then
  some (.inl ((sa.1+1),(sa.2++([.v (.float .f32 ta3)]:List D))))
  else none
  else none
 else
 some (.inr sa.2)
noncomputable def GE (a0:List D) (sa:(Int×List D)):List (Nat×AV):=[(1,.d (.fn (.func 54) [] [])),(5,.own 5 0),(8,.d (.lst false 1 a0)),(9,.d (I ((a0).length:Int))),(10,.d (I sa.1))]
noncomputable def GK (a0:List D) (sa:(Int×List D)):List (Nat×Blk):=[(5,.row 0 1 sa.2)]
noncomputable def Gv (a0:List D) (e:(List D)):Ex:=(.exit 0)
noncomputable def Gf (a0:List D) (e:(List D)):List (Nat×AV):=[(5,.own 5 0)]
noncomputable def Gi (a0:List D) (e:(List D)):List (Nat×Blk):=[(5,.row 0 1 e)]
theorem GG {n:Nat} {a0:List D} (sa:(Int×List D)) (r) (h:Zy n a0 sa=some r):Rd cx (Qs cx.P 53 0) 22 0 false (GE a0) (GK a0) (Gv a0) (Gf a0) (Gi a0) sa r:=by
 unfold Zy at h
 by_cases ha1:sa.1 < ((a0).length:Int)
 ·replace h:=Qj h ha1
  obtain ⟨ta2,ha2,h⟩:=Qe h
  obtain ⟨ta3,ha3,h⟩:=Qe h
  obtain ⟨ha4,h⟩:=Qf h
  obtain ⟨ha5,h⟩:=Qf h
  replace h:=Option.some.inj h
  subst h
  exact ⟨100,6,[.br true,.el (I ta2),.ret (.v (.float .f32 ta3)),.br true],[],[1,5,8,9,10],[5],Qg (ob:=[Qb (sa.1+1),room cx 28 ((sa.2).length+1),Computes cx 54 [I ta2] (.v (.float .f32 ta3)),(0:Int)≤sa.1,nth (a0) (Int.toNat sa.1)=some (I ta2),(decide (sa.1 < ((a0).length:Int)))=true]) (by kernel_rfl) ⟨ha5,(QT (b:=4) (by kernel_rfl) (by decide) ha4),(kD ha3),(Qp QQ ha2).1,(Qp QQ ha2).2,(decide_eq_true ha1),trivial⟩⟩
 ·replace h:=Qk h ha1
  replace h:=Option.some.inj h
  subst h
  exact ⟨⟨100,6,[.br false],[],[5],[5],Qg (ob:=[(decide (sa.1 < ((a0).length:Int)))=false]) (by kernel_rfl) ⟨(decide_eq_false ha1),trivial⟩⟩,nofun⟩
def Ve (n:Nat) (a0:List D):Option (List D) :=
 (Qz (Zy n a0) n (0,[])).bind fun t1 =>
 some t1
theorem EA {n:Nat} {a0:List D} {r:List D} (h:Ve n a0=some r):Computes cx 53 [.lst false 1 a0,.fn (.func 54) [] []] (.lst false 1 r):=by
 unfold Ve at h
 obtain ⟨t1,h1,h⟩:=Qe h
 replace h:=Option.some.inj h
 subst h
 exact run (n:=100) (f:=53) (args:=[.lst false 1 a0,.fn (.func 54) [] []]) (orc:=[.lp [5,1] [1,5,8,9,10] [5] (.exit 0) [(5,.own 5 0)] [(5,.row 0 1 t1)] 30]) (r:=.lst false 1 t1) (ob:=[QM cx (Qs cx.P 53 0) 22 0 false [(1,.d (.fn (.func 54) [] [])),(5,.own 5 0),(8,.d (.lst false 1 a0)),(9,.d (I ((a0).length:Int))),(10,.d (I 0))] [(5,.row 0 1 [])] (.exit 0) [(5,.own 5 0)] [(5,.row 0 1 t1)]]) (by kernel_rfl) ⟨(Qu GG h1),trivial⟩
def ZM (n:Nat) (a0 a1:Int) (a2:List D) (sa:(Int)):Option (((Int))⊕((Unit)⊕(Unit))) :=
 if sa < ((a2).length:Int) then
  (el un_i a2 sa).bind fun ta2 =>
  if ta2 < (-16384) then
   some (.inr (.inl ()))
  else
  if ta2 > 16384 then
   some (.inr (.inl ()))
  else
  if Qb (sa+1) then
  some (.inl (sa+1))
  else none
 else
 some (.inr (.inr ()))
noncomputable def Xh (a0 a1:Int) (a2:List D) (sa:(Int)):List (Nat×AV):=[(1,.ptr 0 0 0 0 0),(2,.ptr 1 0 0 0 0),(7,.d (.lst false 1 a2)),(8,.d (I ((a2).length:Int))),(9,.d (I sa))]
noncomputable def Xo (a0 a1:Int) (a2:List D) (sa:(Int)):List (Nat×Blk):=[(0,.box (.d (.agg [I a0,I a1,.lst false 1 a2]))),(1,.box (.d (.agg [I 0,I 0,.lst true 0 []])))]
noncomputable def Xc (a0 a1:Int) (a2:List D) (e:(Unit)⊕(Unit)):Ex:=match e with
 | (.inl e)=>.ret
 | (.inr e)=>(.exit 0)
noncomputable def Gx (a0 a1:Int) (a2:List D) (e:(Unit)⊕(Unit)):List (Nat×AV):=match e with
 | (.inl e)=>[(2,.ptr 1 0 0 0 0),(3,.d (I 4))]
 | (.inr e)=>[(1,.ptr 0 0 0 0 0),(2,.ptr 1 0 0 0 0)]
noncomputable def GA (a0 a1:Int) (a2:List D) (e:(Unit)⊕(Unit)):List (Nat×Blk):=match e with
 | (.inl e)=>[(1,.box (.d (.agg [I 0,I 0,.lst true 0 []])))]
 | (.inr e)=>[(0,.box (.d (.agg [I a0,I a1,.lst false 1 a2]))),(1,.box (.d (.agg [I 0,I 0,.lst true 0 []])))]
theorem Ue {n:Nat} {a0 a1:Int} {a2:List D} (sa:(Int)) (r) (h:ZM n a0 a1 a2 sa=some r):Rd cx (Qs cx.P 27 0) 29 0 false (Xh a0 a1 a2) (Xo a0 a1 a2) (Xc a0 a1 a2) (Gx a0 a1 a2) (GA a0 a1 a2) sa r:=by
 unfold ZM at h
 by_cases ha1:sa < ((a2).length:Int)
 ·replace h:=Qj h ha1
  obtain ⟨ta2,ha2,h⟩:=Qe h
  by_cases ha3:ta2 < (-16384)
  ·replace h:=Qj h ha3
   replace h:=Option.some.inj h
   subst h
   exact ⟨⟨100,7,[.br true,.el (I ta2),.br true,.no],[],[2,3],[1],Qg (ob:=[(decide (ta2 < (-16384)))=true,(0:Int)≤sa,nth (a2) (Int.toNat sa)=some (I ta2),(decide (sa < ((a2).length:Int)))=true]) (by kernel_rfl) ⟨(decide_eq_true ha3),(Qp QQ ha2).1,(Qp QQ ha2).2,(decide_eq_true ha1),trivial⟩⟩,nofun⟩
  ·replace h:=Qk h ha3
   by_cases ha4:ta2 > 16384
   ·replace h:=Qj h ha4
    replace h:=Option.some.inj h
    subst h
    exact ⟨⟨100,7,[.br true,.el (I ta2),.br false,.br true],[],[2,3],[1],Qg (ob:=[(decide (ta2 > 16384))=true,(decide (ta2 < (-16384)))=false,(0:Int)≤sa,nth (a2) (Int.toNat sa)=some (I ta2),(decide (sa < ((a2).length:Int)))=true]) (by kernel_rfl) ⟨(decide_eq_true ha4),(decide_eq_false ha3),(Qp QQ ha2).1,(Qp QQ ha2).2,(decide_eq_true ha1),trivial⟩⟩,nofun⟩
   ·replace h:=Qk h ha4
    obtain ⟨ha5,h⟩:=Qf h
    replace h:=Option.some.inj h
    subst h
    exact ⟨100,7,[.br true,.el (I ta2),.br false,.br false],[],[1,2,7,8,9],[0,1],Qg (ob:=[Qb (sa+1),(decide (ta2 > 16384))=false,(decide (ta2 < (-16384)))=false,(0:Int)≤sa,nth (a2) (Int.toNat sa)=some (I ta2),(decide (sa < ((a2).length:Int)))=true]) (by kernel_rfl) ⟨ha5,(decide_eq_false ha4),(decide_eq_false ha3),(Qp QQ ha2).1,(Qp QQ ha2).2,(decide_eq_true ha1),trivial⟩⟩
 ·replace h:=Qk h ha1
  replace h:=Option.some.inj h
  subst h
  exact ⟨⟨100,7,[.br false],[],[1,2],[0,1],Qg (ob:=[(decide (sa < ((a2).length:Int)))=false]) (by kernel_rfl) ⟨(decide_eq_false ha1),trivial⟩⟩,nofun⟩
def ZS (n:Nat) (a0 a1:Int) (a2:List D):Option (Int×Int×List D×Int) :=
 (Qz (ZM n a0 a1 a2) n 0).bind fun t1=>match t1 with
  | (.inl t1)=>(
   some (0,0,[],4))
  | (.inr t1)=>(
   (Ve n a2).bind fun t2 =>
   some (a0,a1,t2,0))
theorem Yu {n:Nat} {a0 a1:Int} {a2:List D} {r:Int×Int×List D×Int} (h:ZS n a0 a1 a2=some r):Computes cx 27 [.agg [I a0,I a1,.lst false 1 a2]] (.tup [.agg [I r.1,I r.2.1,.lst false 1 r.2.2.1],I r.2.2.2]):=by
 unfold ZS at h
 obtain ⟨t1,h1,h⟩:=Qe h
 rcases t1 with t1 | t1
 ·replace h:=Option.some.inj h
  subst h
  exact (run (n:=100) (f:=27) (args:=[.agg [I a0,I a1,.lst false 1 a2]]) (orc:=[.lp [] [1,2,7,8,9] [0,1] .ret [(2,.ptr 1 0 0 0 0),(3,.d (I 4))] [(1,.box (.d (.agg [I 0,I 0,.lst true 0 []])))] 31]) (r:=.tup [.agg [I 0,I 0,.lst true 0 []],I 4]) (ob:=[QM cx (Qs cx.P 27 0) 29 0 false [(1,.ptr 0 0 0 0 0),(2,.ptr 1 0 0 0 0),(7,.d (.lst false 1 a2)),(8,.d (I ((a2).length:Int))),(9,.d (I 0))] [(0,.box (.d (.agg [I a0,I a1,.lst false 1 a2]))),(1,.box (.d (.agg [I 0,I 0,.lst true 0 []])))] .ret [(2,.ptr 1 0 0 0 0),(3,.d (I 4))] [(1,.box (.d (.agg [I 0,I 0,.lst true 0 []])))]]) (by kernel_rfl) ⟨(Qu Ue h1),trivial⟩).le (LEs.refl _) (.tups (.cons (.aggs (.cons (.refl _) (.cons (.refl _) (.cons (.nilF) (.nil))))) (.cons (.refl _) (.nil))))
 ·obtain ⟨t2,h2,h⟩:=Qe h
  replace h:=Option.some.inj h
  subst h
  exact run (n:=100) (f:=27) (args:=[.agg [I a0,I a1,.lst false 1 a2]]) (orc:=[.lp [] [1,2,7,8,9] [0,1] (.exit 0) [(1,.ptr 0 0 0 0 0),(2,.ptr 1 0 0 0 0)] [(0,.box (.d (.agg [I a0,I a1,.lst false 1 a2]))),(1,.box (.d (.agg [I 0,I 0,.lst true 0 []])))] 31,.ret (.lst false 1 t2)]) (r:=.tup [.agg [I a0,I a1,.lst false 1 t2],I 0]) (ob:=[Computes cx 53 [.lst false 1 a2,.fn (.func 54) [] []] (.lst false 1 t2),QM cx (Qs cx.P 27 0) 29 0 false [(1,.ptr 0 0 0 0 0),(2,.ptr 1 0 0 0 0),(7,.d (.lst false 1 a2)),(8,.d (I ((a2).length:Int))),(9,.d (I 0))] [(0,.box (.d (.agg [I a0,I a1,.lst false 1 a2]))),(1,.box (.d (.agg [I 0,I 0,.lst true 0 []])))] (.exit 0) [(1,.ptr 0 0 0 0 0),(2,.ptr 1 0 0 0 0)] [(0,.box (.d (.agg [I a0,I a1,.lst false 1 a2]))),(1,.box (.d (.agg [I 0,I 0,.lst true 0 []])))]]) (by kernel_rfl) ⟨(EA h2),(Qu Ue h1),trivial⟩
def Yz (n:Nat) (a0 a1:Int) (a2:List D) (a3 a4 a5 a6 t1 t2 t3 t4:Int) (t12 t13:Int×Int×List D) (sa:(Int×List D)):Option (((Int×List D))⊕((List D))) :=
 if sa.1 < (t12.1 * t12.2.1) then
  if t12.1≠0 then
  if Qb (Int.tdiv sa.1 t12.1) then
  if Qb (a5+(Int.tmod sa.1 t12.1)) then
  if Qb (a6+(Int.tdiv sa.1 t12.1)) then
  (ZE n t13.1 t13.2.1 sa.2 (a5+(Int.tmod sa.1 t12.1)) (a6+(Int.tdiv sa.1 t12.1))).bind fun ta6 =>
  if 0≤sa.1∧sa.1 < ((t12.2.2).length:Int) then
  ((nth (t12.2.2) (Int.toNat sa.1)).bind un_i).bind fun ta8 =>
  if 0≤ta6∧ta6 < ((sa.2).length:Int) then
  if (Int.toNat ta6) < (sa.2).length then
  if Qb (sa.1+1) then
  some (.inl ((sa.1+1),(List.set sa.2 (Int.toNat ta6) (I ta8:D))))
  else none
  else none
  else none
  else none
  else none
  else none
  else none
  else none
 else
 some (.inr sa.2)
noncomputable def qX (a0 a1:Int) (a2:List D) (a3 a4 a5 a6 t1 t2 t3 t4:Int) (t12 t13:Int×Int×List D) (sa:(Int×List D)):List (Nat×AV):=[(0,.own 58 0),(1,.ptr 54 0 0 0 0),(8,.d (I (t12.1 * t12.2.1))),(9,.d (I sa.1))]
noncomputable def zl (a0 a1:Int) (a2:List D) (a3 a4 a5 a6 t1 t2 t3 t4:Int) (t12 t13:Int×Int×List D) (sa:(Int×List D)):List (Nat×Blk):=[(0,.box (.d (.agg [I a0,I a1,.lst false 1 a2]))),(1,.box (.d (.agg [I a5,I a6]))),(2,.box (.d (.agg [I 0,I 0,.lst true 0 []]))),(46,.box (.agg [.d (I t12.1),.d (I t12.2.1),.own 50 0])),(47,.box (.agg [.d (I t13.1),.d (I t13.2.1),.own 51 0])),(50,.row 0 1 t12.2.2),(51,.row 0 1 sa.2),(54,.box (.agg [.d (I t12.1),.d (I t12.2.1),.own 50 0])),(58,.loop true [(60,.fn (.func 70) [] [.ptr 54 0 0 0 0]),(59,.agg [.d (I t12.1),.d (I t12.2.1),.own 50 0]),(58,.agg [.d (I t13.1),.d (I t13.2.1),.own 51 0]),(57,.d (I a4)),(56,.d (I a3)),(55,.agg [.d (I t12.1),.d (I t12.2.1),.own 50 0]),(54,.d (.agg [I a0,I a1,.lst false 1 a2])),(52,.d (B (decide (a6 > (a4 - a1))))),(51,.d (B (decide (a6 > (a4 - a1))))),(50,.d (I (a4 - a1))),(49,.d (I a1)),(48,.ptr 0 0 0 0 1),(47,.d (I a4)),(46,.d (I a6)),(45,.ptr 1 0 0 0 1),(44,.d (B false)),(43,.d (B (decide (a6 < 0)))),(42,.d (B (decide (a6 < 0)))),(41,.d (I a6)),(40,.ptr 1 0 0 0 1),(39,.d (B false)),(38,.d (B (decide (a5 > (a3 - a0))))),(37,.d (B (decide (a5 > (a3 - a0))))),(36,.d (I (a3 - a0))),(35,.d (I a0)),(34,.ptr 0 0 0 0 0),(33,.d (I a3)),(32,.d (I a5)),(31,.ptr 1 0 0 0 0),(30,.d (B false)),(29,.d (B (decide (a5 < 0)))),(28,.d (I a5)),(27,.ptr 1 0 0 0 0),(24,.d (B (t4 != 0))),(23,.d (I t4)),(22,.d (I t4)),(21,.d (.lst true 1 [I t1,I t2,I t3])),(20,.d (I t3)),(19,.d (I a4)),(18,.d (I t2)),(17,.d (I a3)),(16,.d (I t1)),(15,.d (.agg [I a0,I a1,.lst false 1 a2])),(12,.ptr 47 0 0 0 0),(11,.ptr 46 0 0 0 0),(10,.d (I t4)),(9,.d (I 0)),(8,.ptr 2 0 0 0 0),(7,.ptr 1 0 0 0 0),(4,.ptr 0 0 0 0 0),(3,.d (.agg [I a5,I a6])),(2,.d (I a4)),(1,.d (I a3)),(0,.d (.agg [I a0,I a1,.lst false 1 a2]))] [61,62] (Qv cx.P 22 0).1 (Qv cx.P 22 0).2 88)]
noncomputable def qI (a0 a1:Int) (a2:List D) (a3 a4 a5 a6 t1 t2 t3 t4:Int) (t12 t13:Int×Int×List D) (e:(List D)):Ex:=(.exit 0)
noncomputable def EF (a0 a1:Int) (a2:List D) (a3 a4 a5 a6 t1 t2 t3 t4:Int) (t12 t13:Int×Int×List D) (e:(List D)):List (Nat×AV):=[]
noncomputable def EM (a0 a1:Int) (a2:List D) (a3 a4 a5 a6 t1 t2 t3 t4:Int) (t12 t13:Int×Int×List D) (e:(List D)):List (Nat×Blk):=[(0,.box (.d (.agg [I a0,I a1,.lst false 1 a2]))),(1,.box (.d (.agg [I a5,I a6]))),(2,.box (.d (.agg [I 0,I 0,.lst true 0 []]))),(46,.box (.agg [.d (I t12.1),.d (I t12.2.1),.own 50 0])),(47,.box (.agg [.d (I t13.1),.d (I t13.2.1),.own 51 0])),(50,.row 0 1 t12.2.2),(51,.row 0 1 e),(54,.box (.agg [.d (I t12.1),.d (I t12.2.1),.own 50 0])),(58,.loop true [(60,.fn (.func 70) [] [.ptr 54 0 0 0 0]),(59,.agg [.d (I t12.1),.d (I t12.2.1),.own 50 0]),(58,.agg [.d (I t13.1),.d (I t13.2.1),.own 51 0]),(57,.d (I a4)),(56,.d (I a3)),(55,.agg [.d (I t12.1),.d (I t12.2.1),.own 50 0]),(54,.d (.agg [I a0,I a1,.lst false 1 a2])),(52,.d (B (decide (a6 > (a4 - a1))))),(51,.d (B (decide (a6 > (a4 - a1))))),(50,.d (I (a4 - a1))),(49,.d (I a1)),(48,.ptr 0 0 0 0 1),(47,.d (I a4)),(46,.d (I a6)),(45,.ptr 1 0 0 0 1),(44,.d (B false)),(43,.d (B (decide (a6 < 0)))),(42,.d (B (decide (a6 < 0)))),(41,.d (I a6)),(40,.ptr 1 0 0 0 1),(39,.d (B false)),(38,.d (B (decide (a5 > (a3 - a0))))),(37,.d (B (decide (a5 > (a3 - a0))))),(36,.d (I (a3 - a0))),(35,.d (I a0)),(34,.ptr 0 0 0 0 0),(33,.d (I a3)),(32,.d (I a5)),(31,.ptr 1 0 0 0 0),(30,.d (B false)),(29,.d (B (decide (a5 < 0)))),(28,.d (I a5)),(27,.ptr 1 0 0 0 0),(24,.d (B (t4 != 0))),(23,.d (I t4)),(22,.d (I t4)),(21,.d (.lst true 1 [I t1,I t2,I t3])),(20,.d (I t3)),(19,.d (I a4)),(18,.d (I t2)),(17,.d (I a3)),(16,.d (I t1)),(15,.d (.agg [I a0,I a1,.lst false 1 a2])),(12,.ptr 47 0 0 0 0),(11,.ptr 46 0 0 0 0),(10,.d (I t4)),(9,.d (I 0)),(8,.ptr 2 0 0 0 0),(7,.ptr 1 0 0 0 0),(4,.ptr 0 0 0 0 0),(3,.d (.agg [I a5,I a6])),(2,.d (I a4)),(1,.d (I a3)),(0,.d (.agg [I a0,I a1,.lst false 1 a2]))] [61,62] (Qv cx.P 22 0).1 (Qv cx.P 22 0).2 88)]
theorem zg {n:Nat} {a0 a1:Int} {a2:List D} {a3 a4 a5 a6 t1 t2 t3 t4:Int} {t12 t13:Int×Int×List D} (sa:(Int×List D)) (r) (h:Yz n a0 a1 a2 a3 a4 a5 a6 t1 t2 t3 t4 t12 t13 sa=some r):Rd cx (Qs cx.P 70 0) 26 59 false (qX a0 a1 a2 a3 a4 a5 a6 t1 t2 t3 t4 t12 t13) (zl a0 a1 a2 a3 a4 a5 a6 t1 t2 t3 t4 t12 t13) (qI a0 a1 a2 a3 a4 a5 a6 t1 t2 t3 t4 t12 t13) (EF a0 a1 a2 a3 a4 a5 a6 t1 t2 t3 t4 t12 t13) (EM a0 a1 a2 a3 a4 a5 a6 t1 t2 t3 t4 t12 t13) sa r:=by
 unfold Yz at h
 by_cases ha1:sa.1 < (t12.1 * t12.2.1)
 ·replace h:=Qj h ha1
  obtain ⟨ha2,h⟩:=Qf h
  obtain ⟨ha3,h⟩:=Qf h
  obtain ⟨ha4,h⟩:=Qf h
  obtain ⟨ha5,h⟩:=Qf h
  obtain ⟨ta6,ha6,h⟩:=Qe h
  obtain ⟨ha7,h⟩:=Qf h
  obtain ⟨ta8,ha8,h⟩:=Qe h
  obtain ⟨ha9,h⟩:=Qf h
  obtain ⟨ha10,h⟩:=Qf h
  obtain ⟨ha11,h⟩:=Qf h
  replace h:=Option.some.inj h
  subst h
  exact ⟨100,65,[.br true,.ix 0,.ret (I ta6),.br true,.el (I ta8),.br true,.br true,.no],[],[0,1,8,9],[0,1,2,46,47,50,51,54,58],Qg (ob:=[Qb (sa.1+1),(Int.toNat ta6) < (sa.2).length,0≤ta6∧ta6 < ((sa.2).length:Int),nth (t12.2.2) (Int.toNat sa.1)=some (I ta8),0≤sa.1∧sa.1 < ((t12.2.2).length:Int),Computes cx 48 [.agg [I t13.1,I t13.2.1,.lst false 1 sa.2],.agg [I (a5+(Int.tmod sa.1 t12.1)),I (a6+(Int.tdiv sa.1 t12.1))]] (I ta6),Qb (a6+(Int.tdiv sa.1 t12.1)),Qb (a5+(Int.tmod sa.1 t12.1)),t12.1≠0,Qb (Int.tdiv sa.1 t12.1),t12.1≠0,(decide (sa.1 < (t12.1 * t12.2.1)))=true]) (by kernel_rfl) ⟨ha11,ha10,ha9,ZQ QQ ha8,ha7,(V6 ha6),ha5,ha4,ha2,ha3,ha2,(decide_eq_true ha1),trivial⟩⟩
 ·replace h:=Qk h ha1
  replace h:=Option.some.inj h
  subst h
  exact ⟨⟨100,65,[.br false],[],[],[0,1,2,46,47,50,51,54,58],Qg (ob:=[(decide (sa.1 < (t12.1 * t12.2.1)))=false]) (by kernel_rfl) ⟨(decide_eq_false ha1),trivial⟩⟩,nofun⟩
def Xr (n:Nat) (a0 a1:Int) (a2:List D) (a3 a4 a5 a6:Int):Option (Int×Int×List D×Int) :=
 (Zq n a0 a1 a2).bind fun t1 =>
 (Wd n a3 1 64).bind fun t2 =>
 (Wd n a4 1 64).bind fun t3 =>
 (Ww n ([I t1,I t2,I t3])).bind fun t4 =>
 if t4=0 then
  if a5 < 0 then
   some (0,0,[],14)
  else
  if Qb (a3 - a0) then
  if a5 > (a3 - a0) then
   some (0,0,[],14)
  else
  if a6 < 0 then
   some (0,0,[],14)
  else
  if Qb (a4 - a1) then
  if a6 > (a4 - a1) then
   some (0,0,[],14)
  else
  (Zh n a0 a1 a2).bind fun t12 =>
  (WU n a3 a4).bind fun t13 =>
  if Qb (t12.1 * t12.2.1) then
  (Qz (Yz n a0 a1 a2 a3 a4 a5 a6 t1 t2 t3 t4 t12 t13) n (0,t13.2.2)).bind fun t15 =>
  (ZS n t13.1 t13.2.1 t15).bind fun t16 =>
  some (t16.1,t16.2.1,t16.2.2.1,t16.2.2.2)
  else none
  else none
  else none
 else
 some (0,0,[],t4)
theorem G7 {n:Nat} {a0 a1:Int} {a2:List D} {a3 a4 a5 a6:Int} {r:Int×Int×List D×Int} (h:Xr n a0 a1 a2 a3 a4 a5 a6=some r):Computes cx 22 [.agg [I a0,I a1,.lst false 1 a2],I a3,I a4,.agg [I a5,I a6]] (.tup [.agg [I r.1,I r.2.1,.lst false 1 r.2.2.1],I r.2.2.2]):=by
 unfold Xr at h
 obtain ⟨t1,h1,h⟩:=Qe h
 obtain ⟨t2,h2,h⟩:=Qe h
 obtain ⟨t3,h3,h⟩:=Qe h
 obtain ⟨t4,h4,h⟩:=Qe h
 by_cases h5:t4=0
 ·replace h:=Qj h h5
  by_cases h6:a5 < 0
  ·replace h:=Qj h h6
   replace h:=Option.some.inj h
   subst h
   exact (run (n:=100) (f:=22) (args:=[.agg [I a0,I a1,.lst false 1 a2],I a3,I a4,.agg [I a5,I a6]]) (orc:=[.ret (I t1),.ret (I t2),.ret (I t3),.ret (I t4),.br false,.br true,.no,.no,.no]) (r:=.tup [.agg [I 0,I 0,.lst true 0 []],I 14]) (ob:=[(decide (a5 < 0))=true,(t4 != 0)=false,Computes cx 44 [.lst true 1 [I t1,I t2,I t3]] (I t4),Computes cx 45 [I a4,I 1,I 64] (I t3),Computes cx 45 [I a3,I 1,I 64] (I t2),Computes cx 23 [.agg [I a0,I a1,.lst false 1 a2]] (I t1)]) (by kernel_rfl) ⟨(decide_eq_true h6),(nef h5),((ZA h4).le (.cons (.full _ _ _) (.nil)) (.refl _)),(QF h3),(QF h2),(QL h1),trivial⟩).le (LEs.refl _) (.tups (.cons (.aggs (.cons (.refl _) (.cons (.refl _) (.cons (.nilF) (.nil))))) (.cons (.refl _) (.nil))))
  ·replace h:=Qk h h6
   obtain ⟨h7,h⟩:=Qf h
   by_cases h8:a5 > (a3 - a0)
   ·replace h:=Qj h h8
    replace h:=Option.some.inj h
    subst h
    exact (run (n:=100) (f:=22) (args:=[.agg [I a0,I a1,.lst false 1 a2],I a3,I a4,.agg [I a5,I a6]]) (orc:=[.ret (I t1),.ret (I t2),.ret (I t3),.ret (I t4),.br false,.br false,.br true,.no,.no]) (r:=.tup [.agg [I 0,I 0,.lst true 0 []],I 14]) (ob:=[(decide (a5 > (a3 - a0)))=true,Qb (a3 - a0),(decide (a5 < 0))=false,(t4 != 0)=false,Computes cx 44 [.lst true 1 [I t1,I t2,I t3]] (I t4),Computes cx 45 [I a4,I 1,I 64] (I t3),Computes cx 45 [I a3,I 1,I 64] (I t2),Computes cx 23 [.agg [I a0,I a1,.lst false 1 a2]] (I t1)]) (by kernel_rfl) ⟨(decide_eq_true h8),h7,(decide_eq_false h6),(nef h5),((ZA h4).le (.cons (.full _ _ _) (.nil)) (.refl _)),(QF h3),(QF h2),(QL h1),trivial⟩).le (LEs.refl _) (.tups (.cons (.aggs (.cons (.refl _) (.cons (.refl _) (.cons (.nilF) (.nil))))) (.cons (.refl _) (.nil))))
   ·replace h:=Qk h h8
    by_cases h9:a6 < 0
    ·replace h:=Qj h h9
     replace h:=Option.some.inj h
     subst h
     exact (run (n:=100) (f:=22) (args:=[.agg [I a0,I a1,.lst false 1 a2],I a3,I a4,.agg [I a5,I a6]]) (orc:=[.ret (I t1),.ret (I t2),.ret (I t3),.ret (I t4),.br false,.br false,.br false,.br true,.no]) (r:=.tup [.agg [I 0,I 0,.lst true 0 []],I 14]) (ob:=[(decide (a6 < 0))=true,(decide (a5 > (a3 - a0)))=false,Qb (a3 - a0),(decide (a5 < 0))=false,(t4 != 0)=false,Computes cx 44 [.lst true 1 [I t1,I t2,I t3]] (I t4),Computes cx 45 [I a4,I 1,I 64] (I t3),Computes cx 45 [I a3,I 1,I 64] (I t2),Computes cx 23 [.agg [I a0,I a1,.lst false 1 a2]] (I t1)]) (by kernel_rfl) ⟨(decide_eq_true h9),(decide_eq_false h8),h7,(decide_eq_false h6),(nef h5),((ZA h4).le (.cons (.full _ _ _) (.nil)) (.refl _)),(QF h3),(QF h2),(QL h1),trivial⟩).le (LEs.refl _) (.tups (.cons (.aggs (.cons (.refl _) (.cons (.refl _) (.cons (.nilF) (.nil))))) (.cons (.refl _) (.nil))))
    ·replace h:=Qk h h9
     obtain ⟨h10,h⟩:=Qf h
     by_cases h11:a6 > (a4 - a1)
     ·replace h:=Qj h h11
      replace h:=Option.some.inj h
      subst h
      exact (run (n:=100) (f:=22) (args:=[.agg [I a0,I a1,.lst false 1 a2],I a3,I a4,.agg [I a5,I a6]]) (orc:=[.ret (I t1),.ret (I t2),.ret (I t3),.ret (I t4),.br false,.br false,.br false,.br false,.br true]) (r:=.tup [.agg [I 0,I 0,.lst true 0 []],I 14]) (ob:=[(decide (a6 > (a4 - a1)))=true,Qb (a4 - a1),(decide (a6 < 0))=false,(decide (a5 > (a3 - a0)))=false,Qb (a3 - a0),(decide (a5 < 0))=false,(t4 != 0)=false,Computes cx 44 [.lst true 1 [I t1,I t2,I t3]] (I t4),Computes cx 45 [I a4,I 1,I 64] (I t3),Computes cx 45 [I a3,I 1,I 64] (I t2),Computes cx 23 [.agg [I a0,I a1,.lst false 1 a2]] (I t1)]) (by kernel_rfl) ⟨(decide_eq_true h11),h10,(decide_eq_false h9),(decide_eq_false h8),h7,(decide_eq_false h6),(nef h5),((ZA h4).le (.cons (.full _ _ _) (.nil)) (.refl _)),(QF h3),(QF h2),(QL h1),trivial⟩).le (LEs.refl _) (.tups (.cons (.aggs (.cons (.refl _) (.cons (.refl _) (.cons (.nilF) (.nil))))) (.cons (.refl _) (.nil))))
     ·replace h:=Qk h h11
      obtain ⟨t12,h12,h⟩:=Qe h
      obtain ⟨t13,h13,h⟩:=Qe h
      obtain ⟨h14,h⟩:=Qf h
      obtain ⟨t15,h15,h⟩:=Qe h
      obtain ⟨t16,h16,h⟩:=Qe h
      replace h:=Option.some.inj h
      subst h
      exact run (n:=100) (f:=22) (args:=[.agg [I a0,I a1,.lst false 1 a2],I a3,I a4,.agg [I a5,I a6]]) (orc:=[.ret (I t1),.ret (I t2),.ret (I t3),.ret (I t4),.br false,.br false,.br false,.br false,.br false,.obj none (.agg [.d (I t12.1),.d (I t12.2.1),.own 0 0]) [.row 1 t12.2.2] [true],.obj none (.agg [.d (I t13.1),.d (I t13.2.1),.own 0 0]) [.row 1 t13.2.2] [true],.br true,.lp [] [0,1,8,9] [0,1,2,46,47,50,51,54,58] (.exit 0) [] [(0,.box (.d (.agg [I a0,I a1,.lst false 1 a2]))),(1,.box (.d (.agg [I a5,I a6]))),(2,.box (.d (.agg [I 0,I 0,.lst true 0 []]))),(46,.box (.agg [.d (I t12.1),.d (I t12.2.1),.own 50 0])),(47,.box (.agg [.d (I t13.1),.d (I t13.2.1),.own 51 0])),(50,.row 0 1 t12.2.2),(51,.row 0 1 t15),(54,.box (.agg [.d (I t12.1),.d (I t12.2.1),.own 50 0])),(58,.loop true [(60,.fn (.func 70) [] [.ptr 54 0 0 0 0]),(59,.agg [.d (I t12.1),.d (I t12.2.1),.own 50 0]),(58,.agg [.d (I t13.1),.d (I t13.2.1),.own 51 0]),(57,.d (I a4)),(56,.d (I a3)),(55,.agg [.d (I t12.1),.d (I t12.2.1),.own 50 0]),(54,.d (.agg [I a0,I a1,.lst false 1 a2])),(52,.d (B (decide (a6 > (a4 - a1))))),(51,.d (B (decide (a6 > (a4 - a1))))),(50,.d (I (a4 - a1))),(49,.d (I a1)),(48,.ptr 0 0 0 0 1),(47,.d (I a4)),(46,.d (I a6)),(45,.ptr 1 0 0 0 1),(44,.d (B false)),(43,.d (B (decide (a6 < 0)))),(42,.d (B (decide (a6 < 0)))),(41,.d (I a6)),(40,.ptr 1 0 0 0 1),(39,.d (B false)),(38,.d (B (decide (a5 > (a3 - a0))))),(37,.d (B (decide (a5 > (a3 - a0))))),(36,.d (I (a3 - a0))),(35,.d (I a0)),(34,.ptr 0 0 0 0 0),(33,.d (I a3)),(32,.d (I a5)),(31,.ptr 1 0 0 0 0),(30,.d (B false)),(29,.d (B (decide (a5 < 0)))),(28,.d (I a5)),(27,.ptr 1 0 0 0 0),(24,.d (B (t4 != 0))),(23,.d (I t4)),(22,.d (I t4)),(21,.d (.lst true 1 [I t1,I t2,I t3])),(20,.d (I t3)),(19,.d (I a4)),(18,.d (I t2)),(17,.d (I a3)),(16,.d (I t1)),(15,.d (.agg [I a0,I a1,.lst false 1 a2])),(12,.ptr 47 0 0 0 0),(11,.ptr 46 0 0 0 0),(10,.d (I t4)),(9,.d (I 0)),(8,.ptr 2 0 0 0 0),(7,.ptr 1 0 0 0 0),(4,.ptr 0 0 0 0 0),(3,.d (.agg [I a5,I a6])),(2,.d (I a4)),(1,.d (I a3)),(0,.d (.agg [I a0,I a1,.lst false 1 a2]))] [61,62] (Qv cx.P 22 0).1 (Qv cx.P 22 0).2 88)] 119,.ret (.tup [.agg [I t16.1,I t16.2.1,.lst false 1 t16.2.2.1],I t16.2.2.2])]) (r:=.tup [.agg [I t16.1,I t16.2.1,.lst false 1 t16.2.2.1],I t16.2.2.2]) (ob:=[Computes cx 27 [.agg [I t13.1,I t13.2.1,.lst false 1 t15]] (.tup [.agg [I t16.1,I t16.2.1,.lst false 1 t16.2.2.1],I t16.2.2.2]),QM cx (Qs cx.P 70 0) 26 59 false [(0,.own 58 0),(1,.ptr 54 0 0 0 0),(8,.d (I (t12.1 * t12.2.1))),(9,.d (I 0))] [(0,.box (.d (.agg [I a0,I a1,.lst false 1 a2]))),(1,.box (.d (.agg [I a5,I a6]))),(2,.box (.d (.agg [I 0,I 0,.lst true 0 []]))),(46,.box (.agg [.d (I t12.1),.d (I t12.2.1),.own 50 0])),(47,.box (.agg [.d (I t13.1),.d (I t13.2.1),.own 51 0])),(50,.row 0 1 t12.2.2),(51,.row 0 1 t13.2.2),(54,.box (.agg [.d (I t12.1),.d (I t12.2.1),.own 50 0])),(58,.loop true [(60,.fn (.func 70) [] [.ptr 54 0 0 0 0]),(59,.agg [.d (I t12.1),.d (I t12.2.1),.own 50 0]),(58,.agg [.d (I t13.1),.d (I t13.2.1),.own 51 0]),(57,.d (I a4)),(56,.d (I a3)),(55,.agg [.d (I t12.1),.d (I t12.2.1),.own 50 0]),(54,.d (.agg [I a0,I a1,.lst false 1 a2])),(52,.d (B (decide (a6 > (a4 - a1))))),(51,.d (B (decide (a6 > (a4 - a1))))),(50,.d (I (a4 - a1))),(49,.d (I a1)),(48,.ptr 0 0 0 0 1),(47,.d (I a4)),(46,.d (I a6)),(45,.ptr 1 0 0 0 1),(44,.d (B false)),(43,.d (B (decide (a6 < 0)))),(42,.d (B (decide (a6 < 0)))),(41,.d (I a6)),(40,.ptr 1 0 0 0 1),(39,.d (B false)),(38,.d (B (decide (a5 > (a3 - a0))))),(37,.d (B (decide (a5 > (a3 - a0))))),(36,.d (I (a3 - a0))),(35,.d (I a0)),(34,.ptr 0 0 0 0 0),(33,.d (I a3)),(32,.d (I a5)),(31,.ptr 1 0 0 0 0),(30,.d (B false)),(29,.d (B (decide (a5 < 0)))),(28,.d (I a5)),(27,.ptr 1 0 0 0 0),(24,.d (B (t4 != 0))),(23,.d (I t4)),(22,.d (I t4)),(21,.d (.lst true 1 [I t1,I t2,I t3])),(20,.d (I t3)),(19,.d (I a4)),(18,.d (I t2)),(17,.d (I a3)),(16,.d (I t1)),(15,.d (.agg [I a0,I a1,.lst false 1 a2])),(12,.ptr 47 0 0 0 0),(11,.ptr 46 0 0 0 0),(10,.d (I t4)),(9,.d (I 0)),(8,.ptr 2 0 0 0 0),(7,.ptr 1 0 0 0 0),(4,.ptr 0 0 0 0 0),(3,.d (.agg [I a5,I a6])),(2,.d (I a4)),(1,.d (I a3)),(0,.d (.agg [I a0,I a1,.lst false 1 a2]))] [61,62] (Qv cx.P 22 0).1 (Qv cx.P 22 0).2 88)] (.exit 0) [] [(0,.box (.d (.agg [I a0,I a1,.lst false 1 a2]))),(1,.box (.d (.agg [I a5,I a6]))),(2,.box (.d (.agg [I 0,I 0,.lst true 0 []]))),(46,.box (.agg [.d (I t12.1),.d (I t12.2.1),.own 50 0])),(47,.box (.agg [.d (I t13.1),.d (I t13.2.1),.own 51 0])),(50,.row 0 1 t12.2.2),(51,.row 0 1 t15),(54,.box (.agg [.d (I t12.1),.d (I t12.2.1),.own 50 0])),(58,.loop true [(60,.fn (.func 70) [] [.ptr 54 0 0 0 0]),(59,.agg [.d (I t12.1),.d (I t12.2.1),.own 50 0]),(58,.agg [.d (I t13.1),.d (I t13.2.1),.own 51 0]),(57,.d (I a4)),(56,.d (I a3)),(55,.agg [.d (I t12.1),.d (I t12.2.1),.own 50 0]),(54,.d (.agg [I a0,I a1,.lst false 1 a2])),(52,.d (B (decide (a6 > (a4 - a1))))),(51,.d (B (decide (a6 > (a4 - a1))))),(50,.d (I (a4 - a1))),(49,.d (I a1)),(48,.ptr 0 0 0 0 1),(47,.d (I a4)),(46,.d (I a6)),(45,.ptr 1 0 0 0 1),(44,.d (B false)),(43,.d (B (decide (a6 < 0)))),(42,.d (B (decide (a6 < 0)))),(41,.d (I a6)),(40,.ptr 1 0 0 0 1),(39,.d (B false)),(38,.d (B (decide (a5 > (a3 - a0))))),(37,.d (B (decide (a5 > (a3 - a0))))),(36,.d (I (a3 - a0))),(35,.d (I a0)),(34,.ptr 0 0 0 0 0),(33,.d (I a3)),(32,.d (I a5)),(31,.ptr 1 0 0 0 0),(30,.d (B false)),(29,.d (B (decide (a5 < 0)))),(28,.d (I a5)),(27,.ptr 1 0 0 0 0),(24,.d (B (t4 != 0))),(23,.d (I t4)),(22,.d (I t4)),(21,.d (.lst true 1 [I t1,I t2,I t3])),(20,.d (I t3)),(19,.d (I a4)),(18,.d (I t2)),(17,.d (I a3)),(16,.d (I t1)),(15,.d (.agg [I a0,I a1,.lst false 1 a2])),(12,.ptr 47 0 0 0 0),(11,.ptr 46 0 0 0 0),(10,.d (I t4)),(9,.d (I 0)),(8,.ptr 2 0 0 0 0),(7,.ptr 1 0 0 0 0),(4,.ptr 0 0 0 0 0),(3,.d (.agg [I a5,I a6])),(2,.d (I a4)),(1,.d (I a3)),(0,.d (.agg [I a0,I a1,.lst false 1 a2]))] [61,62] (Qv cx.P 22 0).1 (Qv cx.P 22 0).2 88)],Qb (t12.1 * t12.2.1),Z4 cx 46 [I a3,I a4] 1 t13.2.2 (.agg [.d (I t13.1),.d (I t13.2.1),.own 0 0]),Z4 cx 24 [.agg [I a0,I a1,.lst false 1 a2]] 1 t12.2.2 (.agg [.d (I t12.1),.d (I t12.2.1),.own 0 0]),(decide (a6 > (a4 - a1)))=false,Qb (a4 - a1),(decide (a6 < 0))=false,(decide (a5 > (a3 - a0)))=false,Qb (a3 - a0),(decide (a5 < 0))=false,(t4 != 0)=false,Computes cx 44 [.lst true 1 [I t1,I t2,I t3]] (I t4),Computes cx 45 [I a4,I 1,I 64] (I t3),Computes cx 45 [I a3,I 1,I 64] (I t2),Computes cx 23 [.agg [I a0,I a1,.lst false 1 a2]] (I t1)]) (by kernel_rfl) ⟨(Yu h16),(Qu zg h15),h14,(Kf h13),(WV h12),(decide_eq_false h11),h10,(decide_eq_false h9),(decide_eq_false h8),h7,(decide_eq_false h6),(nef h5),((ZA h4).le (.cons (.full _ _ _) (.nil)) (.refl _)),(QF h3),(QF h2),(QL h1),trivial⟩
 ·replace h:=Qk h h5
  replace h:=Option.some.inj h
  subst h
  exact (run (n:=100) (f:=22) (args:=[.agg [I a0,I a1,.lst false 1 a2],I a3,I a4,.agg [I a5,I a6]]) (orc:=[.ret (I t1),.ret (I t2),.ret (I t3),.ret (I t4),.br true]) (r:=.tup [.agg [I 0,I 0,.lst true 0 []],I t4]) (ob:=[(t4 != 0)=true,Computes cx 44 [.lst true 1 [I t1,I t2,I t3]] (I t4),Computes cx 45 [I a4,I 1,I 64] (I t3),Computes cx 45 [I a3,I 1,I 64] (I t2),Computes cx 23 [.agg [I a0,I a1,.lst false 1 a2]] (I t1)]) (by kernel_rfl) ⟨(net h5),((ZA h4).le (.cons (.full _ _ _) (.nil)) (.refl _)),(QF h3),(QF h2),(QL h1),trivial⟩).le (LEs.refl _) (.tups (.cons (.aggs (.cons (.refl _) (.cons (.refl _) (.cons (.nilF) (.nil))))) (.cons (.refl _) (.nil))))
def ZF (n:Nat) (a0 a1:Int) (a2:List D) (t3 t4:Int×Int×List D) (sa:(Int×List D)):Option (((Int×List D))⊕((List D))) :=
 if sa.1 < (t4.1 * t4.2.1) then
  if t4.1≠0 then
  if Qb (Int.tdiv sa.1 t4.1) then
  if Qb (a0 - 1) then
  if Qb ((a0 - 1) - (Int.tmod sa.1 t4.1)) then
  (ZE n t3.1 t3.2.1 t3.2.2 ((a0 - 1) - (Int.tmod sa.1 t4.1)) (Int.tdiv sa.1 t4.1)).bind fun ta6 =>
  if 0≤ta6∧ta6 < ((t3.2.2).length:Int) then
  ((nth (t3.2.2) (Int.toNat ta6)).bind un_i).bind fun ta8 =>
  if 0≤sa.1∧sa.1 < ((sa.2).length:Int) then
  if (Int.toNat sa.1) < (sa.2).length then
  if Qb (sa.1+1) then
  some (.inl ((sa.1+1),(List.set sa.2 (Int.toNat sa.1) (I ta8:D))))
  else none
  else none
  else none
  else none
  else none
  else none
  else none
  else none
 else
 some (.inr sa.2)
noncomputable def ES (a0 a1:Int) (a2:List D) (t3 t4:Int×Int×List D) (sa:(Int×List D)):List (Nat×AV):=[(0,.own 36 0),(1,.ptr 32 0 0 0 0),(8,.d (I (t4.1 * t4.2.1))),(9,.d (I sa.1))]
noncomputable def EX (a0 a1:Int) (a2:List D) (t3 t4:Int×Int×List D) (sa:(Int×List D)):List (Nat×Blk):=[(0,.box (.d (.agg [I a0,I a1,.lst false 1 a2]))),(1,.box (.d (.agg [I 0,I 0,.lst true 0 []]))),(9,.row 0 1 t3.2.2),(21,.box (.agg [.d (I t3.1),.d (I t3.2.1),.own 9 0])),(22,.box (.fn (.func 26) [] [.ptr 0 0 0 0 0])),(23,.box (.d (.agg [I 0,I 0,.lst true 0 []]))),(27,.box (.agg [.d (I t4.1),.d (I t4.2.1),.own 29 0])),(29,.row 0 1 sa.2),(32,.box (.agg [.d (I t4.1),.d (I t4.2.1),.own 29 0])),(36,.loop true [(16,.fn (.func 70) [] [.ptr 32 0 0 0 0]),(15,.agg [.d (I t4.1),.d (I t4.2.1),.own 29 0]),(14,.agg [.d (I t4.1),.d (I t4.2.1),.own 29 0]),(13,.d (I a1)),(12,.d (I a0)),(9,.ptr 27 0 0 0 0),(8,.ptr 23 0 0 0 0),(7,.ptr 22 0 0 0 0),(4,.ptr 21 0 0 0 0),(3,.fn (.func 26) [] [.ptr 0 0 0 0 0]),(2,.d (I a1)),(1,.d (I a0)),(0,.agg [.d (I t3.1),.d (I t3.2.1),.own 9 0])] [17,18] (Qv cx.P 25 0).1 (Qv cx.P 25 0).2 33)]
noncomputable def EC (a0 a1:Int) (a2:List D) (t3 t4:Int×Int×List D) (e:(List D)):Ex:=(.exit 0)
noncomputable def XU (a0 a1:Int) (a2:List D) (t3 t4:Int×Int×List D) (e:(List D)):List (Nat×AV):=[]
noncomputable def XW (a0 a1:Int) (a2:List D) (t3 t4:Int×Int×List D) (e:(List D)):List (Nat×Blk):=[(0,.box (.d (.agg [I a0,I a1,.lst false 1 a2]))),(1,.box (.d (.agg [I 0,I 0,.lst true 0 []]))),(9,.row 0 1 t3.2.2),(21,.box (.agg [.d (I t3.1),.d (I t3.2.1),.own 9 0])),(22,.box (.fn (.func 26) [] [.ptr 0 0 0 0 0])),(23,.box (.d (.agg [I 0,I 0,.lst true 0 []]))),(27,.box (.agg [.d (I t4.1),.d (I t4.2.1),.own 29 0])),(29,.row 0 1 e),(32,.box (.agg [.d (I t4.1),.d (I t4.2.1),.own 29 0])),(36,.loop true [(16,.fn (.func 70) [] [.ptr 32 0 0 0 0]),(15,.agg [.d (I t4.1),.d (I t4.2.1),.own 29 0]),(14,.agg [.d (I t4.1),.d (I t4.2.1),.own 29 0]),(13,.d (I a1)),(12,.d (I a0)),(9,.ptr 27 0 0 0 0),(8,.ptr 23 0 0 0 0),(7,.ptr 22 0 0 0 0),(4,.ptr 21 0 0 0 0),(3,.fn (.func 26) [] [.ptr 0 0 0 0 0]),(2,.d (I a1)),(1,.d (I a0)),(0,.agg [.d (I t3.1),.d (I t3.2.1),.own 9 0])] [17,18] (Qv cx.P 25 0).1 (Qv cx.P 25 0).2 33)]
theorem EV {n:Nat} {a0 a1:Int} {a2:List D} {t3 t4:Int×Int×List D} (sa:(Int×List D)) (r) (h:ZF n a0 a1 a2 t3 t4 sa=some r):Rd cx (Qs cx.P 70 0) 26 37 false (ES a0 a1 a2 t3 t4) (EX a0 a1 a2 t3 t4) (EC a0 a1 a2 t3 t4) (XU a0 a1 a2 t3 t4) (XW a0 a1 a2 t3 t4) sa r:=by
 unfold ZF at h
 by_cases ha1:sa.1 < (t4.1 * t4.2.1)
 ·replace h:=Qj h ha1
  obtain ⟨ha2,h⟩:=Qf h
  obtain ⟨ha3,h⟩:=Qf h
  obtain ⟨ha4,h⟩:=Qf h
  obtain ⟨ha5,h⟩:=Qf h
  obtain ⟨ta6,ha6,h⟩:=Qe h
  obtain ⟨ha7,h⟩:=Qf h
  obtain ⟨ta8,ha8,h⟩:=Qe h
  obtain ⟨ha9,h⟩:=Qf h
  obtain ⟨ha10,h⟩:=Qf h
  obtain ⟨ha11,h⟩:=Qf h
  replace h:=Option.some.inj h
  subst h
  exact ⟨100,43,[.br true,.no,.ix 0,.ret (I ta6),.br true,.el (I ta8),.br true,.br true,.no],[],[0,1,8,9],[0,1,9,21,22,23,27,29,32,36],Qg (ob:=[Qb (sa.1+1),(Int.toNat sa.1) < (sa.2).length,0≤sa.1∧sa.1 < ((sa.2).length:Int),nth (t3.2.2) (Int.toNat ta6)=some (I ta8),0≤ta6∧ta6 < ((t3.2.2).length:Int),Computes cx 48 [.agg [I t3.1,I t3.2.1,.lst false 1 t3.2.2],.agg [I ((a0 - 1) - (Int.tmod sa.1 t4.1)),I (Int.tdiv sa.1 t4.1)]] (I ta6),Qb ((a0 - 1) - (Int.tmod sa.1 t4.1)),Qb (a0 - 1),t4.1≠0,Qb (Int.tdiv sa.1 t4.1),t4.1≠0,(decide (sa.1 < (t4.1 * t4.2.1)))=true]) (by kernel_rfl) ⟨ha11,ha10,ha9,ZQ QQ ha8,ha7,(V6 ha6),ha5,ha4,ha2,ha3,ha2,(decide_eq_true ha1),trivial⟩⟩
 ·replace h:=Qk h ha1
  replace h:=Option.some.inj h
  subst h
  exact ⟨⟨100,43,[.br false],[],[],[0,1,9,21,22,23,27,29,32,36],Qg (ob:=[(decide (sa.1 < (t4.1 * t4.2.1)))=false]) (by kernel_rfl) ⟨(decide_eq_false ha1),trivial⟩⟩,nofun⟩
def WL (n:Nat) (a0 a1:Int) (a2:List D):Option (Int×Int×List D×Int) :=
 (Zq n a0 a1 a2).bind fun t1 =>
 if t1=0 then
  (Zh n a0 a1 a2).bind fun t3 =>
  (WU n a0 a1).bind fun t4 =>
  if Qb (t4.1 * t4.2.1) then
  (Qz (ZF n a0 a1 a2 t3 t4) n (0,t4.2.2)).bind fun t6 =>
  (ZS n t4.1 t4.2.1 t6).bind fun t7 =>
  some (t7.1,t7.2.1,t7.2.2.1,t7.2.2.2)
  else none
 else
 some (0,0,[],t1)
theorem WJ {n:Nat} {a0 a1:Int} {a2:List D} {r:Int×Int×List D×Int} (h:WL n a0 a1 a2=some r):Computes cx 8 [.agg [I a0,I a1,.lst false 1 a2]] (.tup [.agg [I r.1,I r.2.1,.lst false 1 r.2.2.1],I r.2.2.2]):=by
 unfold WL at h
 obtain ⟨t1,h1,h⟩:=Qe h
 by_cases h2:t1=0
 ·replace h:=Qj h h2
  obtain ⟨t3,h3,h⟩:=Qe h
  obtain ⟨t4,h4,h⟩:=Qe h
  obtain ⟨h5,h⟩:=Qf h
  obtain ⟨t6,h6,h⟩:=Qe h
  obtain ⟨t7,h7,h⟩:=Qe h
  replace h:=Option.some.inj h
  subst h
  exact run (n:=100) (f:=8) (args:=[.agg [I a0,I a1,.lst false 1 a2]]) (orc:=[.ret (I t1),.br false,.obj none (.agg [.d (I t3.1),.d (I t3.2.1),.own 0 0]) [.row 1 t3.2.2] [true],.ix (-9),.br true,.obj none (.agg [.d (I t4.1),.d (I t4.2.1),.own 0 0]) [.row 1 t4.2.2] [true],.br true,.lp [] [0,1,8,9] [0,1,9,21,22,23,27,29,32,36] (.exit 0) [] [(0,.box (.d (.agg [I a0,I a1,.lst false 1 a2]))),(1,.box (.d (.agg [I 0,I 0,.lst true 0 []]))),(9,.row 0 1 t3.2.2),(21,.box (.agg [.d (I t3.1),.d (I t3.2.1),.own 9 0])),(22,.box (.fn (.func 26) [] [.ptr 0 0 0 0 0])),(23,.box (.d (.agg [I 0,I 0,.lst true 0 []]))),(27,.box (.agg [.d (I t4.1),.d (I t4.2.1),.own 29 0])),(29,.row 0 1 t6),(32,.box (.agg [.d (I t4.1),.d (I t4.2.1),.own 29 0])),(36,.loop true [(16,.fn (.func 70) [] [.ptr 32 0 0 0 0]),(15,.agg [.d (I t4.1),.d (I t4.2.1),.own 29 0]),(14,.agg [.d (I t4.1),.d (I t4.2.1),.own 29 0]),(13,.d (I a1)),(12,.d (I a0)),(9,.ptr 27 0 0 0 0),(8,.ptr 23 0 0 0 0),(7,.ptr 22 0 0 0 0),(4,.ptr 21 0 0 0 0),(3,.fn (.func 26) [] [.ptr 0 0 0 0 0]),(2,.d (I a1)),(1,.d (I a0)),(0,.agg [.d (I t3.1),.d (I t3.2.1),.own 9 0])] [17,18] (Qv cx.P 25 0).1 (Qv cx.P 25 0).2 33)] 89,.ix (-9),.ret (.tup [.agg [I t7.1,I t7.2.1,.lst false 1 t7.2.2.1],I t7.2.2.2])]) (r:=.tup [.agg [I t7.1,I t7.2.1,.lst false 1 t7.2.2.1],I t7.2.2.2]) (ob:=[Computes cx 27 [.agg [I t4.1,I t4.2.1,.lst false 1 t6]] (.tup [.agg [I t7.1,I t7.2.1,.lst false 1 t7.2.2.1],I t7.2.2.2]),QM cx (Qs cx.P 70 0) 26 37 false [(0,.own 36 0),(1,.ptr 32 0 0 0 0),(8,.d (I (t4.1 * t4.2.1))),(9,.d (I 0))] [(0,.box (.d (.agg [I a0,I a1,.lst false 1 a2]))),(1,.box (.d (.agg [I 0,I 0,.lst true 0 []]))),(9,.row 0 1 t3.2.2),(21,.box (.agg [.d (I t3.1),.d (I t3.2.1),.own 9 0])),(22,.box (.fn (.func 26) [] [.ptr 0 0 0 0 0])),(23,.box (.d (.agg [I 0,I 0,.lst true 0 []]))),(27,.box (.agg [.d (I t4.1),.d (I t4.2.1),.own 29 0])),(29,.row 0 1 t4.2.2),(32,.box (.agg [.d (I t4.1),.d (I t4.2.1),.own 29 0])),(36,.loop true [(16,.fn (.func 70) [] [.ptr 32 0 0 0 0]),(15,.agg [.d (I t4.1),.d (I t4.2.1),.own 29 0]),(14,.agg [.d (I t4.1),.d (I t4.2.1),.own 29 0]),(13,.d (I a1)),(12,.d (I a0)),(9,.ptr 27 0 0 0 0),(8,.ptr 23 0 0 0 0),(7,.ptr 22 0 0 0 0),(4,.ptr 21 0 0 0 0),(3,.fn (.func 26) [] [.ptr 0 0 0 0 0]),(2,.d (I a1)),(1,.d (I a0)),(0,.agg [.d (I t3.1),.d (I t3.2.1),.own 9 0])] [17,18] (Qv cx.P 25 0).1 (Qv cx.P 25 0).2 33)] (.exit 0) [] [(0,.box (.d (.agg [I a0,I a1,.lst false 1 a2]))),(1,.box (.d (.agg [I 0,I 0,.lst true 0 []]))),(9,.row 0 1 t3.2.2),(21,.box (.agg [.d (I t3.1),.d (I t3.2.1),.own 9 0])),(22,.box (.fn (.func 26) [] [.ptr 0 0 0 0 0])),(23,.box (.d (.agg [I 0,I 0,.lst true 0 []]))),(27,.box (.agg [.d (I t4.1),.d (I t4.2.1),.own 29 0])),(29,.row 0 1 t6),(32,.box (.agg [.d (I t4.1),.d (I t4.2.1),.own 29 0])),(36,.loop true [(16,.fn (.func 70) [] [.ptr 32 0 0 0 0]),(15,.agg [.d (I t4.1),.d (I t4.2.1),.own 29 0]),(14,.agg [.d (I t4.1),.d (I t4.2.1),.own 29 0]),(13,.d (I a1)),(12,.d (I a0)),(9,.ptr 27 0 0 0 0),(8,.ptr 23 0 0 0 0),(7,.ptr 22 0 0 0 0),(4,.ptr 21 0 0 0 0),(3,.fn (.func 26) [] [.ptr 0 0 0 0 0]),(2,.d (I a1)),(1,.d (I a0)),(0,.agg [.d (I t3.1),.d (I t3.2.1),.own 9 0])] [17,18] (Qv cx.P 25 0).1 (Qv cx.P 25 0).2 33)],Qb (t4.1 * t4.2.1),Z4 cx 46 [I a0,I a1] 1 t4.2.2 (.agg [.d (I t4.1),.d (I t4.2.1),.own 0 0]),Z4 cx 24 [.agg [I a0,I a1,.lst false 1 a2]] 1 t3.2.2 (.agg [.d (I t3.1),.d (I t3.2.1),.own 0 0]),(t1 != 0)=false,Computes cx 23 [.agg [I a0,I a1,.lst false 1 a2]] (I t1)]) (by kernel_rfl) ⟨(Yu h7),(Qu EV h6),h5,(Kf h4),(WV h3),(nef h2),(QL h1),trivial⟩
 ·replace h:=Qk h h2
  replace h:=Option.some.inj h
  subst h
  exact (run (n:=100) (f:=8) (args:=[.agg [I a0,I a1,.lst false 1 a2]]) (orc:=[.ret (I t1),.br true]) (r:=.tup [.agg [I 0,I 0,.lst true 0 []],I t1]) (ob:=[(t1 != 0)=true,Computes cx 23 [.agg [I a0,I a1,.lst false 1 a2]] (I t1)]) (by kernel_rfl) ⟨(net h2),(QL h1),trivial⟩).le (LEs.refl _) (.tups (.cons (.aggs (.cons (.refl _) (.cons (.refl _) (.cons (.nilF) (.nil))))) (.cons (.refl _) (.nil))))
set_option maxRecDepth 100000
noncomputable def cxE:Cx:={ P:=cx.P,G:=cx.G,E:=fun f=>Nat.beq f 25 || Nat.beq f 27 }
theorem Qgt:NoAsk cxE:=⟨noAsk.ask,fun f g ds r h1 h2=>by cases h1⟩
def fl2:D:=.v (.float .f32 1073741824)
def fl0:D:=.v (.float .f32 0)
def GQ:List D:=[fl0,fl0,fl0,fl0,fl0,fl2,fl0,fl0,fl0,fl0,fl0,fl0]
def GP:List D:=[fl0,fl0,fl0,fl0,fl0,fl0,fl2,fl0,fl0,fl0,fl0,fl0]
def uK:D:=.agg [I 1,I 1,.lst true 1 [fl2]]
theorem Qgq:Computes cx 22 [uK,I 4,I 3,.agg [I 1,I 1]] (.tup [.agg [I 4,I 3,.lst false 1 GQ],I 0]):=(G7 (n:=200) (a0:=1) (a1:=1) (a2:=[fl2]) (a3:=4) (a4:=3) (a5:=1) (a6:=1) (r:=(4,3,GQ,0)) (by kernel_rfl)).le (.cons (.agg _ _ rfl (LEs.get (.cons (.refl _) (.cons (.refl _) (.cons (.full _ _ _) .nil))))) (.cons (.refl _) (.cons (.refl _) (.cons (.refl _) .nil)))) (.refl _)
theorem Qgp:Computes cx 22 [uK,I 4,I 3,.agg [I 2,I 1]] (.tup [.agg [I 4,I 3,.lst false 1 GP],I 0]):=(G7 (n:=200) (a0:=1) (a1:=1) (a2:=[fl2]) (a3:=4) (a4:=3) (a5:=2) (a6:=1) (r:=(4,3,GP,0)) (by kernel_rfl)).le (.cons (.agg _ _ rfl (LEs.get (.cons (.refl _) (.cons (.refl _) (.cons (.full _ _ _) .nil))))) (.cons (.refl _) (.cons (.refl _) (.cons (.refl _) .nil)))) (.refl _)
theorem QgT:Computes cx 8 [.agg [I 4,I 3,.lst false 1 GQ]] (.tup [.agg [I 4,I 3,.lst false 1 GP],I 0]):=WJ (n:=200) (a0:=4) (a1:=3) (a2:=GQ) (r:=(4,3,GP,0)) (by kernel_rfl)
theorem QgS:Computes cx 8 [.agg [I 4,I 3,.lst false 1 GP]] (.tup [.agg [I 4,I 3,.lst false 1 GQ],I 0]):=WJ (n:=200) (a0:=4) (a1:=3) (a2:=GP) (r:=(4,3,GQ,0)) (by kernel_rfl)
theorem QaU {l:List Tri} {x:Tri} (hx:x∈l) (h:∀ y,y∈l→y=x ∨ qt x y < 0):(Uq l)[0]?=some x:=by
 obtain ⟨h1,h2⟩:=Xw l
 obtain ⟨i,hi,hxi⟩:=List.mem_iff_getElem.1 (h1.mem_iff.2 hx)
 have h0:0 < (Uq l).length:=by omega
 have hy:(Uq l)[0]?=some (Uq l)[0]:=List.getElem?_eq_getElem h0
 rcases h _ (h1.mem_iff.1 (List.getElem_mem h0)) with he | he
 ·rw [hy,he]
 ·exfalso
  by_cases hz:i=0
  ·subst hz
   rw [hxi,cmpT_ok.refl] at he;omega
  ·have:=h2 0 i (by omega) _ _ hy (by rw [List.getElem?_eq_getElem hi,hxi])
   have a:=cmpT_ok.anti x (Uq l)[0]
   omega
def tr (t:Int×Int×Int×Int):Tri:=if h:X2 t then ⟨t,h⟩ else default
def trsA:List Tri:=[(-1,-1,2048,6),(0,-1,2048,8),(1,-1,2048,6),(-1,0,2048,9),(0,0,2048,12),(1,0,0,9),(-1,1,2048,6),(0,1,2048,8),(1,1,2048,6)].map tr
def trsB:List Tri:=[(-1,-1,2048,6),(0,-1,2048,8),(1,-1,2048,6),(-1,0,0,9),(0,0,2048,12),(1,0,2048,9),(-1,1,2048,6),(0,1,2048,8),(1,1,2048,6)].map tr
theorem minA:∀ y,y∈trsA→y=tr (1,0,0,9) ∨ qt (tr (1,0,0,9)) y < 0:=by decide
theorem minB:∀ y,y∈trsB→y=tr (-1,0,0,9) ∨ qt (tr (-1,0,0,9)) y < 0:=by decide
theorem zx {n:Nat} {l:List Tri} (h:Eb (l.map Y4)=some l) (hl:l.length≤1000):Wm n (l.map Y4)=some ((Uq l).map Y4):=by
 unfold Wm
 rw [List.length_map,if_pos hl,h];rfl
theorem Qdb {l:List Tri} {x:Tri} (h:(Uq l)[0]?=some x):el E2 ((Uq l).map Y4) 0=some x.1:=by
 unfold el
 rw [if_pos (by omega),show Int.toNat 0=0 from rfl,Jr,List.getElem?_map,h];rfl
theorem Qgn:QY 200 4 3 GQ 4 3 GP 1 4=some (1,0,0,1,0):=by
 have hl:(Uq trsA).length=9:=(Xw trsA).1.length_eq
 unfold QY ZU
 rw [show ZG 200 4 3 GQ 4 3 GP 1 4=some 0 by kernel_rfl,Option.bind_some,if_pos rfl,if_pos (by unfold Qb;omega),if_pos (by unfold Qb;omega),show Qz (QR 200 4 3 GQ 4 3 GP 1 4) 200 (0,[])=some (trsA.map Y4) by kernel_rfl,Option.bind_some,if_pos (by rfl),
  zx (by kernel_rfl) (by decide),Option.bind_some,Option.bind_some,List.length_map,hl,if_neg (by decide),Qdb (QaU (x:=tr (1,0,0,9)) (by decide) minA),Option.bind_some]
 show (ZB 200 0 9).bind _=_
 rw [show ZB 200 0 9=some (0,1) by kernel_rfl]
 rfl
theorem Qgm:QY 200 4 3 GP 4 3 GQ 1 4=some (-1,0,0,1,0):=by
 have hl:(Uq trsB).length=9:=(Xw trsB).1.length_eq
 unfold QY ZU
 rw [show ZG 200 4 3 GP 4 3 GQ 1 4=some 0 by kernel_rfl,Option.bind_some,if_pos rfl,if_pos (by unfold Qb;omega),if_pos (by unfold Qb;omega),show Qz (QR 200 4 3 GP 4 3 GQ 1 4) 200 (0,[])=some (trsB.map Y4) by kernel_rfl,Option.bind_some,if_pos (by rfl),
  zx (by kernel_rfl) (by decide),Option.bind_some,Option.bind_some,List.length_map,hl,if_neg (by decide),Qdb (QaU (x:=tr (-1,0,0,9)) (by decide) minB),Option.bind_some]
 show (ZB 200 0 9).bind _=_
 rw [show ZB 200 0 9=some (0,1) by kernel_rfl]
 rfl
def kT:List (Nat×List D×D):=[(22,[uK,I 4,I 3,.agg [I 1,I 1]],.tup [.agg [I 4,I 3,.lst false 1 GQ],I 0]),(22,[uK,I 4,I 3,.agg [I 2,I 1]],.tup [.agg [I 4,I 3,.lst false 1 GP],I 0]),
 (8,[.agg [I 4,I 3,.lst false 1 GQ]],.tup [.agg [I 4,I 3,.lst false 1 GP],I 0]),(8,[.agg [I 4,I 3,.lst false 1 GP]],.tup [.agg [I 4,I 3,.lst false 1 GQ],I 0]),
 (17,[.agg [I 4,I 3,.lst false 1 GQ],.agg [I 4,I 3,.lst false 1 GP],I 1,I 4],.tup [.agg [I 1,I 0],.agg [I 0,I 1],I 0]),
 (17,[.agg [I 4,I 3,.lst false 1 GP],.agg [I 4,I 3,.lst false 1 GQ],I 1,I 4],.tup [.agg [I (-1),I 0],.agg [I 0,I 1],I 0])]
theorem QgR:AllK cxE kT:=⟨Qgq,Qgp,QgT,QgS,Vk Qgn,Vk Qgm,trivial⟩
theorem QgF:Computes cx 5 [] (B true):=runK (cx:=cxE) Qgt qf (Qfy QgR) (n:=1000000) (ob:=[]) (by kernel_rfl) trivial
def Wv (n:Nat):Option Bool:=some true
theorem WR {n:Nat} {r:Bool} (h:Wv n=some r):Computes cx 5 [] (B r):=by cases h;exact QgF
set_option maxRecDepth 10000
def UH (n:Nat)  : Option (Int) :=
 some 3
theorem Qat {n:Nat}  {r:Int} (h:UH n =some r):Computes cx 20 [B true,I 3] (I r):=by
 unfold UH at h
 replace h:=Option.some.inj h
 subst h
 exact run (n:=100) (f:=20) (args:=[B true,I 3]) (orc:=[.no]) (r:=I 3) (ob:=[]) (by kernel_rfl) trivial
def Zf (n:Nat) (a0:Bool) (a1:Int):Option (Int) :=
 if a0=true then
  some a1
 else
 some 0
theorem Kb {n:Nat} {a0:Bool} {a1:Int} {r:Int} (h:Zf n a0 a1=some r):Computes cx 20 [B a0,I a1] (I r):=by
 unfold Zf at h
 by_cases h1:a0=true
 ·replace h:=Qj h h1
  replace h:=Option.some.inj h
  subst h
  exact run (n:=100) (f:=20) (args:=[B a0,I a1]) (orc:=[.br true]) (r:=I a1) (ob:=[a0=true]) (by kernel_rfl) ⟨h1,trivial⟩
 ·replace h:=Qk h h1
  replace h:=Option.some.inj h
  subst h
  exact run (n:=100) (f:=20) (args:=[B a0,I a1]) (orc:=[.br false]) (r:=I 0) (ob:=[a0=false]) (by kernel_rfl) ⟨(QJ h1),trivial⟩
def WC (n:Nat) (a0 a1 a2:Int):Option (Int) :=
 if a0 < a1 then
  (UH n).bind fun t2 =>
  some t2
 else
 (Zf n (decide (a0 > a2)) 3).bind fun t2 =>
 some t2
theorem Ez {n:Nat} {a0 a1 a2:Int} {r:Int} (h:WC n a0 a1 a2=some r):Computes cx 73 [I a0,I a1,I a2] (I r):=by
 unfold WC at h
 by_cases h1:a0 < a1
 ·replace h:=Qj h h1
  obtain ⟨t2,h2,h⟩:=Qe h
  replace h:=Option.some.inj h
  subst h
  exact run (n:=100) (f:=73) (args:=[I a0,I a1,I a2]) (orc:=[.br true,.ret (I t2)]) (r:=I t2) (ob:=[Computes cx 20 [B true,I 3] (I t2),(decide (a0 < a1))=true]) (by kernel_rfl) ⟨(Qat h2),(decide_eq_true h1),trivial⟩
 ·replace h:=Qk h h1
  obtain ⟨t2,h2,h⟩:=Qe h
  replace h:=Option.some.inj h
  subst h
  exact run (n:=100) (f:=73) (args:=[I a0,I a1,I a2]) (orc:=[.br false,.ret (I t2)]) (r:=I t2) (ob:=[Computes cx 20 [B (decide (a0 > a2)),I 3] (I t2),(decide (a0 < a1))=false]) (by kernel_rfl) ⟨(Kb h2),(decide_eq_false h1),trivial⟩
def ZR (n:Nat) (a0:Int):Option (Int) :=
 (WC n a0 1 64).bind fun t1 =>
 some t1
theorem Wg {n:Nat} {a0:Int} {r:Int} (h:ZR n a0=some r):Computes cx 55 [I a0] (I r):=by
 unfold ZR at h
 obtain ⟨t1,h1,h⟩:=Qe h
 replace h:=Option.some.inj h
 subst h
 exact run (n:=100) (f:=55) (args:=[I a0]) (orc:=[.ret (I t1)]) (r:=I t1) (ob:=[Computes cx 73 [I a0,I 1,I 64] (I t1)]) (by kernel_rfl) ⟨(Ez h1),trivial⟩
def W2 (n:Nat) (a0:List D) (sa:(Int)):Option (((Int))⊕((Int)⊕(Unit))) :=
 if sa < ((a0).length:Int) then
  (el un_i a0 sa).bind fun ta2 =>
  if ta2=0 then
   if Qb (sa+1) then
   some (.inl (sa+1))
   else none
  else
  some (.inr (.inl ta2))
 else
 some (.inr (.inr ()))
noncomputable def wo (a0:List D) (sa:(Int)):List (Nat×AV):=[(0,.d (.lst false 1 a0)),(3,.d (I sa))]
noncomputable def wu (a0:List D) (sa:(Int)):List (Nat×Blk):=[]
noncomputable def wi (a0:List D) (e:(Int)⊕(Unit)):Ex:=match e with
 | (.inl e)=>.ret
 | (.inr e)=>(.exit 0)
noncomputable def qO (a0:List D) (e:(Int)⊕(Unit)):List (Nat×AV):=match e with
 | (.inl e)=>[(2,.d (I e))]
 | (.inr e)=>[]
noncomputable def qS (a0:List D) (e:(Int)⊕(Unit)):List (Nat×Blk):=match e with
 | (.inl e)=>[]
 | (.inr e)=>[]
theorem JG {n:Nat} {a0:List D} (sa:(Int)) (r) (h:W2 n a0 sa=some r):Rd cx (Qs cx.P 19 0) 19 0 false (wo a0) (wu a0) (wi a0) (qO a0) (qS a0) sa r:=by
 unfold W2 at h
 by_cases ha1:sa < ((a0).length:Int)
 ·replace h:=Qj h ha1
  obtain ⟨ta2,ha2,h⟩:=Qe h
  by_cases ha3:ta2=0
  ·replace h:=Qj h ha3
   obtain ⟨ha4,h⟩:=Qf h
   replace h:=Option.some.inj h
   subst h
   exact ⟨100,2,[.br true,.el (I ta2),.br false],[],[0,3],[],Qg (ob:=[Qb (sa+1),(ta2 != 0)=false,(0:Int)≤sa,nth (a0) (Int.toNat sa)=some (I ta2),(decide (sa < ((a0).length:Int)))=true]) (by kernel_rfl) ⟨ha4,(nef ha3),(Qp QQ ha2).1,(Qp QQ ha2).2,(decide_eq_true ha1),trivial⟩⟩
  ·replace h:=Qk h ha3
   replace h:=Option.some.inj h
   subst h
   exact ⟨⟨100,2,[.br true,.el (I ta2),.br true,.el (I ta2)],[],[2],[],Qg (ob:=[(0:Int)≤sa,nth (a0) (Int.toNat sa)=some (I ta2),(ta2 != 0)=true,(0:Int)≤sa,nth (a0) (Int.toNat sa)=some (I ta2),(decide (sa < ((a0).length:Int)))=true]) (by kernel_rfl) ⟨(Qp QQ ha2).1,(Qp QQ ha2).2,(net ha3),(Qp QQ ha2).1,(Qp QQ ha2).2,(decide_eq_true ha1),trivial⟩⟩,nofun⟩
 ·replace h:=Qk h ha1
  replace h:=Option.some.inj h
  subst h
  exact ⟨⟨100,2,[.br false],[],[],[],Qg (ob:=[(decide (sa < ((a0).length:Int)))=false]) (by kernel_rfl) ⟨(decide_eq_false ha1),trivial⟩⟩,nofun⟩
def WT (n:Nat) (a0:List D):Option (Int) :=
 (Qz (W2 n a0) n 0).bind fun t1=>match t1 with
  | (.inl t1)=>(
   some t1)
  | (.inr t1)=>(
   some 0)
theorem YZ {n:Nat} {a0:List D} {r:Int} (h:WT n a0=some r):Computes cx 19 [.lst false 1 a0] (I r):=by
 unfold WT at h
 obtain ⟨t1,h1,h⟩:=Qe h
 rcases t1 with t1 | t1
 ·replace h:=Option.some.inj h
  subst h
  exact run (n:=100) (f:=19) (args:=[.lst false 1 a0]) (orc:=[.lp [] [0,3] [] .ret [(2,.d (I t1))] [] 27]) (r:=I t1) (ob:=[QM cx (Qs cx.P 19 0) 19 0 false [(0,.d (.lst false 1 a0)),(3,.d (I 0))] [] .ret [(2,.d (I t1))] []]) (by kernel_rfl) ⟨(Qu JG h1),trivial⟩
 ·replace h:=Option.some.inj h
  subst h
  exact run (n:=100) (f:=19) (args:=[.lst false 1 a0]) (orc:=[.lp [] [0,3] [] (.exit 0) [] [] 27]) (r:=I 0) (ob:=[QM cx (Qs cx.P 19 0) 19 0 false [(0,.d (.lst false 1 a0)),(3,.d (I 0))] [] (.exit 0) [] []]) (by kernel_rfl) ⟨(Qu JG h1),trivial⟩
def Zx (n:Nat) (a0:Nat) (a1:Int):Option (Int) :=
 if ((FloatKind.format .f32).order a0 a0 != some .eq)=true then
  some 1
 else
 if ((FloatKind.format .f32).order a0 2139095039 == some .gt)=true then
  some 1
 else
 if ((FloatKind.format .f32).order a0 4286578687 == some .lt)=true then
  some 1
 else
 if ((FloatKind.format .f32).order a0 (FloatKind.nearest .f32 a1) == some .gt)=true then
  some 3
 else
 if (fop .sub .f32 0 (FloatKind.nearest .f32 a1)).isSome=true then
 if ((FloatKind.format .f32).order a0 ((fop .sub .f32 0 (FloatKind.nearest .f32 a1)).getD 0) == some .lt)=true then
  some 3
 else
 if (fop .mul .f32 1098907648 a0).isSome=true then
 if (f2i .f32 ((fop .mul .f32 1098907648 a0).getD 0) .i64).isSome=true then
 (Zf n ((FloatKind.format .f32).order (FloatKind.nearest .f32 ((f2i .f32 ((fop .mul .f32 1098907648 a0).getD 0) .i64).getD 0)) ((fop .mul .f32 1098907648 a0).getD 0) != some .eq) 3).bind fun t9 =>
 some t9
 else none
 else none
 else none
theorem qz {n:Nat} {a0:Nat} {a1:Int} {r:Int} (h:Zx n a0 a1=some r):Computes cx 93 [.v (.float .f32 a0),I a1] (I r):=by
 unfold Zx at h
 by_cases h1:((FloatKind.format .f32).order a0 a0 != some .eq)=true
 ·replace h:=Qj h h1
  replace h:=Option.some.inj h
  subst h
  exact run (n:=100) (f:=93) (args:=[.v (.float .f32 a0),I a1]) (orc:=[.br true,.no,.no]) (r:=I 1) (ob:=[((FloatKind.format .f32).order a0 a0 != some .eq)=true]) (by kernel_rfl) ⟨h1,trivial⟩
 ·replace h:=Qk h h1
  by_cases h2:((FloatKind.format .f32).order a0 2139095039 == some .gt)=true
  ·replace h:=Qj h h2
   replace h:=Option.some.inj h
   subst h
   exact run (n:=100) (f:=93) (args:=[.v (.float .f32 a0),I a1]) (orc:=[.br false,.br true,.no]) (r:=I 1) (ob:=[((FloatKind.format .f32).order a0 2139095039 == some .gt)=true,((FloatKind.format .f32).order a0 a0 != some .eq)=false]) (by kernel_rfl) ⟨h2,(QJ h1),trivial⟩
  ·replace h:=Qk h h2
   by_cases h3:((FloatKind.format .f32).order a0 4286578687 == some .lt)=true
   ·replace h:=Qj h h3
    replace h:=Option.some.inj h
    subst h
    exact run (n:=100) (f:=93) (args:=[.v (.float .f32 a0),I a1]) (orc:=[.br false,.br false,.br true]) (r:=I 1) (ob:=[((FloatKind.format .f32).order a0 4286578687 == some .lt)=true,((FloatKind.format .f32).order a0 2139095039 == some .gt)=false,((FloatKind.format .f32).order a0 a0 != some .eq)=false]) (by kernel_rfl) ⟨h3,(QJ h2),(QJ h1),trivial⟩
   ·replace h:=Qk h h3
    by_cases h4:((FloatKind.format .f32).order a0 (FloatKind.nearest .f32 a1) == some .gt)=true
    ·replace h:=Qj h h4
     replace h:=Option.some.inj h
     subst h
     exact run (n:=100) (f:=93) (args:=[.v (.float .f32 a0),I a1]) (orc:=[.br false,.br false,.br false,.br true,.no]) (r:=I 3) (ob:=[((FloatKind.format .f32).order a0 (FloatKind.nearest .f32 a1) == some .gt)=true,((FloatKind.format .f32).order a0 4286578687 == some .lt)=false,((FloatKind.format .f32).order a0 2139095039 == some .gt)=false,((FloatKind.format .f32).order a0 a0 != some .eq)=false]) (by kernel_rfl) ⟨h4,(QJ h3),(QJ h2),(QJ h1),trivial⟩
    ·replace h:=Qk h h4
     obtain ⟨h5,h⟩:=Qf h
     by_cases h6:((FloatKind.format .f32).order a0 ((fop .sub .f32 0 (FloatKind.nearest .f32 a1)).getD 0) == some .lt)=true
     ·replace h:=Qj h h6
      replace h:=Option.some.inj h
      subst h
      exact run (n:=100) (f:=93) (args:=[.v (.float .f32 a0),I a1]) (orc:=[.br false,.br false,.br false,.br false,.br true]) (r:=I 3) (ob:=[((FloatKind.format .f32).order a0 ((fop .sub .f32 0 (FloatKind.nearest .f32 a1)).getD 0) == some .lt)=true,(fop .sub .f32 0 (FloatKind.nearest .f32 a1)).isSome=true,((FloatKind.format .f32).order a0 (FloatKind.nearest .f32 a1) == some .gt)=false,((FloatKind.format .f32).order a0 4286578687 == some .lt)=false,((FloatKind.format .f32).order a0 2139095039 == some .gt)=false,((FloatKind.format .f32).order a0 a0 != some .eq)=false]) (by kernel_rfl) ⟨h6,h5,(QJ h4),(QJ h3),(QJ h2),(QJ h1),trivial⟩
     ·replace h:=Qk h h6
      obtain ⟨h7,h⟩:=Qf h
      obtain ⟨h8,h⟩:=Qf h
      obtain ⟨t9,h9,h⟩:=Qe h
      replace h:=Option.some.inj h
      subst h
      exact run (n:=100) (f:=93) (args:=[.v (.float .f32 a0),I a1]) (orc:=[.br false,.br false,.br false,.br false,.br false,.ret (I t9)]) (r:=I t9) (ob:=[Computes cx 20 [B ((FloatKind.format .f32).order (FloatKind.nearest .f32 ((f2i .f32 ((fop .mul .f32 1098907648 a0).getD 0) .i64).getD 0)) ((fop .mul .f32 1098907648 a0).getD 0) != some .eq),I 3] (I t9),(fop .mul .f32 1098907648 a0).isSome=true,(f2i .f32 ((fop .mul .f32 1098907648 a0).getD 0) .i64).isSome=true,(fop .mul .f32 1098907648 a0).isSome=true,((FloatKind.format .f32).order a0 ((fop .sub .f32 0 (FloatKind.nearest .f32 a1)).getD 0) == some .lt)=false,(fop .sub .f32 0 (FloatKind.nearest .f32 a1)).isSome=true,((FloatKind.format .f32).order a0 (FloatKind.nearest .f32 a1) == some .gt)=false,((FloatKind.format .f32).order a0 4286578687 == some .lt)=false,((FloatKind.format .f32).order a0 2139095039 == some .gt)=false,((FloatKind.format .f32).order a0 a0 != some .eq)=false]) (by kernel_rfl) ⟨(Kb h9),h7,h8,h7,(QJ h6),h5,(QJ h4),(QJ h3),(QJ h2),(QJ h1),trivial⟩
def Wn (n:Nat) (a0:Nat):Option (Int) :=
 (Zx n a0 1024).bind fun t1 =>
 some t1
theorem Uk {n:Nat} {a0:Nat} {r:Int} (h:Wn n a0=some r):Computes cx 74 [.v (.float .f32 a0)] (I r):=by
 unfold Wn at h
 obtain ⟨t1,h1,h⟩:=Qe h
 replace h:=Option.some.inj h
 subst h
 exact run (n:=100) (f:=74) (args:=[.v (.float .f32 a0)]) (orc:=[.ret (I t1)]) (r:=I t1) (ob:=[Computes cx 93 [.v (.float .f32 a0),I 1024] (I t1)]) (by kernel_rfl) ⟨(qz h1),trivial⟩
def QW (n:Nat) (a0:List D) (sa:(Int)):Option (((Int))⊕((Int)⊕(Unit))) :=
 if sa < ((a0).length:Int) then
  (el Vq a0 sa).bind fun ta2 =>
  (Wn n ta2).bind fun ta3 =>
  if ta3=0 then
   if Qb (sa+1) then
   some (.inl (sa+1))
   else none
  else
  some (.inr (.inl ta3))
 else
 some (.inr (.inr ()))
noncomputable def JF (a0:List D) (sa:(Int)):List (Nat×AV):=[(0,.d (.lst false 1 a0)),(3,.d (I sa))]
noncomputable def JK (a0:List D) (sa:(Int)):List (Nat×Blk):=[]
noncomputable def JB (a0:List D) (e:(Int)⊕(Unit)):Ex:=match e with
 | (.inl e)=>.ret
 | (.inr e)=>(.exit 0)
noncomputable def Jh (a0:List D) (e:(Int)⊕(Unit)):List (Nat×AV):=match e with
 | (.inl e)=>[(2,.d (I e))]
 | (.inr e)=>[]
noncomputable def Jj (a0:List D) (e:(Int)⊕(Unit)):List (Nat×Blk):=match e with
 | (.inl e)=>[]
 | (.inr e)=>[]
theorem Yi {n:Nat} {a0:List D} (sa:(Int)) (r) (h:QW n a0 sa=some r):Rd cx (Qs cx.P 56 0) 19 0 false (JF a0) (JK a0) (JB a0) (Jh a0) (Jj a0) sa r:=by
 unfold QW at h
 by_cases ha1:sa < ((a0).length:Int)
 ·replace h:=Qj h ha1
  obtain ⟨ta2,ha2,h⟩:=Qe h
  obtain ⟨ta3,ha3,h⟩:=Qe h
  by_cases ha4:ta3=0
  ·replace h:=Qj h ha4
   obtain ⟨ha5,h⟩:=Qf h
   replace h:=Option.some.inj h
   subst h
   exact ⟨100,2,[.br true,.el (.v (.float .f32 ta2)),.ret (I ta3),.br false],[],[0,3],[],Qg (ob:=[Qb (sa+1),(ta3 != 0)=false,Computes cx 74 [.v (.float .f32 ta2)] (I ta3),(0:Int)≤sa,nth (a0) (Int.toNat sa)=some (.v (.float .f32 ta2)),(decide (sa < ((a0).length:Int)))=true]) (by kernel_rfl) ⟨ha5,(nef ha4),(Uk ha3),(Qp Qr ha2).1,(Qp Qr ha2).2,(decide_eq_true ha1),trivial⟩⟩
  ·replace h:=Qk h ha4
   replace h:=Option.some.inj h
   subst h
   exact ⟨⟨100,2,[.br true,.el (.v (.float .f32 ta2)),.ret (I ta3),.br true],[],[2],[],Qg (ob:=[(ta3 != 0)=true,Computes cx 74 [.v (.float .f32 ta2)] (I ta3),(0:Int)≤sa,nth (a0) (Int.toNat sa)=some (.v (.float .f32 ta2)),(decide (sa < ((a0).length:Int)))=true]) (by kernel_rfl) ⟨(net ha4),(Uk ha3),(Qp Qr ha2).1,(Qp Qr ha2).2,(decide_eq_true ha1),trivial⟩⟩,nofun⟩
 ·replace h:=Qk h ha1
  replace h:=Option.some.inj h
  subst h
  exact ⟨⟨100,2,[.br false],[],[],[],Qg (ob:=[(decide (sa < ((a0).length:Int)))=false]) (by kernel_rfl) ⟨(decide_eq_false ha1),trivial⟩⟩,nofun⟩
def Wc (n:Nat) (a0:List D):Option (Int) :=
 (Qz (QW n a0) n 0).bind fun t1=>match t1 with
  | (.inl t1)=>(
   some t1)
  | (.inr t1)=>(
   some 0)
theorem G6 {n:Nat} {a0:List D} {r:Int} (h:Wc n a0=some r):Computes cx 56 [.lst false 1 a0] (I r):=by
 unfold Wc at h
 obtain ⟨t1,h1,h⟩:=Qe h
 rcases t1 with t1 | t1
 ·replace h:=Option.some.inj h
  subst h
  exact run (n:=100) (f:=56) (args:=[.lst false 1 a0]) (orc:=[.lp [] [0,3] [] .ret [(2,.d (I t1))] [] 28]) (r:=I t1) (ob:=[QM cx (Qs cx.P 56 0) 19 0 false [(0,.d (.lst false 1 a0)),(3,.d (I 0))] [] .ret [(2,.d (I t1))] []]) (by kernel_rfl) ⟨(Qu Yi h1),trivial⟩
 ·replace h:=Option.some.inj h
  subst h
  exact run (n:=100) (f:=56) (args:=[.lst false 1 a0]) (orc:=[.lp [] [0,3] [] (.exit 0) [] [] 28]) (r:=I 0) (ob:=[QM cx (Qs cx.P 56 0) 19 0 false [(0,.d (.lst false 1 a0)),(3,.d (I 0))] [] (.exit 0) [] []]) (by kernel_rfl) ⟨(Qu Yi h1),trivial⟩
def Zp (n:Nat) (a0 a1:Int) (a2:List D):Option (Int) :=
 (ZR n a0).bind fun t1 =>
 (ZR n a1).bind fun t2 =>
 (WT n ([I t1,I t2])).bind fun t3 =>
 if t3=0 then
  if Qb (a0 * a1) then
  if ((a2).length:Int)=(a0 * a1) then
   (Wc n a2).bind fun t7 =>
   some t7
  else
  some 2
  else none
 else
 some t3
theorem YP {n:Nat} {a0 a1:Int} {a2:List D} {r:Int} (h:Zp n a0 a1 a2=some r):Computes cx 29 [.agg [I a0,I a1,.lst false 1 a2]] (I r):=by
 unfold Zp at h
 obtain ⟨t1,h1,h⟩:=Qe h
 obtain ⟨t2,h2,h⟩:=Qe h
 obtain ⟨t3,h3,h⟩:=Qe h
 by_cases h4:t3=0
 ·replace h:=Qj h h4
  obtain ⟨h5,h⟩:=Qf h
  by_cases h6:((a2).length:Int)=(a0 * a1)
  ·replace h:=Qj h h6
   obtain ⟨t7,h7,h⟩:=Qe h
   replace h:=Option.some.inj h
   subst h
   exact run (n:=100) (f:=29) (args:=[.agg [I a0,I a1,.lst false 1 a2]]) (orc:=[.ret (I t1),.ret (I t2),.ret (I t3),.br false,.br false,.ret (I t7)]) (r:=I t7) (ob:=[Computes cx 56 [.lst false 1 a2] (I t7),(((a2).length:Int) != (a0 * a1))=false,Qb (a0 * a1),(t3 != 0)=false,Computes cx 19 [.lst true 1 [I t1,I t2]] (I t3),Computes cx 55 [I a1] (I t2),Computes cx 55 [I a0] (I t1)]) (by kernel_rfl) ⟨(G6 h7),(nef h6),h5,(nef h4),((YZ h3).le (.cons (.full _ _ _) (.nil)) (.refl _)),(Wg h2),(Wg h1),trivial⟩
  ·replace h:=Qk h h6
   replace h:=Option.some.inj h
   subst h
   exact run (n:=100) (f:=29) (args:=[.agg [I a0,I a1,.lst false 1 a2]]) (orc:=[.ret (I t1),.ret (I t2),.ret (I t3),.br false,.br true]) (r:=I 2) (ob:=[(((a2).length:Int) != (a0 * a1))=true,Qb (a0 * a1),(t3 != 0)=false,Computes cx 19 [.lst true 1 [I t1,I t2]] (I t3),Computes cx 55 [I a1] (I t2),Computes cx 55 [I a0] (I t1)]) (by kernel_rfl) ⟨(net h6),h5,(nef h4),((YZ h3).le (.cons (.full _ _ _) (.nil)) (.refl _)),(Wg h2),(Wg h1),trivial⟩
 ·replace h:=Qk h h4
  replace h:=Option.some.inj h
  subst h
  exact run (n:=100) (f:=29) (args:=[.agg [I a0,I a1,.lst false 1 a2]]) (orc:=[.ret (I t1),.ret (I t2),.ret (I t3),.br true]) (r:=I t3) (ob:=[(t3 != 0)=true,Computes cx 19 [.lst true 1 [I t1,I t2]] (I t3),Computes cx 55 [I a1] (I t2),Computes cx 55 [I a0] (I t1)]) (by kernel_rfl) ⟨(net h4),((YZ h3).le (.cons (.full _ _ _) (.nil)) (.refl _)),(Wg h2),(Wg h1),trivial⟩
def Q8 (n:Nat) (a0 a1:Int) (a2:List D) (sa:(Int)):Option (((Int))⊕((Unit)⊕(Unit))) :=
 if sa < ((a2).length:Int) then
  (el Vq a2 sa).bind fun ta2 =>
  if ((FloatKind.format .f32).order ta2 0 == some .lt)=true then
   some (.inr (.inl ()))
  else
  if Qb (sa+1) then
  some (.inl (sa+1))
  else none
 else
 some (.inr (.inr ()))
noncomputable def GD (a0 a1:Int) (a2:List D) (sa:(Int)):List (Nat×AV):=[(1,.ptr 0 0 0 0 0),(4,.d (I sa))]
noncomputable def GJ (a0 a1:Int) (a2:List D) (sa:(Int)):List (Nat×Blk):=[(0,.box (.d (.agg [I a0,I a1,.lst false 1 a2])))]
noncomputable def Gu (a0 a1:Int) (a2:List D) (e:(Unit)⊕(Unit)):Ex:=match e with
 | (.inl e)=>.ret
 | (.inr e)=>(.exit 0)
noncomputable def Ge (a0 a1:Int) (a2:List D) (e:(Unit)⊕(Unit)):List (Nat×AV):=match e with
 | (.inl e)=>[(2,.d (I 3))]
 | (.inr e)=>[]
noncomputable def Gh (a0 a1:Int) (a2:List D) (e:(Unit)⊕(Unit)):List (Nat×Blk):=match e with
 | (.inl e)=>[]
 | (.inr e)=>[]
theorem YD {n:Nat} {a0 a1:Int} {a2:List D} (sa:(Int)) (r) (h:Q8 n a0 a1 a2 sa=some r):Rd cx (Qs cx.P 10 0) 23 0 false (GD a0 a1 a2) (GJ a0 a1 a2) (Gu a0 a1 a2) (Ge a0 a1 a2) (Gh a0 a1 a2) sa r:=by
 unfold Q8 at h
 by_cases ha1:sa < ((a2).length:Int)
 ·replace h:=Qj h ha1
  obtain ⟨ta2,ha2,h⟩:=Qe h
  by_cases ha3:((FloatKind.format .f32).order ta2 0 == some .lt)=true
  ·replace h:=Qj h ha3
   replace h:=Option.some.inj h
   subst h
   exact ⟨⟨100,8,[.br true,.el (.v (.float .f32 ta2)),.br true],[],[2],[],Qg (ob:=[((FloatKind.format .f32).order ta2 0 == some .lt)=true,(0:Int)≤sa,nth (a2) (Int.toNat sa)=some (.v (.float .f32 ta2)),(decide (sa < ((a2).length:Int)))=true]) (by kernel_rfl) ⟨ha3,(Qp Qr ha2).1,(Qp Qr ha2).2,(decide_eq_true ha1),trivial⟩⟩,nofun⟩
  ·replace h:=Qk h ha3
   obtain ⟨ha4,h⟩:=Qf h
   replace h:=Option.some.inj h
   subst h
   exact ⟨100,8,[.br true,.el (.v (.float .f32 ta2)),.br false],[],[1,4],[0],Qg (ob:=[Qb (sa+1),((FloatKind.format .f32).order ta2 0 == some .lt)=false,(0:Int)≤sa,nth (a2) (Int.toNat sa)=some (.v (.float .f32 ta2)),(decide (sa < ((a2).length:Int)))=true]) (by kernel_rfl) ⟨ha4,(QJ ha3),(Qp Qr ha2).1,(Qp Qr ha2).2,(decide_eq_true ha1),trivial⟩⟩
 ·replace h:=Qk h ha1
  replace h:=Option.some.inj h
  subst h
  exact ⟨⟨100,8,[.br false],[],[],[],Qg (ob:=[(decide (sa < ((a2).length:Int)))=false]) (by kernel_rfl) ⟨(decide_eq_false ha1),trivial⟩⟩,nofun⟩
def Q5 (n:Nat) (a0 a1:Int) (a2:List D):Option (Int) :=
 (Zp n a0 a1 a2).bind fun t1 =>
 if t1=0 then
  (Qz (Q8 n a0 a1 a2) n 0).bind fun t3=>match t3 with
   | (.inl t3)=>(
    some 3)
   | (.inr t3)=>(
    some 0)
 else
 some t1
theorem Vb {n:Nat} {a0 a1:Int} {a2:List D} {r:Int} (h:Q5 n a0 a1 a2=some r):Computes cx 10 [.agg [I a0,I a1,.lst false 1 a2]] (I r):=by
 unfold Q5 at h
 obtain ⟨t1,h1,h⟩:=Qe h
 by_cases h2:t1=0
 ·replace h:=Qj h h2
  obtain ⟨t3,h3,h⟩:=Qe h
  rcases t3 with t3 | t3
  ·replace h:=Option.some.inj h
   subst h
   exact run (n:=100) (f:=10) (args:=[.agg [I a0,I a1,.lst false 1 a2]]) (orc:=[.ret (I t1),.br false,.lp [] [1,4] [0] .ret [(2,.d (I 3))] [] 33]) (r:=I 3) (ob:=[QM cx (Qs cx.P 10 0) 23 0 false [(1,.ptr 0 0 0 0 0),(4,.d (I 0))] [(0,.box (.d (.agg [I a0,I a1,.lst false 1 a2])))] .ret [(2,.d (I 3))] [],(t1 != 0)=false,Computes cx 29 [.agg [I a0,I a1,.lst false 1 a2]] (I t1)]) (by kernel_rfl) ⟨(Qu YD h3),(nef h2),(YP h1),trivial⟩
  ·replace h:=Option.some.inj h
   subst h
   exact run (n:=100) (f:=10) (args:=[.agg [I a0,I a1,.lst false 1 a2]]) (orc:=[.ret (I t1),.br false,.lp [] [1,4] [0] (.exit 0) [] [] 33]) (r:=I 0) (ob:=[QM cx (Qs cx.P 10 0) 23 0 false [(1,.ptr 0 0 0 0 0),(4,.d (I 0))] [(0,.box (.d (.agg [I a0,I a1,.lst false 1 a2])))] (.exit 0) [] [],(t1 != 0)=false,Computes cx 29 [.agg [I a0,I a1,.lst false 1 a2]] (I t1)]) (by kernel_rfl) ⟨(Qu YD h3),(nef h2),(YP h1),trivial⟩
 ·replace h:=Qk h h2
  replace h:=Option.some.inj h
  subst h
  exact run (n:=100) (f:=10) (args:=[.agg [I a0,I a1,.lst false 1 a2]]) (orc:=[.ret (I t1),.br true]) (r:=I t1) (ob:=[(t1 != 0)=true,Computes cx 29 [.agg [I a0,I a1,.lst false 1 a2]] (I t1)]) (by kernel_rfl) ⟨(net h2),(YP h1),trivial⟩
def Z0 (n:Nat) (a0 a1:Int) (a2:List D) (a3 a4:Int) (a5:List D):Option (Bool) :=
 if a0=a3 then
  some (a1 == a4)
 else
 some false
theorem YO {n:Nat} {a0 a1:Int} {a2:List D} {a3 a4:Int} {a5:List D} {r:Bool} (h:Z0 n a0 a1 a2 a3 a4 a5=some r):Computes cx 21 [.agg [I a0,I a1,.lst false 1 a2],.agg [I a3,I a4,.lst false 1 a5]] (B r):=by
 unfold Z0 at h
 by_cases h1:a0=a3
 ·replace h:=Qj h h1
  replace h:=Option.some.inj h
  subst h
  exact run (n:=100) (f:=21) (args:=[.agg [I a0,I a1,.lst false 1 a2],.agg [I a3,I a4,.lst false 1 a5]]) (orc:=[.br true]) (r:=B (a1 == a4)) (ob:=[(a0 == a3)=true]) (by kernel_rfl) ⟨(eqt h1),trivial⟩
 ·replace h:=Qk h h1
  replace h:=Option.some.inj h
  subst h
  exact run (n:=100) (f:=21) (args:=[.agg [I a0,I a1,.lst false 1 a2],.agg [I a3,I a4,.lst false 1 a5]]) (orc:=[.br false]) (r:=B false) (ob:=[(a0 == a3)=false]) (by kernel_rfl) ⟨(eqf h1),trivial⟩
def ZL (n:Nat) (a0 a1:Int) (a2:List D) (a3 a4:Int) (a5:List D):Option (Int) :=
 (Q5 n a0 a1 a2).bind fun t1 =>
 (Q5 n a3 a4 a5).bind fun t2 =>
 (Z0 n a0 a1 a2 a3 a4 a5).bind fun t3 =>
 (Zf n (!t3) 2).bind fun t4 =>
 (WT n ([I t1,I t2,I t4])).bind fun t5 =>
 some t5
theorem W0 {n:Nat} {a0 a1:Int} {a2:List D} {a3 a4:Int} {a5:List D} {r:Int} (h:ZL n a0 a1 a2 a3 a4 a5=some r):Computes cx 4 [.agg [I a0,I a1,.lst false 1 a2],.agg [I a3,I a4,.lst false 1 a5]] (I r):=by
 unfold ZL at h
 obtain ⟨t1,h1,h⟩:=Qe h
 obtain ⟨t2,h2,h⟩:=Qe h
 obtain ⟨t3,h3,h⟩:=Qe h
 obtain ⟨t4,h4,h⟩:=Qe h
 obtain ⟨t5,h5,h⟩:=Qe h
 replace h:=Option.some.inj h
 subst h
 exact run (n:=100) (f:=4) (args:=[.agg [I a0,I a1,.lst false 1 a2],.agg [I a3,I a4,.lst false 1 a5]]) (orc:=[.ret (I t1),.ret (I t2),.ret (B t3),.ret (I t4),.ret (I t5)]) (r:=I t5) (ob:=[Computes cx 19 [.lst true 1 [I t1,I t2,I t4]] (I t5),Computes cx 20 [B (!t3),I 2] (I t4),Computes cx 21 [.agg [I a0,I a1,.lst false 1 a2],.agg [I a3,I a4,.lst false 1 a5]] (B t3),Computes cx 10 [.agg [I a3,I a4,.lst false 1 a5]] (I t2),Computes cx 10 [.agg [I a0,I a1,.lst false 1 a2]] (I t1)]) (by kernel_rfl) ⟨((YZ h5).le (.cons (.full _ _ _) (.nil)) (.refl _)),(Kb h4),(YO h3),(Vb h2),(Vb h1),trivial⟩
def Q2 (n:Nat) (a0 a1:Int) (a2:List D):Option (Int×Int×List D) :=
 if ZZ 4 (0+(a2).length) then
 some (a0,a1,a2)
 else none
theorem Qn {n:Nat} {a0 a1:Int} {a2:List D} {r:Int×Int×List D} (h:Q2 n a0 a1 a2=some r):Computes cx 6 [.agg [I a0,I a1,.lst false 1 a2]] (.agg [I r.1,I r.2.1,.lst false 1 r.2.2]):=by
 unfold Q2 at h
 obtain ⟨h1,h⟩:=Qf h
 replace h:=Option.some.inj h
 subst h
 exact run (n:=100) (f:=6) (args:=[.agg [I a0,I a1,.lst false 1 a2]]) (orc:=[.br true,.ix (-8),.br true]) (r:=.agg [I a0,I a1,.lst false 1 a2]) (ob:=[room cx 28 (0+(a2).length)]) (by kernel_rfl) ⟨(QT (b:=4) (by kernel_rfl) (by decide) h1),trivial⟩
def ZT (n:Nat) (a0 a1:Int) (a2:List D) (t3 t4:Int×Int×List D) (sa:(Int×List D)):Option (((Int×List D))⊕((List D))) :=
 if sa.1 < (t4.1 * t4.2.1) then
  if t4.1≠0 then
  if Qb (Int.tdiv sa.1 t4.1) then
  if Qb (a1 - 1) then
  if Qb ((a1 - 1) - (Int.tmod sa.1 t4.1)) then
  (ZE n t3.1 t3.2.1 t3.2.2 (Int.tdiv sa.1 t4.1) ((a1 - 1) - (Int.tmod sa.1 t4.1))).bind fun ta6 =>
  if 0≤ta6∧ta6 < ((t3.2.2).length:Int) then
  ((nth (t3.2.2) (Int.toNat ta6)).bind un_i).bind fun ta8 =>
  if 0≤sa.1∧sa.1 < ((sa.2).length:Int) then
  if (Int.toNat sa.1) < (sa.2).length then
  if Qb (sa.1+1) then
  some (.inl ((sa.1+1),(List.set sa.2 (Int.toNat sa.1) (I ta8:D))))
  else none
  else none
  else none
  else none
  else none
  else none
  else none
  else none
 else
 some (.inr sa.2)
noncomputable def qW (a0 a1:Int) (a2:List D) (t3 t4:Int×Int×List D) (sa:(Int×List D)):List (Nat×AV):=[(0,.own 36 0),(1,.ptr 32 0 0 0 0),(8,.d (I (t4.1 * t4.2.1))),(9,.d (I sa.1))]
noncomputable def zk (a0 a1:Int) (a2:List D) (t3 t4:Int×Int×List D) (sa:(Int×List D)):List (Nat×Blk):=[(0,.box (.d (.agg [I a0,I a1,.lst false 1 a2]))),(1,.box (.d (.agg [I 0,I 0,.lst true 0 []]))),(9,.row 0 1 t3.2.2),(21,.box (.agg [.d (I t3.1),.d (I t3.2.1),.own 9 0])),(22,.box (.fn (.func 28) [] [.ptr 0 0 0 0 0])),(23,.box (.d (.agg [I 0,I 0,.lst true 0 []]))),(27,.box (.agg [.d (I t4.1),.d (I t4.2.1),.own 29 0])),(29,.row 0 1 sa.2),(32,.box (.agg [.d (I t4.1),.d (I t4.2.1),.own 29 0])),(36,.loop true [(16,.fn (.func 70) [] [.ptr 32 0 0 0 0]),(15,.agg [.d (I t4.1),.d (I t4.2.1),.own 29 0]),(14,.agg [.d (I t4.1),.d (I t4.2.1),.own 29 0]),(13,.d (I a0)),(12,.d (I a1)),(9,.ptr 27 0 0 0 0),(8,.ptr 23 0 0 0 0),(7,.ptr 22 0 0 0 0),(4,.ptr 21 0 0 0 0),(3,.fn (.func 28) [] [.ptr 0 0 0 0 0]),(2,.d (I a0)),(1,.d (I a1)),(0,.agg [.d (I t3.1),.d (I t3.2.1),.own 9 0])] [17,18] (Qv cx.P 25 0).1 (Qv cx.P 25 0).2 33)]
noncomputable def qH (a0 a1:Int) (a2:List D) (t3 t4:Int×Int×List D) (e:(List D)):Ex:=(.exit 0)
noncomputable def EE (a0 a1:Int) (a2:List D) (t3 t4:Int×Int×List D) (e:(List D)):List (Nat×AV):=[]
noncomputable def EL (a0 a1:Int) (a2:List D) (t3 t4:Int×Int×List D) (e:(List D)):List (Nat×Blk):=[(0,.box (.d (.agg [I a0,I a1,.lst false 1 a2]))),(1,.box (.d (.agg [I 0,I 0,.lst true 0 []]))),(9,.row 0 1 t3.2.2),(21,.box (.agg [.d (I t3.1),.d (I t3.2.1),.own 9 0])),(22,.box (.fn (.func 28) [] [.ptr 0 0 0 0 0])),(23,.box (.d (.agg [I 0,I 0,.lst true 0 []]))),(27,.box (.agg [.d (I t4.1),.d (I t4.2.1),.own 29 0])),(29,.row 0 1 e),(32,.box (.agg [.d (I t4.1),.d (I t4.2.1),.own 29 0])),(36,.loop true [(16,.fn (.func 70) [] [.ptr 32 0 0 0 0]),(15,.agg [.d (I t4.1),.d (I t4.2.1),.own 29 0]),(14,.agg [.d (I t4.1),.d (I t4.2.1),.own 29 0]),(13,.d (I a0)),(12,.d (I a1)),(9,.ptr 27 0 0 0 0),(8,.ptr 23 0 0 0 0),(7,.ptr 22 0 0 0 0),(4,.ptr 21 0 0 0 0),(3,.fn (.func 28) [] [.ptr 0 0 0 0 0]),(2,.d (I a0)),(1,.d (I a1)),(0,.agg [.d (I t3.1),.d (I t3.2.1),.own 9 0])] [17,18] (Qv cx.P 25 0).1 (Qv cx.P 25 0).2 33)]
theorem zf {n:Nat} {a0 a1:Int} {a2:List D} {t3 t4:Int×Int×List D} (sa:(Int×List D)) (r) (h:ZT n a0 a1 a2 t3 t4 sa=some r):Rd cx (Qs cx.P 70 0) 26 37 false (qW a0 a1 a2 t3 t4) (zk a0 a1 a2 t3 t4) (qH a0 a1 a2 t3 t4) (EE a0 a1 a2 t3 t4) (EL a0 a1 a2 t3 t4) sa r:=by
 unfold ZT at h
 by_cases ha1:sa.1 < (t4.1 * t4.2.1)
 ·replace h:=Qj h ha1
  obtain ⟨ha2,h⟩:=Qf h
  obtain ⟨ha3,h⟩:=Qf h
  obtain ⟨ha4,h⟩:=Qf h
  obtain ⟨ha5,h⟩:=Qf h
  obtain ⟨ta6,ha6,h⟩:=Qe h
  obtain ⟨ha7,h⟩:=Qf h
  obtain ⟨ta8,ha8,h⟩:=Qe h
  obtain ⟨ha9,h⟩:=Qf h
  obtain ⟨ha10,h⟩:=Qf h
  obtain ⟨ha11,h⟩:=Qf h
  replace h:=Option.some.inj h
  subst h
  exact ⟨100,43,[.br true,.no,.ix 0,.ret (I ta6),.br true,.el (I ta8),.br true,.br true,.no],[],[0,1,8,9],[0,1,9,21,22,23,27,29,32,36],Qg (ob:=[Qb (sa.1+1),(Int.toNat sa.1) < (sa.2).length,0≤sa.1∧sa.1 < ((sa.2).length:Int),nth (t3.2.2) (Int.toNat ta6)=some (I ta8),0≤ta6∧ta6 < ((t3.2.2).length:Int),Computes cx 48 [.agg [I t3.1,I t3.2.1,.lst false 1 t3.2.2],.agg [I (Int.tdiv sa.1 t4.1),I ((a1 - 1) - (Int.tmod sa.1 t4.1))]] (I ta6),Qb ((a1 - 1) - (Int.tmod sa.1 t4.1)),Qb (a1 - 1),t4.1≠0,Qb (Int.tdiv sa.1 t4.1),t4.1≠0,(decide (sa.1 < (t4.1 * t4.2.1)))=true]) (by kernel_rfl) ⟨ha11,ha10,ha9,ZQ QQ ha8,ha7,(V6 ha6),ha5,ha4,ha2,ha3,ha2,(decide_eq_true ha1),trivial⟩⟩
 ·replace h:=Qk h ha1
  replace h:=Option.some.inj h
  subst h
  exact ⟨⟨100,43,[.br false],[],[],[0,1,9,21,22,23,27,29,32,36],Qg (ob:=[(decide (sa.1 < (t4.1 * t4.2.1)))=false]) (by kernel_rfl) ⟨(decide_eq_false ha1),trivial⟩⟩,nofun⟩
def Zg (n:Nat) (a0 a1:Int) (a2:List D):Option (Int×Int×List D×Int) :=
 (Zq n a0 a1 a2).bind fun t1 =>
 if t1=0 then
  (Zh n a0 a1 a2).bind fun t3 =>
  (WU n a1 a0).bind fun t4 =>
  if Qb (t4.1 * t4.2.1) then
  (Qz (ZT n a0 a1 a2 t3 t4) n (0,t4.2.2)).bind fun t6 =>
  (ZS n t4.1 t4.2.1 t6).bind fun t7 =>
  some (t7.1,t7.2.1,t7.2.2.1,t7.2.2.2)
  else none
 else
 some (0,0,[],t1)
theorem Wa {n:Nat} {a0 a1:Int} {a2:List D} {r:Int×Int×List D×Int} (h:Zg n a0 a1 a2=some r):Computes cx 9 [.agg [I a0,I a1,.lst false 1 a2]] (.tup [.agg [I r.1,I r.2.1,.lst false 1 r.2.2.1],I r.2.2.2]):=by
 unfold Zg at h
 obtain ⟨t1,h1,h⟩:=Qe h
 by_cases h2:t1=0
 ·replace h:=Qj h h2
  obtain ⟨t3,h3,h⟩:=Qe h
  obtain ⟨t4,h4,h⟩:=Qe h
  obtain ⟨h5,h⟩:=Qf h
  obtain ⟨t6,h6,h⟩:=Qe h
  obtain ⟨t7,h7,h⟩:=Qe h
  replace h:=Option.some.inj h
  subst h
  exact run (n:=100) (f:=9) (args:=[.agg [I a0,I a1,.lst false 1 a2]]) (orc:=[.ret (I t1),.br false,.obj none (.agg [.d (I t3.1),.d (I t3.2.1),.own 0 0]) [.row 1 t3.2.2] [true],.ix (-9),.br true,.obj none (.agg [.d (I t4.1),.d (I t4.2.1),.own 0 0]) [.row 1 t4.2.2] [true],.br true,.lp [] [0,1,8,9] [0,1,9,21,22,23,27,29,32,36] (.exit 0) [] [(0,.box (.d (.agg [I a0,I a1,.lst false 1 a2]))),(1,.box (.d (.agg [I 0,I 0,.lst true 0 []]))),(9,.row 0 1 t3.2.2),(21,.box (.agg [.d (I t3.1),.d (I t3.2.1),.own 9 0])),(22,.box (.fn (.func 28) [] [.ptr 0 0 0 0 0])),(23,.box (.d (.agg [I 0,I 0,.lst true 0 []]))),(27,.box (.agg [.d (I t4.1),.d (I t4.2.1),.own 29 0])),(29,.row 0 1 t6),(32,.box (.agg [.d (I t4.1),.d (I t4.2.1),.own 29 0])),(36,.loop true [(16,.fn (.func 70) [] [.ptr 32 0 0 0 0]),(15,.agg [.d (I t4.1),.d (I t4.2.1),.own 29 0]),(14,.agg [.d (I t4.1),.d (I t4.2.1),.own 29 0]),(13,.d (I a0)),(12,.d (I a1)),(9,.ptr 27 0 0 0 0),(8,.ptr 23 0 0 0 0),(7,.ptr 22 0 0 0 0),(4,.ptr 21 0 0 0 0),(3,.fn (.func 28) [] [.ptr 0 0 0 0 0]),(2,.d (I a0)),(1,.d (I a1)),(0,.agg [.d (I t3.1),.d (I t3.2.1),.own 9 0])] [17,18] (Qv cx.P 25 0).1 (Qv cx.P 25 0).2 33)] 89,.ix (-9),.ret (.tup [.agg [I t7.1,I t7.2.1,.lst false 1 t7.2.2.1],I t7.2.2.2])]) (r:=.tup [.agg [I t7.1,I t7.2.1,.lst false 1 t7.2.2.1],I t7.2.2.2]) (ob:=[Computes cx 27 [.agg [I t4.1,I t4.2.1,.lst false 1 t6]] (.tup [.agg [I t7.1,I t7.2.1,.lst false 1 t7.2.2.1],I t7.2.2.2]),QM cx (Qs cx.P 70 0) 26 37 false [(0,.own 36 0),(1,.ptr 32 0 0 0 0),(8,.d (I (t4.1 * t4.2.1))),(9,.d (I 0))] [(0,.box (.d (.agg [I a0,I a1,.lst false 1 a2]))),(1,.box (.d (.agg [I 0,I 0,.lst true 0 []]))),(9,.row 0 1 t3.2.2),(21,.box (.agg [.d (I t3.1),.d (I t3.2.1),.own 9 0])),(22,.box (.fn (.func 28) [] [.ptr 0 0 0 0 0])),(23,.box (.d (.agg [I 0,I 0,.lst true 0 []]))),(27,.box (.agg [.d (I t4.1),.d (I t4.2.1),.own 29 0])),(29,.row 0 1 t4.2.2),(32,.box (.agg [.d (I t4.1),.d (I t4.2.1),.own 29 0])),(36,.loop true [(16,.fn (.func 70) [] [.ptr 32 0 0 0 0]),(15,.agg [.d (I t4.1),.d (I t4.2.1),.own 29 0]),(14,.agg [.d (I t4.1),.d (I t4.2.1),.own 29 0]),(13,.d (I a0)),(12,.d (I a1)),(9,.ptr 27 0 0 0 0),(8,.ptr 23 0 0 0 0),(7,.ptr 22 0 0 0 0),(4,.ptr 21 0 0 0 0),(3,.fn (.func 28) [] [.ptr 0 0 0 0 0]),(2,.d (I a0)),(1,.d (I a1)),(0,.agg [.d (I t3.1),.d (I t3.2.1),.own 9 0])] [17,18] (Qv cx.P 25 0).1 (Qv cx.P 25 0).2 33)] (.exit 0) [] [(0,.box (.d (.agg [I a0,I a1,.lst false 1 a2]))),(1,.box (.d (.agg [I 0,I 0,.lst true 0 []]))),(9,.row 0 1 t3.2.2),(21,.box (.agg [.d (I t3.1),.d (I t3.2.1),.own 9 0])),(22,.box (.fn (.func 28) [] [.ptr 0 0 0 0 0])),(23,.box (.d (.agg [I 0,I 0,.lst true 0 []]))),(27,.box (.agg [.d (I t4.1),.d (I t4.2.1),.own 29 0])),(29,.row 0 1 t6),(32,.box (.agg [.d (I t4.1),.d (I t4.2.1),.own 29 0])),(36,.loop true [(16,.fn (.func 70) [] [.ptr 32 0 0 0 0]),(15,.agg [.d (I t4.1),.d (I t4.2.1),.own 29 0]),(14,.agg [.d (I t4.1),.d (I t4.2.1),.own 29 0]),(13,.d (I a0)),(12,.d (I a1)),(9,.ptr 27 0 0 0 0),(8,.ptr 23 0 0 0 0),(7,.ptr 22 0 0 0 0),(4,.ptr 21 0 0 0 0),(3,.fn (.func 28) [] [.ptr 0 0 0 0 0]),(2,.d (I a0)),(1,.d (I a1)),(0,.agg [.d (I t3.1),.d (I t3.2.1),.own 9 0])] [17,18] (Qv cx.P 25 0).1 (Qv cx.P 25 0).2 33)],Qb (t4.1 * t4.2.1),Z4 cx 46 [I a1,I a0] 1 t4.2.2 (.agg [.d (I t4.1),.d (I t4.2.1),.own 0 0]),Z4 cx 24 [.agg [I a0,I a1,.lst false 1 a2]] 1 t3.2.2 (.agg [.d (I t3.1),.d (I t3.2.1),.own 0 0]),(t1 != 0)=false,Computes cx 23 [.agg [I a0,I a1,.lst false 1 a2]] (I t1)]) (by kernel_rfl) ⟨(Yu h7),(Qu zf h6),h5,(Kf h4),(WV h3),(nef h2),(QL h1),trivial⟩
 ·replace h:=Qk h h2
  replace h:=Option.some.inj h
  subst h
  exact (run (n:=100) (f:=9) (args:=[.agg [I a0,I a1,.lst false 1 a2]]) (orc:=[.ret (I t1),.br true]) (r:=.tup [.agg [I 0,I 0,.lst true 0 []],I t1]) (ob:=[(t1 != 0)=true,Computes cx 23 [.agg [I a0,I a1,.lst false 1 a2]] (I t1)]) (by kernel_rfl) ⟨(net h2),(QL h1),trivial⟩).le (LEs.refl _) (.tups (.cons (.aggs (.cons (.refl _) (.cons (.refl _) (.cons (.nilF) (.nil))))) (.cons (.refl _) (.nil))))
def WF (n:Nat) (a0:Nat):Option (Int) :=
 (Zu n a0).bind fun t1 =>
 (Ws n ((FloatKind.format .f32).order a0 0 == some .lt || (FloatKind.format .f32).order a0 0 == some .eq) 3).bind fun t2 =>
 (Zk n ([I t1,I t2])).bind fun t3 =>
 some t3
theorem EB {n:Nat} {a0:Nat} {r:Int} (h:WF n a0=some r):Computes cx 58 [.v (.float .f32 a0)] (I r):=by
 unfold WF at h
 obtain ⟨t1,h1,h⟩:=Qe h
 obtain ⟨t2,h2,h⟩:=Qe h
 obtain ⟨t3,h3,h⟩:=Qe h
 replace h:=Option.some.inj h
 subst h
 exact run (n:=100) (f:=58) (args:=[.v (.float .f32 a0)]) (orc:=[.ret (I t1),.ret (I t2),.ret (I t3)]) (r:=I t3) (ob:=[Computes cx 36 [.lst true 1 [I t1,I t2]] (I t3),Computes cx 40 [B ((FloatKind.format .f32).order a0 0 == some .lt || (FloatKind.format .f32).order a0 0 == some .eq),I 3] (I t2),Computes cx 50 [.v (.float .f32 a0)] (I t1)]) (by kernel_rfl) ⟨((Z7 h3).le (.cons (.full _ _ _) (.nil)) (.refl _)),(Yw h2),(Ul h1),trivial⟩
def Wi (n:Nat) (a0 a1:Int) (a2:List D) (a3:Nat):Option (Int) :=
 (ZI n a0 a1 a2).bind fun t1 =>
 (WF n a3).bind fun t2 =>
 (Zk n ([I t1,I t2])).bind fun t3 =>
 some t3
theorem Vt {n:Nat} {a0 a1:Int} {a2:List D} {a3:Nat} {r:Int} (h:Wi n a0 a1 a2 a3=some r):Computes cx 30 [.agg [I a0,I a1,.lst false 1 a2],.v (.float .f32 a3)] (I r):=by
 unfold Wi at h
 obtain ⟨t1,h1,h⟩:=Qe h
 obtain ⟨t2,h2,h⟩:=Qe h
 obtain ⟨t3,h3,h⟩:=Qe h
 replace h:=Option.some.inj h
 subst h
 exact run (n:=100) (f:=30) (args:=[.agg [I a0,I a1,.lst false 1 a2],.v (.float .f32 a3)]) (orc:=[.ret (I t1),.ret (I t2),.ret (I t3)]) (r:=I t3) (ob:=[Computes cx 36 [.lst true 1 [I t1,I t2]] (I t3),Computes cx 58 [.v (.float .f32 a3)] (I t2),Computes cx 57 [.agg [I a0,I a1,.lst false 1 a2]] (I t1)]) (by kernel_rfl) ⟨((Z7 h3).le (.cons (.full _ _ _) (.nil)) (.refl _)),(EB h2),(WA h1),trivial⟩
def ZC (n:Nat) (a0 a1:Int) (a2:List D) (a3:Nat) (sa:(Int)⊕(Int×List D)):Option (((Int)⊕(Int×List D))⊕((Unit)⊕(List D))):=match sa with
 | (.inl sa)=>(
  if sa < ((a2).length:Int) then
   (el Vq a2 sa).bind fun ta2 =>
   if a0≠0 then
   if Qb (Int.tdiv sa a0) then
   (ZO n ta2).bind fun ta5 =>
   (ZO n a3).bind fun ta6 =>
   if ta5 ≥ ta6 then
    if Qb (sa+1) then
    some (.inl (.inr ((sa+1),[.agg [I (Int.tmod sa a0),I (Int.tdiv sa a0)]])))
    else none
   else
   if Qb (sa+1) then
   some (.inl (.inl (sa+1)))
   else none
   else none
   else none
  else
  some (.inr (.inl ())))
 | (.inr sa)=>(
  if sa.1 < ((a2).length:Int) then
   (el Vq a2 sa.1).bind fun ta2 =>
   if a0≠0 then
   if Qb (Int.tdiv sa.1 a0) then
   (ZO n ta2).bind fun ta5 =>
   (ZO n a3).bind fun ta6 =>
   if ta5 ≥ ta6 then
    if ZZ 16 ((sa.2).length+1) then
    if Qb (sa.1+1) then
    some (.inl (.inr ((sa.1+1),(sa.2++([.agg [I (Int.tmod sa.1 a0),I (Int.tdiv sa.1 a0)]]:List D)))))
    else none
    else none
   else
   if Qb (sa.1+1) then
   some (.inl (.inr ((sa.1+1),sa.2)))
   else none
   else none
   else none
  else
  some (.inr (.inr sa.2)))
noncomputable def jb (a0 a1:Int) (a2:List D) (a3:Nat) (sa:(Int)⊕(Int×List D)):List (Nat×AV):=match sa with
 | (.inl sa)=>[(0,.own 10 0),(1,.ptr 6 0 0 0 0),(6,.d (.lst false 1 a2)),(7,.d (I ((a2).length:Int))),(8,.d (I sa))]
 | (.inr sa)=>[(0,.own 10 0),(1,.ptr 6 0 0 0 0),(6,.d (.lst false 1 a2)),(7,.d (I ((a2).length:Int))),(8,.d (I sa.1))]
noncomputable def jc (a0 a1:Int) (a2:List D) (a3:Nat) (sa:(Int)⊕(Int×List D)):List (Nat×Blk):=match sa with
 | (.inl sa)=>[(0,.box (.d (.agg [I a0,I a1,.lst false 1 a2]))),(1,.box (.d (.v (.float .f32 a3)))),(3,.box (.d (.lst true 0 []))),(6,.box (.d (.agg [I a0,I a1,.lst false 1 a2]))),(10,.loop true [(9,.fn (.func 77) [] [.ptr 6 0 0 0 0]),(8,.d (.agg [I a0,I a1,.lst false 1 a2])),(5,.ptr 3 0 0 0 0),(4,.d (.lst true 0 [])),(3,.ptr 1 0 0 0 0),(2,.ptr 0 0 0 0 0),(1,.d (.v (.float .f32 a3))),(0,.d (.agg [I a0,I a1,.lst false 1 a2]))] [10,11] (Qv cx.P 31 0).1 (Qv cx.P 31 0).2 21)]
 | (.inr sa)=>[(0,.box (.d (.agg [I a0,I a1,.lst false 1 a2]))),(1,.box (.d (.v (.float .f32 a3)))),(3,.box (.own 45 0)),(6,.box (.d (.agg [I a0,I a1,.lst false 1 a2]))),(10,.loop true [(9,.fn (.func 77) [] [.ptr 6 0 0 0 0]),(8,.d (.agg [I a0,I a1,.lst false 1 a2])),(5,.ptr 3 0 0 0 0),(4,.d (.lst true 0 [])),(3,.ptr 1 0 0 0 0),(2,.ptr 0 0 0 0 0),(1,.d (.v (.float .f32 a3))),(0,.d (.agg [I a0,I a1,.lst false 1 a2]))] [10,11] (Qv cx.P 31 0).1 (Qv cx.P 31 0).2 21),(45,.row 0 2 sa.2)]
noncomputable def wW (a0 a1:Int) (a2:List D) (a3:Nat) (e:(Unit)⊕(List D)):Ex:=match e with
 | (.inl e)=>(.exit 0)
 | (.inr e)=>(.exit 0)
noncomputable def wm (a0 a1:Int) (a2:List D) (a3:Nat) (e:(Unit)⊕(List D)):List (Nat×AV):=match e with
 | (.inl e)=>[]
 | (.inr e)=>[]
noncomputable def wn (a0 a1:Int) (a2:List D) (a3:Nat) (e:(Unit)⊕(List D)):List (Nat×Blk):=match e with
 | (.inl e)=>[(0,.box (.d (.agg [I a0,I a1,.lst false 1 a2]))),(1,.box (.d (.v (.float .f32 a3)))),(3,.box (.d (.lst true 0 []))),(6,.box (.d (.agg [I a0,I a1,.lst false 1 a2]))),(10,.loop true [(9,.fn (.func 77) [] [.ptr 6 0 0 0 0]),(8,.d (.agg [I a0,I a1,.lst false 1 a2])),(5,.ptr 3 0 0 0 0),(4,.d (.lst true 0 [])),(3,.ptr 1 0 0 0 0),(2,.ptr 0 0 0 0 0),(1,.d (.v (.float .f32 a3))),(0,.d (.agg [I a0,I a1,.lst false 1 a2]))] [10,11] (Qv cx.P 31 0).1 (Qv cx.P 31 0).2 21)]
 | (.inr e)=>[(0,.box (.d (.agg [I a0,I a1,.lst false 1 a2]))),(1,.box (.d (.v (.float .f32 a3)))),(3,.box (.own 45 0)),(6,.box (.d (.agg [I a0,I a1,.lst false 1 a2]))),(10,.loop true [(9,.fn (.func 77) [] [.ptr 6 0 0 0 0]),(8,.d (.agg [I a0,I a1,.lst false 1 a2])),(5,.ptr 3 0 0 0 0),(4,.d (.lst true 0 [])),(3,.ptr 1 0 0 0 0),(2,.ptr 0 0 0 0 0),(1,.d (.v (.float .f32 a3))),(0,.d (.agg [I a0,I a1,.lst false 1 a2]))] [10,11] (Qv cx.P 31 0).1 (Qv cx.P 31 0).2 21),(45,.row 0 2 e)]
theorem Gs {n:Nat} {a0 a1:Int} {a2:List D} {a3:Nat} (sa:(Int)⊕(Int×List D)) (r) (h:ZC n a0 a1 a2 a3 sa=some r):Rd cx (Qs cx.P 77 0) 28 11 false (jb a0 a1 a2 a3) (jc a0 a1 a2 a3) (wW a0 a1 a2 a3) (wm a0 a1 a2 a3) (wn a0 a1 a2 a3) sa r:=by
 unfold ZC at h
 rcases sa with sa | sa
 ·by_cases ha1:sa < ((a2).length:Int)
  ·replace h:=Qj h ha1
   obtain ⟨ta2,ha2,h⟩:=Qe h
   obtain ⟨ha3,h⟩:=Qf h
   obtain ⟨ha4,h⟩:=Qf h
   obtain ⟨ta5,ha5,h⟩:=Qe h
   obtain ⟨ta6,ha6,h⟩:=Qe h
   by_cases ha7:ta5 ≥ ta6
   ·replace h:=Qj h ha7
    obtain ⟨ha8,h⟩:=Qf h
    replace h:=Option.some.inj h
    subst h
    exact ⟨100,15,[.br true,.el (.v (.float .f32 ta2)),.ret (I ta5),.ret (I ta6),.br true,.no,.no,.no],[],[0,1,6,7,8],[0,1,3,6,10,45],Qg (ob:=[Qb (sa+1),(decide (ta5 ≥ ta6))=true,Computes cx 60 [.v (.float .f32 a3)] (I ta6),Computes cx 60 [.v (.float .f32 ta2)] (I ta5),a0≠0,Qb (Int.tdiv sa a0),a0≠0,(0:Int)≤sa,nth (a2) (Int.toNat sa)=some (.v (.float .f32 ta2)),(decide (sa < ((a2).length:Int)))=true]) (by kernel_rfl) ⟨ha8,(decide_eq_true ha7),(QX ha6),(QX ha5),ha3,ha4,ha3,(Qp Qr ha2).1,(Qp Qr ha2).2,(decide_eq_true ha1),trivial⟩⟩
   ·replace h:=Qk h ha7
    obtain ⟨ha8,h⟩:=Qf h
    replace h:=Option.some.inj h
    subst h
    exact ⟨100,15,[.br true,.el (.v (.float .f32 ta2)),.ret (I ta5),.ret (I ta6),.br false,.no],[],[0,1,6,7,8],[0,1,3,6,10],Qg (ob:=[Qb (sa+1),(decide (ta5 ≥ ta6))=false,Computes cx 60 [.v (.float .f32 a3)] (I ta6),Computes cx 60 [.v (.float .f32 ta2)] (I ta5),a0≠0,Qb (Int.tdiv sa a0),a0≠0,(0:Int)≤sa,nth (a2) (Int.toNat sa)=some (.v (.float .f32 ta2)),(decide (sa < ((a2).length:Int)))=true]) (by kernel_rfl) ⟨ha8,(decide_eq_false ha7),(QX ha6),(QX ha5),ha3,ha4,ha3,(Qp Qr ha2).1,(Qp Qr ha2).2,(decide_eq_true ha1),trivial⟩⟩
  ·replace h:=Qk h ha1
   replace h:=Option.some.inj h
   subst h
   exact ⟨⟨100,15,[.br false],[],[],[0,1,3,6,10],Qg (ob:=[(decide (sa < ((a2).length:Int)))=false]) (by kernel_rfl) ⟨(decide_eq_false ha1),trivial⟩⟩,nofun⟩
 ·by_cases ha1:sa.1 < ((a2).length:Int)
  ·replace h:=Qj h ha1
   obtain ⟨ta2,ha2,h⟩:=Qe h
   obtain ⟨ha3,h⟩:=Qf h
   obtain ⟨ha4,h⟩:=Qf h
   obtain ⟨ta5,ha5,h⟩:=Qe h
   obtain ⟨ta6,ha6,h⟩:=Qe h
   by_cases ha7:ta5 ≥ ta6
   ·replace h:=Qj h ha7
    obtain ⟨ha8,h⟩:=Qf h
    obtain ⟨ha9,h⟩:=Qf h
    replace h:=Option.some.inj h
    subst h
    exact ⟨100,46,[.br true,.el (.v (.float .f32 ta2)),.ret (I ta5),.ret (I ta6),.br true,.br true,.no],[],[0,1,6,7,8],[0,1,3,6,10,45],Qg (ob:=[Qb (sa.1+1),room cx 30 ((sa.2).length+1),(decide (ta5 ≥ ta6))=true,Computes cx 60 [.v (.float .f32 a3)] (I ta6),Computes cx 60 [.v (.float .f32 ta2)] (I ta5),a0≠0,Qb (Int.tdiv sa.1 a0),a0≠0,(0:Int)≤sa.1,nth (a2) (Int.toNat sa.1)=some (.v (.float .f32 ta2)),(decide (sa.1 < ((a2).length:Int)))=true]) (by kernel_rfl) ⟨ha9,(QT (b:=16) (by kernel_rfl) (by decide) ha8),(decide_eq_true ha7),(QX ha6),(QX ha5),ha3,ha4,ha3,(Qp Qr ha2).1,(Qp Qr ha2).2,(decide_eq_true ha1),trivial⟩⟩
   ·replace h:=Qk h ha7
    obtain ⟨ha8,h⟩:=Qf h
    replace h:=Option.some.inj h
    subst h
    exact ⟨100,46,[.br true,.el (.v (.float .f32 ta2)),.ret (I ta5),.ret (I ta6),.br false,.no],[],[0,1,6,7,8],[0,1,3,6,10,45],Qg (ob:=[Qb (sa.1+1),(decide (ta5 ≥ ta6))=false,Computes cx 60 [.v (.float .f32 a3)] (I ta6),Computes cx 60 [.v (.float .f32 ta2)] (I ta5),a0≠0,Qb (Int.tdiv sa.1 a0),a0≠0,(0:Int)≤sa.1,nth (a2) (Int.toNat sa.1)=some (.v (.float .f32 ta2)),(decide (sa.1 < ((a2).length:Int)))=true]) (by kernel_rfl) ⟨ha8,(decide_eq_false ha7),(QX ha6),(QX ha5),ha3,ha4,ha3,(Qp Qr ha2).1,(Qp Qr ha2).2,(decide_eq_true ha1),trivial⟩⟩
  ·replace h:=Qk h ha1
   replace h:=Option.some.inj h
   subst h
   exact ⟨⟨100,46,[.br false],[],[],[0,1,3,6,10,45],Qg (ob:=[(decide (sa.1 < ((a2).length:Int)))=false]) (by kernel_rfl) ⟨(decide_eq_false ha1),trivial⟩⟩,nofun⟩
def VQ (n:Nat) (a0 a1:Int) (a2:List D) (a3:Nat):Option (List D) :=
 (Qz (ZC n a0 a1 a2 a3) n (.inl 0)).bind fun t1=>match t1 with
  | (.inl t1)=>(
   some [])
  | (.inr t1)=>(
   some t1)
theorem qB {n:Nat} {a0 a1:Int} {a2:List D} {a3:Nat} {r:List D} (h:VQ n a0 a1 a2 a3=some r):Computes cx 31 [.agg [I a0,I a1,.lst false 1 a2],.v (.float .f32 a3)] (.lst false 2 r):=by
 unfold VQ at h
 obtain ⟨t1,h1,h⟩:=Qe h
 rcases t1 with t1 | t1
 ·replace h:=Option.some.inj h
  subst h
  exact (run (n:=100) (f:=31) (args:=[.agg [I a0,I a1,.lst false 1 a2],.v (.float .f32 a3)]) (orc:=[.br true,.lp [] [0,1,6,7,8] [0,1,3,6,10] (.exit 0) [] [(0,.box (.d (.agg [I a0,I a1,.lst false 1 a2]))),(1,.box (.d (.v (.float .f32 a3)))),(3,.box (.d (.lst true 0 []))),(6,.box (.d (.agg [I a0,I a1,.lst false 1 a2]))),(10,.loop true [(9,.fn (.func 77) [] [.ptr 6 0 0 0 0]),(8,.d (.agg [I a0,I a1,.lst false 1 a2])),(5,.ptr 3 0 0 0 0),(4,.d (.lst true 0 [])),(3,.ptr 1 0 0 0 0),(2,.ptr 0 0 0 0 0),(1,.d (.v (.float .f32 a3))),(0,.d (.agg [I a0,I a1,.lst false 1 a2]))] [10,11] (Qv cx.P 31 0).1 (Qv cx.P 31 0).2 21)] 91]) (r:=.lst true 0 []) (ob:=[QM cx (Qs cx.P 77 0) 28 11 false [(0,.own 10 0),(1,.ptr 6 0 0 0 0),(6,.d (.lst false 1 a2)),(7,.d (I ((a2).length:Int))),(8,.d (I 0))] [(0,.box (.d (.agg [I a0,I a1,.lst false 1 a2]))),(1,.box (.d (.v (.float .f32 a3)))),(3,.box (.d (.lst true 0 []))),(6,.box (.d (.agg [I a0,I a1,.lst false 1 a2]))),(10,.loop true [(9,.fn (.func 77) [] [.ptr 6 0 0 0 0]),(8,.d (.agg [I a0,I a1,.lst false 1 a2])),(5,.ptr 3 0 0 0 0),(4,.d (.lst true 0 [])),(3,.ptr 1 0 0 0 0),(2,.ptr 0 0 0 0 0),(1,.d (.v (.float .f32 a3))),(0,.d (.agg [I a0,I a1,.lst false 1 a2]))] [10,11] (Qv cx.P 31 0).1 (Qv cx.P 31 0).2 21)] (.exit 0) [] [(0,.box (.d (.agg [I a0,I a1,.lst false 1 a2]))),(1,.box (.d (.v (.float .f32 a3)))),(3,.box (.d (.lst true 0 []))),(6,.box (.d (.agg [I a0,I a1,.lst false 1 a2]))),(10,.loop true [(9,.fn (.func 77) [] [.ptr 6 0 0 0 0]),(8,.d (.agg [I a0,I a1,.lst false 1 a2])),(5,.ptr 3 0 0 0 0),(4,.d (.lst true 0 [])),(3,.ptr 1 0 0 0 0),(2,.ptr 0 0 0 0 0),(1,.d (.v (.float .f32 a3))),(0,.d (.agg [I a0,I a1,.lst false 1 a2]))] [10,11] (Qv cx.P 31 0).1 (Qv cx.P 31 0).2 21)]]) (by kernel_rfl) ⟨(Qu Gs h1),trivial⟩).le (LEs.refl _) (.nilF)
 ·replace h:=Option.some.inj h
  subst h
  exact run (n:=100) (f:=31) (args:=[.agg [I a0,I a1,.lst false 1 a2],.v (.float .f32 a3)]) (orc:=[.br true,.lp [] [0,1,6,7,8] [0,1,3,6,10] (.exit 0) [] [(0,.box (.d (.agg [I a0,I a1,.lst false 1 a2]))),(1,.box (.d (.v (.float .f32 a3)))),(3,.box (.own 45 0)),(6,.box (.d (.agg [I a0,I a1,.lst false 1 a2]))),(10,.loop true [(9,.fn (.func 77) [] [.ptr 6 0 0 0 0]),(8,.d (.agg [I a0,I a1,.lst false 1 a2])),(5,.ptr 3 0 0 0 0),(4,.d (.lst true 0 [])),(3,.ptr 1 0 0 0 0),(2,.ptr 0 0 0 0 0),(1,.d (.v (.float .f32 a3))),(0,.d (.agg [I a0,I a1,.lst false 1 a2]))] [10,11] (Qv cx.P 31 0).1 (Qv cx.P 31 0).2 21),(45,.row 0 2 t1)] 91]) (r:=.lst false 2 t1) (ob:=[QM cx (Qs cx.P 77 0) 28 11 false [(0,.own 10 0),(1,.ptr 6 0 0 0 0),(6,.d (.lst false 1 a2)),(7,.d (I ((a2).length:Int))),(8,.d (I 0))] [(0,.box (.d (.agg [I a0,I a1,.lst false 1 a2]))),(1,.box (.d (.v (.float .f32 a3)))),(3,.box (.d (.lst true 0 []))),(6,.box (.d (.agg [I a0,I a1,.lst false 1 a2]))),(10,.loop true [(9,.fn (.func 77) [] [.ptr 6 0 0 0 0]),(8,.d (.agg [I a0,I a1,.lst false 1 a2])),(5,.ptr 3 0 0 0 0),(4,.d (.lst true 0 [])),(3,.ptr 1 0 0 0 0),(2,.ptr 0 0 0 0 0),(1,.d (.v (.float .f32 a3))),(0,.d (.agg [I a0,I a1,.lst false 1 a2]))] [10,11] (Qv cx.P 31 0).1 (Qv cx.P 31 0).2 21)] (.exit 0) [] [(0,.box (.d (.agg [I a0,I a1,.lst false 1 a2]))),(1,.box (.d (.v (.float .f32 a3)))),(3,.box (.own 45 0)),(6,.box (.d (.agg [I a0,I a1,.lst false 1 a2]))),(10,.loop true [(9,.fn (.func 77) [] [.ptr 6 0 0 0 0]),(8,.d (.agg [I a0,I a1,.lst false 1 a2])),(5,.ptr 3 0 0 0 0),(4,.d (.lst true 0 [])),(3,.ptr 1 0 0 0 0),(2,.ptr 0 0 0 0 0),(1,.d (.v (.float .f32 a3))),(0,.d (.agg [I a0,I a1,.lst false 1 a2]))] [10,11] (Qv cx.P 31 0).1 (Qv cx.P 31 0).2 21),(45,.row 0 2 t1)]]) (by kernel_rfl) ⟨(Qu Gs h1),trivial⟩
def Ql (x:Int×Int):D:=.agg [I x.1,I x.2]
def ZP:D→Option (Int×Int)
 | .agg [c0,c1]=>(K0 .i64 c0).bind fun y0=>(K0 .i64 c1).bind fun y1=>some (y0,y1)
 | _=>none
theorem Qi {d:D} {x:Int×Int} (h:ZP d=some x):d=Ql x:=by
 unfold ZP at h
 split at h
 case h_2=>cases h
 obtain ⟨y0,h0,h⟩:=Qe h
 obtain ⟨y1,h1,h⟩:=Qe h
 cases h
 have e0:=Yb h0
 have e1:=Yb h1
 rw [e0,e1];rfl
def QgU (x:Bool):D:=B x
def Kx (d:D):Option (Bool):=uE d
theorem Zl {d:D} {x:Bool} (h:Kx d=some x):d=QgU x:=Qb1 h
def ZV (n:Nat) (t3:List D) (sa:(Int×List D)):Option (((Int×List D))⊕((List D))) :=
 if sa.1 < ((t3).length:Int) then
  (el ZP t3 sa.1).bind fun ta2 =>
  if mok (.agg #[.int .i64 ta2.1,.int .i64 ta2.2]) (sa.2:List D)=true then
  if Qb (sa.1+1) then
  some (.inl ((sa.1+1),(Qw (.agg #[.int .i64 ta2.1,.int .i64 ta2.2]) (B true) (sa.2:List D))))
  else none
  else none
 else
 some (.inr sa.2)
noncomputable def ze (t3:List D) (sa:(Int×List D)):List (Nat×AV):=[(7,.d (.lst false 2 t3)),(8,.own 13 0),(30,.d (.lst false 2 t3)),(31,.d (I ((t3).length:Int))),(32,.d (I sa.1))]
noncomputable def zq (t3:List D) (sa:(Int×List D)):List (Nat×Blk):=[(13,.mp sa.2)]
noncomputable def qN (t3:List D) (e:(List D)):Ex:=(.exit 0)
noncomputable def EK (t3:List D) (e:(List D)):List (Nat×AV):=[(7,.d (.lst false 2 t3)),(8,.own 13 0)]
noncomputable def ER (t3:List D) (e:(List D)):List (Nat×Blk):=[(13,.mp e)]
theorem zj {n:Nat} {t3:List D} (sa:(Int×List D)) (r) (h:ZV n t3 sa=some r):Rd cx (Qs cx.P 11 0) 93 0 false (ze t3) (zq t3) (qN t3) (EK t3) (ER t3) sa r:=by
 unfold ZV at h
 by_cases ha1:sa.1 < ((t3).length:Int)
 ·replace h:=Qj h ha1
  obtain ⟨ta2,ha2,h⟩:=Qe h
  obtain ⟨ha3,h⟩:=Qf h
  obtain ⟨ha4,h⟩:=Qf h
  replace h:=Option.some.inj h
  subst h
  exact ⟨100,18,[.br true,.el (.agg [I ta2.1,I ta2.2]),.br true],[],[7,8,30,31,32],[13],Qg (ob:=[Qb (sa.1+1),mok (.agg #[.int .i64 ta2.1,.int .i64 ta2.2]) (sa.2:List D)=true,(0:Int)≤sa.1,nth (t3) (Int.toNat sa.1)=some (.agg [I ta2.1,I ta2.2]),(decide (sa.1 < ((t3).length:Int)))=true]) (by kernel_rfl) ⟨ha4,ha3,(Qp Qi ha2).1,(Qp Qi ha2).2,(decide_eq_true ha1),trivial⟩⟩
 ·replace h:=Qk h ha1
  replace h:=Option.some.inj h
  subst h
  exact ⟨⟨100,18,[.br false],[],[7,8],[13],Qg (ob:=[(decide (sa.1 < ((t3).length:Int)))=false]) (by kernel_rfl) ⟨(decide_eq_false ha1),trivial⟩⟩,nofun⟩
def QZ (n:Nat) (t3:List D) (sa:Int×List D×List D) (ta2:Int×Int) (sb:Int) (sc:(Int)⊕(Int×List D×List D)):Option (((Int)⊕(Int×List D×List D))⊕((Unit)⊕(List D×List D))):=match sc with
 | (.inl sc)=>(
  if sc < 4 then
   if sc=0 then
    (el ZP [.agg [I ta2.1,I ta2.2]] sb).bind fun tc3 =>
    (QE n tc3.1 tc3.2 (-1) 0).bind fun tc4 =>
    if mok (.agg #[.int .i64 tc4.1,.int .i64 tc4.2]) ((Qw (.agg #[.int .i64 ta2.1,.int .i64 ta2.2]) (B false) (sa.2.1:List D)):List D)=true then
    if (QD (.agg #[.int .i64 tc4.1,.int .i64 tc4.2]) ((Qw (.agg #[.int .i64 ta2.1,.int .i64 ta2.2]) (B false) (sa.2.1:List D)):List D)).isSome=true then
     ((QD (.agg #[.int .i64 tc4.1,.int .i64 tc4.2]) ((Qw (.agg #[.int .i64 ta2.1,.int .i64 ta2.2]) (B false) (sa.2.1:List D)):List D)).bind Kx).bind fun tc7 =>
     if tc7=true then
      if Qb (sc+1) then
      some (.inl (.inr ((sc+1),(Qw (.agg #[.int .i64 tc4.1,.int .i64 tc4.2]) (B false) ((Qw (.agg #[.int .i64 ta2.1,.int .i64 ta2.2]) (B false) (sa.2.1:List D)):List D)),[.agg [I ta2.1,I ta2.2],.agg [I tc4.1,I tc4.2]])))
      else none
     else
     if Qb (sc+1) then
     some (.inl (.inl (sc+1)))
     else none
    else
    if Qb (sc+1) then
    some (.inl (.inl (sc+1)))
    else none
    else none
   else
   if sc=1 then
    (el ZP [.agg [I ta2.1,I ta2.2]] sb).bind fun tc4 =>
    (QE n tc4.1 tc4.2 1 0).bind fun tc5 =>
    if mok (.agg #[.int .i64 tc5.1,.int .i64 tc5.2]) ((Qw (.agg #[.int .i64 ta2.1,.int .i64 ta2.2]) (B false) (sa.2.1:List D)):List D)=true then
    if (QD (.agg #[.int .i64 tc5.1,.int .i64 tc5.2]) ((Qw (.agg #[.int .i64 ta2.1,.int .i64 ta2.2]) (B false) (sa.2.1:List D)):List D)).isSome=true then
     ((QD (.agg #[.int .i64 tc5.1,.int .i64 tc5.2]) ((Qw (.agg #[.int .i64 ta2.1,.int .i64 ta2.2]) (B false) (sa.2.1:List D)):List D)).bind Kx).bind fun tc8 =>
     if tc8=true then
      if Qb (sc+1) then
      some (.inl (.inr ((sc+1),(Qw (.agg #[.int .i64 tc5.1,.int .i64 tc5.2]) (B false) ((Qw (.agg #[.int .i64 ta2.1,.int .i64 ta2.2]) (B false) (sa.2.1:List D)):List D)),[.agg [I ta2.1,I ta2.2],.agg [I tc5.1,I tc5.2]])))
      else none
     else
     if Qb (sc+1) then
     some (.inl (.inl (sc+1)))
     else none
    else
    if Qb (sc+1) then
    some (.inl (.inl (sc+1)))
    else none
    else none
   else
   if sc=2 then
    (el ZP [.agg [I ta2.1,I ta2.2]] sb).bind fun tc5 =>
    (QE n tc5.1 tc5.2 0 (-1)).bind fun tc6 =>
    if mok (.agg #[.int .i64 tc6.1,.int .i64 tc6.2]) ((Qw (.agg #[.int .i64 ta2.1,.int .i64 ta2.2]) (B false) (sa.2.1:List D)):List D)=true then
    if (QD (.agg #[.int .i64 tc6.1,.int .i64 tc6.2]) ((Qw (.agg #[.int .i64 ta2.1,.int .i64 ta2.2]) (B false) (sa.2.1:List D)):List D)).isSome=true then
     ((QD (.agg #[.int .i64 tc6.1,.int .i64 tc6.2]) ((Qw (.agg #[.int .i64 ta2.1,.int .i64 ta2.2]) (B false) (sa.2.1:List D)):List D)).bind Kx).bind fun tc9 =>
     if tc9=true then
      if Qb (sc+1) then
      some (.inl (.inr ((sc+1),(Qw (.agg #[.int .i64 tc6.1,.int .i64 tc6.2]) (B false) ((Qw (.agg #[.int .i64 ta2.1,.int .i64 ta2.2]) (B false) (sa.2.1:List D)):List D)),[.agg [I ta2.1,I ta2.2],.agg [I tc6.1,I tc6.2]])))
      else none
     else
     if Qb (sc+1) then
     some (.inl (.inl (sc+1)))
     else none
    else
    if Qb (sc+1) then
    some (.inl (.inl (sc+1)))
    else none
    else none
   else
   if sc=3 then
   (el ZP [.agg [I ta2.1,I ta2.2]] sb).bind fun tc6 =>
   (QE n tc6.1 tc6.2 0 1).bind fun tc7 =>
   if mok (.agg #[.int .i64 tc7.1,.int .i64 tc7.2]) ((Qw (.agg #[.int .i64 ta2.1,.int .i64 ta2.2]) (B false) (sa.2.1:List D)):List D)=true then
   if (QD (.agg #[.int .i64 tc7.1,.int .i64 tc7.2]) ((Qw (.agg #[.int .i64 ta2.1,.int .i64 ta2.2]) (B false) (sa.2.1:List D)):List D)).isSome=true then
    ((QD (.agg #[.int .i64 tc7.1,.int .i64 tc7.2]) ((Qw (.agg #[.int .i64 ta2.1,.int .i64 ta2.2]) (B false) (sa.2.1:List D)):List D)).bind Kx).bind fun tc10 =>
    if tc10=true then
     if Qb (sc+1) then
     some (.inl (.inr ((sc+1),(Qw (.agg #[.int .i64 tc7.1,.int .i64 tc7.2]) (B false) ((Qw (.agg #[.int .i64 ta2.1,.int .i64 ta2.2]) (B false) (sa.2.1:List D)):List D)),[.agg [I ta2.1,I ta2.2],.agg [I tc7.1,I tc7.2]])))
     else none
    else
    if Qb (sc+1) then
    some (.inl (.inl (sc+1)))
    else none
   else
   if Qb (sc+1) then
   some (.inl (.inl (sc+1)))
   else none
   else none
   else none
  else
  some (.inr (.inl ())))
 | (.inr sc)=>(
  if sc.1 < 4 then
   if sc.1=0 then
    if 0≤sb∧sb < ((sc.2.2).length:Int) then
    ((nth (sc.2.2) (Int.toNat sb)).bind ZP).bind fun tc4 =>
    (QE n tc4.1 tc4.2 (-1) 0).bind fun tc5 =>
    if mok (.agg #[.int .i64 tc5.1,.int .i64 tc5.2]) (sc.2.1:List D)=true then
    if (QD (.agg #[.int .i64 tc5.1,.int .i64 tc5.2]) (sc.2.1:List D)).isSome=true then
     ((QD (.agg #[.int .i64 tc5.1,.int .i64 tc5.2]) (sc.2.1:List D)).bind Kx).bind fun tc8 =>
     if tc8=true then
      if ZZ 16 ((sc.2.2).length+1) then
      if Qb (sc.1+1) then
      some (.inl (.inr ((sc.1+1),(Qw (.agg #[.int .i64 tc5.1,.int .i64 tc5.2]) (B false) (sc.2.1:List D)),(sc.2.2++([.agg [I tc5.1,I tc5.2]]:List D)))))
      else none
      else none
     else
     if Qb (sc.1+1) then
     some (.inl (.inr ((sc.1+1),sc.2.1,sc.2.2)))
     else none
    else
    if Qb (sc.1+1) then
    some (.inl (.inr ((sc.1+1),sc.2.1,sc.2.2)))
    else none
    else none
    else none
   else
   if sc.1=1 then
    if 0≤sb∧sb < ((sc.2.2).length:Int) then
    ((nth (sc.2.2) (Int.toNat sb)).bind ZP).bind fun tc5 =>
    (QE n tc5.1 tc5.2 1 0).bind fun tc6 =>
    if mok (.agg #[.int .i64 tc6.1,.int .i64 tc6.2]) (sc.2.1:List D)=true then
    if (QD (.agg #[.int .i64 tc6.1,.int .i64 tc6.2]) (sc.2.1:List D)).isSome=true then
     ((QD (.agg #[.int .i64 tc6.1,.int .i64 tc6.2]) (sc.2.1:List D)).bind Kx).bind fun tc9 =>
     if tc9=true then
      if ZZ 16 ((sc.2.2).length+1) then
      if Qb (sc.1+1) then
      some (.inl (.inr ((sc.1+1),(Qw (.agg #[.int .i64 tc6.1,.int .i64 tc6.2]) (B false) (sc.2.1:List D)),(sc.2.2++([.agg [I tc6.1,I tc6.2]]:List D)))))
      else none
      else none
     else
     if Qb (sc.1+1) then
     some (.inl (.inr ((sc.1+1),sc.2.1,sc.2.2)))
     else none
    else
    if Qb (sc.1+1) then
    some (.inl (.inr ((sc.1+1),sc.2.1,sc.2.2)))
    else none
    else none
    else none
   else
   if sc.1=2 then
    if 0≤sb∧sb < ((sc.2.2).length:Int) then
    ((nth (sc.2.2) (Int.toNat sb)).bind ZP).bind fun tc6 =>
    (QE n tc6.1 tc6.2 0 (-1)).bind fun tc7 =>
    if mok (.agg #[.int .i64 tc7.1,.int .i64 tc7.2]) (sc.2.1:List D)=true then
    if (QD (.agg #[.int .i64 tc7.1,.int .i64 tc7.2]) (sc.2.1:List D)).isSome=true then
     ((QD (.agg #[.int .i64 tc7.1,.int .i64 tc7.2]) (sc.2.1:List D)).bind Kx).bind fun tc10 =>
     if tc10=true then
      if ZZ 16 ((sc.2.2).length+1) then
      if Qb (sc.1+1) then
      some (.inl (.inr ((sc.1+1),(Qw (.agg #[.int .i64 tc7.1,.int .i64 tc7.2]) (B false) (sc.2.1:List D)),(sc.2.2++([.agg [I tc7.1,I tc7.2]]:List D)))))
      else none
      else none
     else
     if Qb (sc.1+1) then
     some (.inl (.inr ((sc.1+1),sc.2.1,sc.2.2)))
     else none
    else
    if Qb (sc.1+1) then
    some (.inl (.inr ((sc.1+1),sc.2.1,sc.2.2)))
    else none
    else none
    else none
   else
   if sc.1=3 then
   if 0≤sb∧sb < ((sc.2.2).length:Int) then
   ((nth (sc.2.2) (Int.toNat sb)).bind ZP).bind fun tc7 =>
   (QE n tc7.1 tc7.2 0 1).bind fun tc8 =>
   if mok (.agg #[.int .i64 tc8.1,.int .i64 tc8.2]) (sc.2.1:List D)=true then
   if (QD (.agg #[.int .i64 tc8.1,.int .i64 tc8.2]) (sc.2.1:List D)).isSome=true then
    ((QD (.agg #[.int .i64 tc8.1,.int .i64 tc8.2]) (sc.2.1:List D)).bind Kx).bind fun tc11 =>
    if tc11=true then
     if ZZ 16 ((sc.2.2).length+1) then
     if Qb (sc.1+1) then
     some (.inl (.inr ((sc.1+1),(Qw (.agg #[.int .i64 tc8.1,.int .i64 tc8.2]) (B false) (sc.2.1:List D)),(sc.2.2++([.agg [I tc8.1,I tc8.2]]:List D)))))
     else none
     else none
    else
    if Qb (sc.1+1) then
    some (.inl (.inr ((sc.1+1),sc.2.1,sc.2.2)))
    else none
   else
   if Qb (sc.1+1) then
   some (.inl (.inr ((sc.1+1),sc.2.1,sc.2.2)))
   else none
   else none
   else none
   else none
  else
  some (.inr (.inr (sc.2.1,sc.2.2))))
noncomputable def zb (t3:List D) (sa:Int×List D×List D) (ta2:Int×Int) (sb:Int) (sc:(Int)⊕(Int×List D×List D)):List (Nat×AV):=match sc with
 | (.inl sc)=>[(8,.own 13 0),(11,.own 43 0),(14,.own 60 0),(15,.d (I sb)),(39,.d (.lst false 2 t3)),(40,.d (I ((t3).length:Int))),(41,.d (I sa.1)),(59,.d (.agg [I (-1),I 0,I 1,I 0,I 0,I (-1),I 0,I 1])),(60,.d (I sc))]
 | (.inr sc)=>[(8,.own 13 0),(11,.own 43 0),(14,.own 60 0),(15,.d (I sb)),(39,.d (.lst false 2 t3)),(40,.d (I ((t3).length:Int))),(41,.d (I sa.1)),(59,.d (.agg [I (-1),I 0,I 1,I 0,I 0,I (-1),I 0,I 1])),(60,.d (I sc.1))]
noncomputable def zp (t3:List D) (sa:Int×List D×List D) (ta2:Int×Int) (sb:Int) (sc:(Int)⊕(Int×List D×List D)):List (Nat×Blk):=match sc with
 | (.inl sc)=>[(13,.mp (Qw (.agg #[.int .i64 ta2.1,.int .i64 ta2.2]) (B false) (sa.2.1:List D))),(43,.row 0 1 sa.2.2),(60,.virt 0 2 [.agg [I ta2.1,I ta2.2]])]
 | (.inr sc)=>[(13,.mp sc.2.1),(43,.row 0 1 sa.2.2),(60,.row 0 2 sc.2.2)]
noncomputable def qM (t3:List D) (sa:Int×List D×List D) (ta2:Int×Int) (sb:Int) (e:(Unit)⊕(List D×List D)):Ex:=match e with
 | (.inl e)=>(.exit 6)
 | (.inr e)=>(.exit 6)
noncomputable def EJ (t3:List D) (sa:Int×List D×List D) (ta2:Int×Int) (sb:Int) (e:(Unit)⊕(List D×List D)):List (Nat×AV):=match e with
 | (.inl e)=>[(8,.own 13 0),(11,.own 43 0),(14,.own 60 0),(15,.d (I sb)),(39,.d (.lst false 2 t3)),(40,.d (I ((t3).length:Int))),(41,.d (I sa.1))]
 | (.inr e)=>[(8,.own 13 0),(11,.own 43 0),(14,.own 60 0),(15,.d (I sb)),(39,.d (.lst false 2 t3)),(40,.d (I ((t3).length:Int))),(41,.d (I sa.1))]
noncomputable def EQ (t3:List D) (sa:Int×List D×List D) (ta2:Int×Int) (sb:Int) (e:(Unit)⊕(List D×List D)):List (Nat×Blk):=match e with
 | (.inl e)=>[(13,.mp (Qw (.agg #[.int .i64 ta2.1,.int .i64 ta2.2]) (B false) (sa.2.1:List D))),(43,.row 0 1 sa.2.2),(60,.virt 0 2 [.agg [I ta2.1,I ta2.2]])]
 | (.inr e)=>[(13,.mp e.1),(43,.row 0 1 sa.2.2),(60,.row 0 2 e.2)]
theorem KZ {n:Nat} {t3:List D} {sa:Int×List D×List D} {ta2:Int×Int} {sb:Int} (sc:(Int)⊕(Int×List D×List D)) (r) (h:QZ n t3 sa ta2 sb sc=some r):Rd cx (Qs cx.P 11 3) 93 0 false (zb t3 sa ta2 sb) (zp t3 sa ta2 sb) (qM t3 sa ta2 sb) (EJ t3 sa ta2 sb) (EQ t3 sa ta2 sb) sc r:=by
 unfold QZ at h
 rcases sc with sc | sc
 ·by_cases hc1:sc < 4
  ·replace h:=Qj h hc1
   by_cases hc2:sc=0
   ·replace h:=Qj h hc2
    obtain ⟨tc3,hc3,h⟩:=Qe h
    obtain ⟨tc4,hc4,h⟩:=Qe h
    obtain ⟨hc5,h⟩:=Qf h
    by_cases hc6:(QD (.agg #[.int .i64 tc4.1,.int .i64 tc4.2]) ((Qw (.agg #[.int .i64 ta2.1,.int .i64 ta2.2]) (B false) (sa.2.1:List D)):List D)).isSome=true
    ·replace h:=Qj h hc6
     obtain ⟨tc7,hc7,h⟩:=Qe h
     by_cases hc8:tc7=true
     ·replace h:=Qj h hc8
      obtain ⟨hc9,h⟩:=Qf h
      replace h:=Option.some.inj h
      subst h
      exact ⟨100,67,[.br true,.ix 0,.el (.agg [I tc3.1,I tc3.2]),.ret (.agg [I tc4.1,I tc4.2]),.el (B tc7),.br true,.br true,.no,.no],[],[8,11,14,15,39,40,41,59,60],[13,43,60],Qg (ob:=[Qb (sc+1),mok (.agg #[.int .i64 tc4.1,.int .i64 tc4.2]) ((Qw (.agg #[.int .i64 ta2.1,.int .i64 ta2.2]) (B false) (sa.2.1:List D)):List D)=true,tc7=true,QU false (.agg #[.int .i64 tc4.1,.int .i64 tc4.2]) (B false) ((Qw (.agg #[.int .i64 ta2.1,.int .i64 ta2.2]) (B false) (sa.2.1:List D)):List D)=some (B tc7),Computes cx 32 [.agg [I tc3.1,I tc3.2],.agg [I (-1),I 0]] (.agg [I tc4.1,I tc4.2]),(0:Int)≤sb,nth ([.agg [I ta2.1,I ta2.2]]:List D) (Int.toNat sb)=some (.agg [I tc3.1,I tc3.2]),sc=0,(decide (sc < 4))=true]) (by kernel_rfl) ⟨hc9,hc5,hc8,(Qy hc5 (ZD Zl hc7)),(Qq hc4),(Qp Qi hc3).1,(Qp Qi hc3).2,hc2,(decide_eq_true hc1),trivial⟩⟩
     ·replace h:=Qk h hc8
      obtain ⟨hc9,h⟩:=Qf h
      replace h:=Option.some.inj h
      subst h
      exact ⟨100,67,[.br true,.ix 0,.el (.agg [I tc3.1,I tc3.2]),.ret (.agg [I tc4.1,I tc4.2]),.el (B tc7),.br false],[],[8,11,14,15,39,40,41,59,60],[13,43,60],Qg (ob:=[Qb (sc+1),tc7=false,QU false (.agg #[.int .i64 tc4.1,.int .i64 tc4.2]) (B false) ((Qw (.agg #[.int .i64 ta2.1,.int .i64 ta2.2]) (B false) (sa.2.1:List D)):List D)=some (B tc7),Computes cx 32 [.agg [I tc3.1,I tc3.2],.agg [I (-1),I 0]] (.agg [I tc4.1,I tc4.2]),(0:Int)≤sb,nth ([.agg [I ta2.1,I ta2.2]]:List D) (Int.toNat sb)=some (.agg [I tc3.1,I tc3.2]),sc=0,(decide (sc < 4))=true]) (by kernel_rfl) ⟨hc9,(QJ hc8),(Qy hc5 (ZD Zl hc7)),(Qq hc4),(Qp Qi hc3).1,(Qp Qi hc3).2,hc2,(decide_eq_true hc1),trivial⟩⟩
    ·replace h:=Qk h hc6
     obtain ⟨hc7,h⟩:=Qf h
     replace h:=Option.some.inj h
     subst h
     exact ⟨100,67,[.br true,.ix 0,.el (.agg [I tc3.1,I tc3.2]),.ret (.agg [I tc4.1,I tc4.2]),.el (B false),.no],[],[8,11,14,15,39,40,41,59,60],[13,43,60],Qg (ob:=[Qb (sc+1),QU false (.agg #[.int .i64 tc4.1,.int .i64 tc4.2]) (B false) ((Qw (.agg #[.int .i64 ta2.1,.int .i64 ta2.2]) (B false) (sa.2.1:List D)):List D)=some (B false),Computes cx 32 [.agg [I tc3.1,I tc3.2],.agg [I (-1),I 0]] (.agg [I tc4.1,I tc4.2]),(0:Int)≤sb,nth ([.agg [I ta2.1,I ta2.2]]:List D) (Int.toNat sb)=some (.agg [I tc3.1,I tc3.2]),sc=0,(decide (sc < 4))=true]) (by kernel_rfl) ⟨hc7,(Q0 hc5 (mno hc6)),(Qq hc4),(Qp Qi hc3).1,(Qp Qi hc3).2,hc2,(decide_eq_true hc1),trivial⟩⟩
   ·replace h:=Qk h hc2
    by_cases hc3:sc=1
    ·replace h:=Qj h hc3
     obtain ⟨tc4,hc4,h⟩:=Qe h
     obtain ⟨tc5,hc5,h⟩:=Qe h
     obtain ⟨hc6,h⟩:=Qf h
     by_cases hc7:(QD (.agg #[.int .i64 tc5.1,.int .i64 tc5.2]) ((Qw (.agg #[.int .i64 ta2.1,.int .i64 ta2.2]) (B false) (sa.2.1:List D)):List D)).isSome=true
     ·replace h:=Qj h hc7
      obtain ⟨tc8,hc8,h⟩:=Qe h
      by_cases hc9:tc8=true
      ·replace h:=Qj h hc9
       obtain ⟨hc10,h⟩:=Qf h
       replace h:=Option.some.inj h
       subst h
       exact ⟨100,67,[.br true,.ix 1,.el (.agg [I tc4.1,I tc4.2]),.ret (.agg [I tc5.1,I tc5.2]),.el (B tc8),.br true,.br true,.no,.no],[],[8,11,14,15,39,40,41,59,60],[13,43,60],Qg (ob:=[Qb (sc+1),mok (.agg #[.int .i64 tc5.1,.int .i64 tc5.2]) ((Qw (.agg #[.int .i64 ta2.1,.int .i64 ta2.2]) (B false) (sa.2.1:List D)):List D)=true,tc8=true,QU false (.agg #[.int .i64 tc5.1,.int .i64 tc5.2]) (B false) ((Qw (.agg #[.int .i64 ta2.1,.int .i64 ta2.2]) (B false) (sa.2.1:List D)):List D)=some (B tc8),Computes cx 32 [.agg [I tc4.1,I tc4.2],.agg [I 1,I 0]] (.agg [I tc5.1,I tc5.2]),(0:Int)≤sb,nth ([.agg [I ta2.1,I ta2.2]]:List D) (Int.toNat sb)=some (.agg [I tc4.1,I tc4.2]),sc=1,(decide (sc < 4))=true]) (by kernel_rfl) ⟨hc10,hc6,hc9,(Qy hc6 (ZD Zl hc8)),(Qq hc5),(Qp Qi hc4).1,(Qp Qi hc4).2,hc3,(decide_eq_true hc1),trivial⟩⟩
      ·replace h:=Qk h hc9
       obtain ⟨hc10,h⟩:=Qf h
       replace h:=Option.some.inj h
       subst h
       exact ⟨100,67,[.br true,.ix 1,.el (.agg [I tc4.1,I tc4.2]),.ret (.agg [I tc5.1,I tc5.2]),.el (B tc8),.br false],[],[8,11,14,15,39,40,41,59,60],[13,43,60],Qg (ob:=[Qb (sc+1),tc8=false,QU false (.agg #[.int .i64 tc5.1,.int .i64 tc5.2]) (B false) ((Qw (.agg #[.int .i64 ta2.1,.int .i64 ta2.2]) (B false) (sa.2.1:List D)):List D)=some (B tc8),Computes cx 32 [.agg [I tc4.1,I tc4.2],.agg [I 1,I 0]] (.agg [I tc5.1,I tc5.2]),(0:Int)≤sb,nth ([.agg [I ta2.1,I ta2.2]]:List D) (Int.toNat sb)=some (.agg [I tc4.1,I tc4.2]),sc=1,(decide (sc < 4))=true]) (by kernel_rfl) ⟨hc10,(QJ hc9),(Qy hc6 (ZD Zl hc8)),(Qq hc5),(Qp Qi hc4).1,(Qp Qi hc4).2,hc3,(decide_eq_true hc1),trivial⟩⟩
     ·replace h:=Qk h hc7
      obtain ⟨hc8,h⟩:=Qf h
      replace h:=Option.some.inj h
      subst h
      exact ⟨100,67,[.br true,.ix 1,.el (.agg [I tc4.1,I tc4.2]),.ret (.agg [I tc5.1,I tc5.2]),.el (B false),.no],[],[8,11,14,15,39,40,41,59,60],[13,43,60],Qg (ob:=[Qb (sc+1),QU false (.agg #[.int .i64 tc5.1,.int .i64 tc5.2]) (B false) ((Qw (.agg #[.int .i64 ta2.1,.int .i64 ta2.2]) (B false) (sa.2.1:List D)):List D)=some (B false),Computes cx 32 [.agg [I tc4.1,I tc4.2],.agg [I 1,I 0]] (.agg [I tc5.1,I tc5.2]),(0:Int)≤sb,nth ([.agg [I ta2.1,I ta2.2]]:List D) (Int.toNat sb)=some (.agg [I tc4.1,I tc4.2]),sc=1,(decide (sc < 4))=true]) (by kernel_rfl) ⟨hc8,(Q0 hc6 (mno hc7)),(Qq hc5),(Qp Qi hc4).1,(Qp Qi hc4).2,hc3,(decide_eq_true hc1),trivial⟩⟩
    ·replace h:=Qk h hc3
     by_cases hc4:sc=2
     ·replace h:=Qj h hc4
      obtain ⟨tc5,hc5,h⟩:=Qe h
      obtain ⟨tc6,hc6,h⟩:=Qe h
      obtain ⟨hc7,h⟩:=Qf h
      by_cases hc8:(QD (.agg #[.int .i64 tc6.1,.int .i64 tc6.2]) ((Qw (.agg #[.int .i64 ta2.1,.int .i64 ta2.2]) (B false) (sa.2.1:List D)):List D)).isSome=true
      ·replace h:=Qj h hc8
       obtain ⟨tc9,hc9,h⟩:=Qe h
       by_cases hc10:tc9=true
       ·replace h:=Qj h hc10
        obtain ⟨hc11,h⟩:=Qf h
        replace h:=Option.some.inj h
        subst h
        exact ⟨100,67,[.br true,.ix 2,.el (.agg [I tc5.1,I tc5.2]),.ret (.agg [I tc6.1,I tc6.2]),.el (B tc9),.br true,.br true,.no,.no],[],[8,11,14,15,39,40,41,59,60],[13,43,60],Qg (ob:=[Qb (sc+1),mok (.agg #[.int .i64 tc6.1,.int .i64 tc6.2]) ((Qw (.agg #[.int .i64 ta2.1,.int .i64 ta2.2]) (B false) (sa.2.1:List D)):List D)=true,tc9=true,QU false (.agg #[.int .i64 tc6.1,.int .i64 tc6.2]) (B false) ((Qw (.agg #[.int .i64 ta2.1,.int .i64 ta2.2]) (B false) (sa.2.1:List D)):List D)=some (B tc9),Computes cx 32 [.agg [I tc5.1,I tc5.2],.agg [I 0,I (-1)]] (.agg [I tc6.1,I tc6.2]),(0:Int)≤sb,nth ([.agg [I ta2.1,I ta2.2]]:List D) (Int.toNat sb)=some (.agg [I tc5.1,I tc5.2]),sc=2,(decide (sc < 4))=true]) (by kernel_rfl) ⟨hc11,hc7,hc10,(Qy hc7 (ZD Zl hc9)),(Qq hc6),(Qp Qi hc5).1,(Qp Qi hc5).2,hc4,(decide_eq_true hc1),trivial⟩⟩
       ·replace h:=Qk h hc10
        obtain ⟨hc11,h⟩:=Qf h
        replace h:=Option.some.inj h
        subst h
        exact ⟨100,67,[.br true,.ix 2,.el (.agg [I tc5.1,I tc5.2]),.ret (.agg [I tc6.1,I tc6.2]),.el (B tc9),.br false],[],[8,11,14,15,39,40,41,59,60],[13,43,60],Qg (ob:=[Qb (sc+1),tc9=false,QU false (.agg #[.int .i64 tc6.1,.int .i64 tc6.2]) (B false) ((Qw (.agg #[.int .i64 ta2.1,.int .i64 ta2.2]) (B false) (sa.2.1:List D)):List D)=some (B tc9),Computes cx 32 [.agg [I tc5.1,I tc5.2],.agg [I 0,I (-1)]] (.agg [I tc6.1,I tc6.2]),(0:Int)≤sb,nth ([.agg [I ta2.1,I ta2.2]]:List D) (Int.toNat sb)=some (.agg [I tc5.1,I tc5.2]),sc=2,(decide (sc < 4))=true]) (by kernel_rfl) ⟨hc11,(QJ hc10),(Qy hc7 (ZD Zl hc9)),(Qq hc6),(Qp Qi hc5).1,(Qp Qi hc5).2,hc4,(decide_eq_true hc1),trivial⟩⟩
      ·replace h:=Qk h hc8
       obtain ⟨hc9,h⟩:=Qf h
       replace h:=Option.some.inj h
       subst h
       exact ⟨100,67,[.br true,.ix 2,.el (.agg [I tc5.1,I tc5.2]),.ret (.agg [I tc6.1,I tc6.2]),.el (B false),.no],[],[8,11,14,15,39,40,41,59,60],[13,43,60],Qg (ob:=[Qb (sc+1),QU false (.agg #[.int .i64 tc6.1,.int .i64 tc6.2]) (B false) ((Qw (.agg #[.int .i64 ta2.1,.int .i64 ta2.2]) (B false) (sa.2.1:List D)):List D)=some (B false),Computes cx 32 [.agg [I tc5.1,I tc5.2],.agg [I 0,I (-1)]] (.agg [I tc6.1,I tc6.2]),(0:Int)≤sb,nth ([.agg [I ta2.1,I ta2.2]]:List D) (Int.toNat sb)=some (.agg [I tc5.1,I tc5.2]),sc=2,(decide (sc < 4))=true]) (by kernel_rfl) ⟨hc9,(Q0 hc7 (mno hc8)),(Qq hc6),(Qp Qi hc5).1,(Qp Qi hc5).2,hc4,(decide_eq_true hc1),trivial⟩⟩
     ·replace h:=Qk h hc4
      obtain ⟨hc5,h⟩:=Qf h
      obtain ⟨tc6,hc6,h⟩:=Qe h
      obtain ⟨tc7,hc7,h⟩:=Qe h
      obtain ⟨hc8,h⟩:=Qf h
      by_cases hc9:(QD (.agg #[.int .i64 tc7.1,.int .i64 tc7.2]) ((Qw (.agg #[.int .i64 ta2.1,.int .i64 ta2.2]) (B false) (sa.2.1:List D)):List D)).isSome=true
      ·replace h:=Qj h hc9
       obtain ⟨tc10,hc10,h⟩:=Qe h
       by_cases hc11:tc10=true
       ·replace h:=Qj h hc11
        obtain ⟨hc12,h⟩:=Qf h
        replace h:=Option.some.inj h
        subst h
        exact ⟨100,67,[.br true,.ix 3,.el (.agg [I tc6.1,I tc6.2]),.ret (.agg [I tc7.1,I tc7.2]),.el (B tc10),.br true,.br true,.no,.no],[],[8,11,14,15,39,40,41,59,60],[13,43,60],Qg (ob:=[Qb (sc+1),mok (.agg #[.int .i64 tc7.1,.int .i64 tc7.2]) ((Qw (.agg #[.int .i64 ta2.1,.int .i64 ta2.2]) (B false) (sa.2.1:List D)):List D)=true,tc10=true,QU false (.agg #[.int .i64 tc7.1,.int .i64 tc7.2]) (B false) ((Qw (.agg #[.int .i64 ta2.1,.int .i64 ta2.2]) (B false) (sa.2.1:List D)):List D)=some (B tc10),Computes cx 32 [.agg [I tc6.1,I tc6.2],.agg [I 0,I 1]] (.agg [I tc7.1,I tc7.2]),(0:Int)≤sb,nth ([.agg [I ta2.1,I ta2.2]]:List D) (Int.toNat sb)=some (.agg [I tc6.1,I tc6.2]),sc=3,(decide (sc < 4))=true]) (by kernel_rfl) ⟨hc12,hc8,hc11,(Qy hc8 (ZD Zl hc10)),(Qq hc7),(Qp Qi hc6).1,(Qp Qi hc6).2,hc5,(decide_eq_true hc1),trivial⟩⟩
       ·replace h:=Qk h hc11
        obtain ⟨hc12,h⟩:=Qf h
        replace h:=Option.some.inj h
        subst h
        exact ⟨100,67,[.br true,.ix 3,.el (.agg [I tc6.1,I tc6.2]),.ret (.agg [I tc7.1,I tc7.2]),.el (B tc10),.br false],[],[8,11,14,15,39,40,41,59,60],[13,43,60],Qg (ob:=[Qb (sc+1),tc10=false,QU false (.agg #[.int .i64 tc7.1,.int .i64 tc7.2]) (B false) ((Qw (.agg #[.int .i64 ta2.1,.int .i64 ta2.2]) (B false) (sa.2.1:List D)):List D)=some (B tc10),Computes cx 32 [.agg [I tc6.1,I tc6.2],.agg [I 0,I 1]] (.agg [I tc7.1,I tc7.2]),(0:Int)≤sb,nth ([.agg [I ta2.1,I ta2.2]]:List D) (Int.toNat sb)=some (.agg [I tc6.1,I tc6.2]),sc=3,(decide (sc < 4))=true]) (by kernel_rfl) ⟨hc12,(QJ hc11),(Qy hc8 (ZD Zl hc10)),(Qq hc7),(Qp Qi hc6).1,(Qp Qi hc6).2,hc5,(decide_eq_true hc1),trivial⟩⟩
      ·replace h:=Qk h hc9
       obtain ⟨hc10,h⟩:=Qf h
       replace h:=Option.some.inj h
       subst h
       exact ⟨100,67,[.br true,.ix 3,.el (.agg [I tc6.1,I tc6.2]),.ret (.agg [I tc7.1,I tc7.2]),.el (B false),.no],[],[8,11,14,15,39,40,41,59,60],[13,43,60],Qg (ob:=[Qb (sc+1),QU false (.agg #[.int .i64 tc7.1,.int .i64 tc7.2]) (B false) ((Qw (.agg #[.int .i64 ta2.1,.int .i64 ta2.2]) (B false) (sa.2.1:List D)):List D)=some (B false),Computes cx 32 [.agg [I tc6.1,I tc6.2],.agg [I 0,I 1]] (.agg [I tc7.1,I tc7.2]),(0:Int)≤sb,nth ([.agg [I ta2.1,I ta2.2]]:List D) (Int.toNat sb)=some (.agg [I tc6.1,I tc6.2]),sc=3,(decide (sc < 4))=true]) (by kernel_rfl) ⟨hc10,(Q0 hc8 (mno hc9)),(Qq hc7),(Qp Qi hc6).1,(Qp Qi hc6).2,hc5,(decide_eq_true hc1),trivial⟩⟩
  ·replace h:=Qk h hc1
   replace h:=Option.some.inj h
   subst h
   exact ⟨⟨100,67,[.br false],[],[8,11,14,15,39,40,41],[13,43,60],Qg (ob:=[(decide (sc < 4))=false]) (by kernel_rfl) ⟨(decide_eq_false hc1),trivial⟩⟩,nofun⟩
 ·by_cases hc1:sc.1 < 4
  ·replace h:=Qj h hc1
   by_cases hc2:sc.1=0
   ·replace h:=Qj h hc2
    obtain ⟨hc3,h⟩:=Qf h
    obtain ⟨tc4,hc4,h⟩:=Qe h
    obtain ⟨tc5,hc5,h⟩:=Qe h
    obtain ⟨hc6,h⟩:=Qf h
    by_cases hc7:(QD (.agg #[.int .i64 tc5.1,.int .i64 tc5.2]) (sc.2.1:List D)).isSome=true
    ·replace h:=Qj h hc7
     obtain ⟨tc8,hc8,h⟩:=Qe h
     by_cases hc9:tc8=true
     ·replace h:=Qj h hc9
      obtain ⟨hc10,h⟩:=Qf h
      obtain ⟨hc11,h⟩:=Qf h
      replace h:=Option.some.inj h
      subst h
      exact ⟨100,67,[.br true,.ix 0,.br true,.el (.agg [I tc4.1,I tc4.2]),.ret (.agg [I tc5.1,I tc5.2]),.el (B tc8),.br true,.br true,.br true],[],[8,11,14,15,39,40,41,59,60],[13,43,60],Qg (ob:=[Qb (sc.1+1),room cx 30 ((sc.2.2).length+1),mok (.agg #[.int .i64 tc5.1,.int .i64 tc5.2]) (sc.2.1:List D)=true,tc8=true,QU false (.agg #[.int .i64 tc5.1,.int .i64 tc5.2]) (B false) (sc.2.1:List D)=some (B tc8),Computes cx 32 [.agg [I tc4.1,I tc4.2],.agg [I (-1),I 0]] (.agg [I tc5.1,I tc5.2]),nth (sc.2.2) (Int.toNat sb)=some (.agg [I tc4.1,I tc4.2]),0≤sb∧sb < ((sc.2.2).length:Int),sc.1=0,(decide (sc.1 < 4))=true]) (by kernel_rfl) ⟨hc11,(QT (b:=16) (by kernel_rfl) (by decide) hc10),hc6,hc9,(Qy hc6 (ZD Zl hc8)),(Qq hc5),ZQ Qi hc4,hc3,hc2,(decide_eq_true hc1),trivial⟩⟩
     ·replace h:=Qk h hc9
      obtain ⟨hc10,h⟩:=Qf h
      replace h:=Option.some.inj h
      subst h
      exact ⟨100,67,[.br true,.ix 0,.br true,.el (.agg [I tc4.1,I tc4.2]),.ret (.agg [I tc5.1,I tc5.2]),.el (B tc8),.br false],[],[8,11,14,15,39,40,41,59,60],[13,43,60],Qg (ob:=[Qb (sc.1+1),tc8=false,QU false (.agg #[.int .i64 tc5.1,.int .i64 tc5.2]) (B false) (sc.2.1:List D)=some (B tc8),Computes cx 32 [.agg [I tc4.1,I tc4.2],.agg [I (-1),I 0]] (.agg [I tc5.1,I tc5.2]),nth (sc.2.2) (Int.toNat sb)=some (.agg [I tc4.1,I tc4.2]),0≤sb∧sb < ((sc.2.2).length:Int),sc.1=0,(decide (sc.1 < 4))=true]) (by kernel_rfl) ⟨hc10,(QJ hc9),(Qy hc6 (ZD Zl hc8)),(Qq hc5),ZQ Qi hc4,hc3,hc2,(decide_eq_true hc1),trivial⟩⟩
    ·replace h:=Qk h hc7
     obtain ⟨hc8,h⟩:=Qf h
     replace h:=Option.some.inj h
     subst h
     exact ⟨100,67,[.br true,.ix 0,.br true,.el (.agg [I tc4.1,I tc4.2]),.ret (.agg [I tc5.1,I tc5.2]),.el (B false),.no],[],[8,11,14,15,39,40,41,59,60],[13,43,60],Qg (ob:=[Qb (sc.1+1),QU false (.agg #[.int .i64 tc5.1,.int .i64 tc5.2]) (B false) (sc.2.1:List D)=some (B false),Computes cx 32 [.agg [I tc4.1,I tc4.2],.agg [I (-1),I 0]] (.agg [I tc5.1,I tc5.2]),nth (sc.2.2) (Int.toNat sb)=some (.agg [I tc4.1,I tc4.2]),0≤sb∧sb < ((sc.2.2).length:Int),sc.1=0,(decide (sc.1 < 4))=true]) (by kernel_rfl) ⟨hc8,(Q0 hc6 (mno hc7)),(Qq hc5),ZQ Qi hc4,hc3,hc2,(decide_eq_true hc1),trivial⟩⟩
   ·replace h:=Qk h hc2
    by_cases hc3:sc.1=1
    ·replace h:=Qj h hc3
     obtain ⟨hc4,h⟩:=Qf h
     obtain ⟨tc5,hc5,h⟩:=Qe h
     obtain ⟨tc6,hc6,h⟩:=Qe h
     obtain ⟨hc7,h⟩:=Qf h
     by_cases hc8:(QD (.agg #[.int .i64 tc6.1,.int .i64 tc6.2]) (sc.2.1:List D)).isSome=true
     ·replace h:=Qj h hc8
      obtain ⟨tc9,hc9,h⟩:=Qe h
      by_cases hc10:tc9=true
      ·replace h:=Qj h hc10
       obtain ⟨hc11,h⟩:=Qf h
       obtain ⟨hc12,h⟩:=Qf h
       replace h:=Option.some.inj h
       subst h
       exact ⟨100,67,[.br true,.ix 1,.br true,.el (.agg [I tc5.1,I tc5.2]),.ret (.agg [I tc6.1,I tc6.2]),.el (B tc9),.br true,.br true,.br true],[],[8,11,14,15,39,40,41,59,60],[13,43,60],Qg (ob:=[Qb (sc.1+1),room cx 30 ((sc.2.2).length+1),mok (.agg #[.int .i64 tc6.1,.int .i64 tc6.2]) (sc.2.1:List D)=true,tc9=true,QU false (.agg #[.int .i64 tc6.1,.int .i64 tc6.2]) (B false) (sc.2.1:List D)=some (B tc9),Computes cx 32 [.agg [I tc5.1,I tc5.2],.agg [I 1,I 0]] (.agg [I tc6.1,I tc6.2]),nth (sc.2.2) (Int.toNat sb)=some (.agg [I tc5.1,I tc5.2]),0≤sb∧sb < ((sc.2.2).length:Int),sc.1=1,(decide (sc.1 < 4))=true]) (by kernel_rfl) ⟨hc12,(QT (b:=16) (by kernel_rfl) (by decide) hc11),hc7,hc10,(Qy hc7 (ZD Zl hc9)),(Qq hc6),ZQ Qi hc5,hc4,hc3,(decide_eq_true hc1),trivial⟩⟩
      ·replace h:=Qk h hc10
       obtain ⟨hc11,h⟩:=Qf h
       replace h:=Option.some.inj h
       subst h
       exact ⟨100,67,[.br true,.ix 1,.br true,.el (.agg [I tc5.1,I tc5.2]),.ret (.agg [I tc6.1,I tc6.2]),.el (B tc9),.br false],[],[8,11,14,15,39,40,41,59,60],[13,43,60],Qg (ob:=[Qb (sc.1+1),tc9=false,QU false (.agg #[.int .i64 tc6.1,.int .i64 tc6.2]) (B false) (sc.2.1:List D)=some (B tc9),Computes cx 32 [.agg [I tc5.1,I tc5.2],.agg [I 1,I 0]] (.agg [I tc6.1,I tc6.2]),nth (sc.2.2) (Int.toNat sb)=some (.agg [I tc5.1,I tc5.2]),0≤sb∧sb < ((sc.2.2).length:Int),sc.1=1,(decide (sc.1 < 4))=true]) (by kernel_rfl) ⟨hc11,(QJ hc10),(Qy hc7 (ZD Zl hc9)),(Qq hc6),ZQ Qi hc5,hc4,hc3,(decide_eq_true hc1),trivial⟩⟩
     ·replace h:=Qk h hc8
      obtain ⟨hc9,h⟩:=Qf h
      replace h:=Option.some.inj h
      subst h
      exact ⟨100,67,[.br true,.ix 1,.br true,.el (.agg [I tc5.1,I tc5.2]),.ret (.agg [I tc6.1,I tc6.2]),.el (B false),.no],[],[8,11,14,15,39,40,41,59,60],[13,43,60],Qg (ob:=[Qb (sc.1+1),QU false (.agg #[.int .i64 tc6.1,.int .i64 tc6.2]) (B false) (sc.2.1:List D)=some (B false),Computes cx 32 [.agg [I tc5.1,I tc5.2],.agg [I 1,I 0]] (.agg [I tc6.1,I tc6.2]),nth (sc.2.2) (Int.toNat sb)=some (.agg [I tc5.1,I tc5.2]),0≤sb∧sb < ((sc.2.2).length:Int),sc.1=1,(decide (sc.1 < 4))=true]) (by kernel_rfl) ⟨hc9,(Q0 hc7 (mno hc8)),(Qq hc6),ZQ Qi hc5,hc4,hc3,(decide_eq_true hc1),trivial⟩⟩
    ·replace h:=Qk h hc3
     by_cases hc4:sc.1=2
     ·replace h:=Qj h hc4
      obtain ⟨hc5,h⟩:=Qf h
      obtain ⟨tc6,hc6,h⟩:=Qe h
      obtain ⟨tc7,hc7,h⟩:=Qe h
      obtain ⟨hc8,h⟩:=Qf h
      by_cases hc9:(QD (.agg #[.int .i64 tc7.1,.int .i64 tc7.2]) (sc.2.1:List D)).isSome=true
      ·replace h:=Qj h hc9
       obtain ⟨tc10,hc10,h⟩:=Qe h
       by_cases hc11:tc10=true
       ·replace h:=Qj h hc11
        obtain ⟨hc12,h⟩:=Qf h
        obtain ⟨hc13,h⟩:=Qf h
        replace h:=Option.some.inj h
        subst h
        exact ⟨100,67,[.br true,.ix 2,.br true,.el (.agg [I tc6.1,I tc6.2]),.ret (.agg [I tc7.1,I tc7.2]),.el (B tc10),.br true,.br true,.br true],[],[8,11,14,15,39,40,41,59,60],[13,43,60],Qg (ob:=[Qb (sc.1+1),room cx 30 ((sc.2.2).length+1),mok (.agg #[.int .i64 tc7.1,.int .i64 tc7.2]) (sc.2.1:List D)=true,tc10=true,QU false (.agg #[.int .i64 tc7.1,.int .i64 tc7.2]) (B false) (sc.2.1:List D)=some (B tc10),Computes cx 32 [.agg [I tc6.1,I tc6.2],.agg [I 0,I (-1)]] (.agg [I tc7.1,I tc7.2]),nth (sc.2.2) (Int.toNat sb)=some (.agg [I tc6.1,I tc6.2]),0≤sb∧sb < ((sc.2.2).length:Int),sc.1=2,(decide (sc.1 < 4))=true]) (by kernel_rfl) ⟨hc13,(QT (b:=16) (by kernel_rfl) (by decide) hc12),hc8,hc11,(Qy hc8 (ZD Zl hc10)),(Qq hc7),ZQ Qi hc6,hc5,hc4,(decide_eq_true hc1),trivial⟩⟩
       ·replace h:=Qk h hc11
        obtain ⟨hc12,h⟩:=Qf h
        replace h:=Option.some.inj h
        subst h
        exact ⟨100,67,[.br true,.ix 2,.br true,.el (.agg [I tc6.1,I tc6.2]),.ret (.agg [I tc7.1,I tc7.2]),.el (B tc10),.br false],[],[8,11,14,15,39,40,41,59,60],[13,43,60],Qg (ob:=[Qb (sc.1+1),tc10=false,QU false (.agg #[.int .i64 tc7.1,.int .i64 tc7.2]) (B false) (sc.2.1:List D)=some (B tc10),Computes cx 32 [.agg [I tc6.1,I tc6.2],.agg [I 0,I (-1)]] (.agg [I tc7.1,I tc7.2]),nth (sc.2.2) (Int.toNat sb)=some (.agg [I tc6.1,I tc6.2]),0≤sb∧sb < ((sc.2.2).length:Int),sc.1=2,(decide (sc.1 < 4))=true]) (by kernel_rfl) ⟨hc12,(QJ hc11),(Qy hc8 (ZD Zl hc10)),(Qq hc7),ZQ Qi hc6,hc5,hc4,(decide_eq_true hc1),trivial⟩⟩
      ·replace h:=Qk h hc9
       obtain ⟨hc10,h⟩:=Qf h
       replace h:=Option.some.inj h
       subst h
       exact ⟨100,67,[.br true,.ix 2,.br true,.el (.agg [I tc6.1,I tc6.2]),.ret (.agg [I tc7.1,I tc7.2]),.el (B false),.no],[],[8,11,14,15,39,40,41,59,60],[13,43,60],Qg (ob:=[Qb (sc.1+1),QU false (.agg #[.int .i64 tc7.1,.int .i64 tc7.2]) (B false) (sc.2.1:List D)=some (B false),Computes cx 32 [.agg [I tc6.1,I tc6.2],.agg [I 0,I (-1)]] (.agg [I tc7.1,I tc7.2]),nth (sc.2.2) (Int.toNat sb)=some (.agg [I tc6.1,I tc6.2]),0≤sb∧sb < ((sc.2.2).length:Int),sc.1=2,(decide (sc.1 < 4))=true]) (by kernel_rfl) ⟨hc10,(Q0 hc8 (mno hc9)),(Qq hc7),ZQ Qi hc6,hc5,hc4,(decide_eq_true hc1),trivial⟩⟩
     ·replace h:=Qk h hc4
      obtain ⟨hc5,h⟩:=Qf h
      obtain ⟨hc6,h⟩:=Qf h
      obtain ⟨tc7,hc7,h⟩:=Qe h
      obtain ⟨tc8,hc8,h⟩:=Qe h
      obtain ⟨hc9,h⟩:=Qf h
      by_cases hc10:(QD (.agg #[.int .i64 tc8.1,.int .i64 tc8.2]) (sc.2.1:List D)).isSome=true
      ·replace h:=Qj h hc10
       obtain ⟨tc11,hc11,h⟩:=Qe h
       by_cases hc12:tc11=true
       ·replace h:=Qj h hc12
        obtain ⟨hc13,h⟩:=Qf h
        obtain ⟨hc14,h⟩:=Qf h
        replace h:=Option.some.inj h
        subst h
        exact ⟨100,67,[.br true,.ix 3,.br true,.el (.agg [I tc7.1,I tc7.2]),.ret (.agg [I tc8.1,I tc8.2]),.el (B tc11),.br true,.br true,.br true],[],[8,11,14,15,39,40,41,59,60],[13,43,60],Qg (ob:=[Qb (sc.1+1),room cx 30 ((sc.2.2).length+1),mok (.agg #[.int .i64 tc8.1,.int .i64 tc8.2]) (sc.2.1:List D)=true,tc11=true,QU false (.agg #[.int .i64 tc8.1,.int .i64 tc8.2]) (B false) (sc.2.1:List D)=some (B tc11),Computes cx 32 [.agg [I tc7.1,I tc7.2],.agg [I 0,I 1]] (.agg [I tc8.1,I tc8.2]),nth (sc.2.2) (Int.toNat sb)=some (.agg [I tc7.1,I tc7.2]),0≤sb∧sb < ((sc.2.2).length:Int),sc.1=3,(decide (sc.1 < 4))=true]) (by kernel_rfl) ⟨hc14,(QT (b:=16) (by kernel_rfl) (by decide) hc13),hc9,hc12,(Qy hc9 (ZD Zl hc11)),(Qq hc8),ZQ Qi hc7,hc6,hc5,(decide_eq_true hc1),trivial⟩⟩
       ·replace h:=Qk h hc12
        obtain ⟨hc13,h⟩:=Qf h
        replace h:=Option.some.inj h
        subst h
        exact ⟨100,67,[.br true,.ix 3,.br true,.el (.agg [I tc7.1,I tc7.2]),.ret (.agg [I tc8.1,I tc8.2]),.el (B tc11),.br false],[],[8,11,14,15,39,40,41,59,60],[13,43,60],Qg (ob:=[Qb (sc.1+1),tc11=false,QU false (.agg #[.int .i64 tc8.1,.int .i64 tc8.2]) (B false) (sc.2.1:List D)=some (B tc11),Computes cx 32 [.agg [I tc7.1,I tc7.2],.agg [I 0,I 1]] (.agg [I tc8.1,I tc8.2]),nth (sc.2.2) (Int.toNat sb)=some (.agg [I tc7.1,I tc7.2]),0≤sb∧sb < ((sc.2.2).length:Int),sc.1=3,(decide (sc.1 < 4))=true]) (by kernel_rfl) ⟨hc13,(QJ hc12),(Qy hc9 (ZD Zl hc11)),(Qq hc8),ZQ Qi hc7,hc6,hc5,(decide_eq_true hc1),trivial⟩⟩
      ·replace h:=Qk h hc10
       obtain ⟨hc11,h⟩:=Qf h
       replace h:=Option.some.inj h
       subst h
       exact ⟨100,67,[.br true,.ix 3,.br true,.el (.agg [I tc7.1,I tc7.2]),.ret (.agg [I tc8.1,I tc8.2]),.el (B false),.no],[],[8,11,14,15,39,40,41,59,60],[13,43,60],Qg (ob:=[Qb (sc.1+1),QU false (.agg #[.int .i64 tc8.1,.int .i64 tc8.2]) (B false) (sc.2.1:List D)=some (B false),Computes cx 32 [.agg [I tc7.1,I tc7.2],.agg [I 0,I 1]] (.agg [I tc8.1,I tc8.2]),nth (sc.2.2) (Int.toNat sb)=some (.agg [I tc7.1,I tc7.2]),0≤sb∧sb < ((sc.2.2).length:Int),sc.1=3,(decide (sc.1 < 4))=true]) (by kernel_rfl) ⟨hc11,(Q0 hc9 (mno hc10)),(Qq hc8),ZQ Qi hc7,hc6,hc5,(decide_eq_true hc1),trivial⟩⟩
  ·replace h:=Qk h hc1
   replace h:=Option.some.inj h
   subst h
   exact ⟨⟨100,67,[.br false],[],[8,11,14,15,39,40,41],[13,43,60],Qg (ob:=[(decide (sc.1 < 4))=false]) (by kernel_rfl) ⟨(decide_eq_false hc1),trivial⟩⟩,nofun⟩
end Go.Proofs.YtfiigcbhiopagaaGreatDoor
