/- Own texts. -/
import Derived.Test.YtfiigcbhiopagaaGreatShelf
import Derived.Sort.AssemblyPlain
import Derived.Lib.BitFns
import Derived.Test.YtfiigcbhiopagaaGreatSxTwentyFive
import Derived.WalkKit
import Derived.WalkSpells
import Derived.WalkLawsBesides
import Derived.Shelf.SlGeneric
import Derived.Shelf.SlLaysF0
import Derived.Shelf.SlSortCmp.WholeK
set_option linter.unusedVariables false
set_option linter.unusedSimpArgs false
set_option linter.unnecessarySimpa false
set_option maxRecDepth 20000
namespace Go.Proofs.YtfiigcbhiopagaaGreat
open Go.SX Go.Sort Go.Proofs
def Gn (t:Int×Int×Int×Int):Prop:=(-1000≤t.1∧t.1≤1000)∧(-1000≤t.2.1∧t.2.1≤1000)∧(0≤t.2.2.1∧t.2.2.1≤1000000000000)∧(1≤t.2.2.2∧t.2.2.2≤10000)
instance (t:Int×Int×Int×Int):Decidable (Gn t):=by unfold Gn;exact inferInstance
abbrev Tri:={ t:Int×Int×Int×Int // Gn t }
instance:Inhabited Tri:=⟨⟨(0,0,0,1),by decide⟩⟩
def KY (t:Tri):D:=.agg [I t.1.1,I t.1.2.1,I t.1.2.2.1,I t.1.2.2.2]
def Qb4:D→Option Tri
 | .agg [.v (.int .i64 a),.v (.int .i64 b),.v (.int .i64 c),.v (.int .i64 d)]=>if h:Gn (a,b,c,d) then some ⟨(a,b,c,d),h⟩ else none
 | _=>none
def XP:List D→Option (List Tri)
 | []=>some []
 | d::l=>match Qb4 d,XP l with
  | some p,some ps=>some (p::ps)
  | _,_=>none
def sgn (a b:Int):Int:=if a < b then -1 else if a > b then 1 else 0
def jO (a:Int):Int:=Go.SX.maxI a (-a)
def or2 (a b:Int):Int:=if a=0 then b else a
def Ed (x y:Tri):Int:=or2 (sgn (x.1.2.2.1 * y.1.2.2.2) (y.1.2.2.1 * x.1.2.2.2)) (or2 (sgn (jO x.1.1+jO x.1.2.1) (jO y.1.1+jO y.1.2.1)) (or2 (sgn x.1.2.1 y.1.2.1) (sgn x.1.1 y.1.1)))
def ltT (x y:Tri):Bool:=decide (Ed x y < 0)
def V9 (l:List Tri):List Tri:=(pdq ltT l.toArray 0 l.toArray.size (Go.Lib.bitLen l.toArray.size) true true).toList
def Wa (n:Nat) (l:List D):Option (List D):=if l.length≤1000 then (XP l).bind fun ps=>some ((V9 ps).map KY) else none
structure Cmp {α:Type} (f:α→α→Int):Prop where
 refl:∀ x,f x x=0
 anti:∀ x y,f y x=- f x y
 le:∀ x y z,f x y≤0→f y z≤0→f x z≤0
theorem Cmp.lex {α:Type} {f g:α→α→Int} (hf:Cmp f) (hg:Cmp g):Cmp fun x y=>or2 (f x y) (g x y) where
 refl x:=by show or2 (f x x) (g x x)=0;unfold or2;rw [if_pos (hf.refl x),hg.refl x]
 anti x y:=by
  show or2 (f y x) (g y x)=-or2 (f x y) (g x y)
  unfold or2
  have h1:=hf.anti x y
  have h2:=hg.anti x y
  by_cases h:f x y=0
  ·rw [if_pos h,if_pos (by omega),h2]
  ·rw [if_neg h,if_neg (by omega),h1]
 le x y z h1 h2:=by
  have k1:f x y≤0:=by
   by_cases h:f x y=0
   ·omega
   ·have:or2 (f x y) (g x y)≤0:=h1
    unfold or2 at this
    rw [if_neg h] at this;exact this
  have k2:f y z≤0:=by
   by_cases h:f y z=0
   ·omega
   ·have:or2 (f y z) (g y z)≤0:=h2
    unfold or2 at this
    rw [if_neg h] at this;exact this
  have k3:=hf.le x y z k1 k2
  show or2 (f x z) (g x z)≤0
  unfold or2
  by_cases h:f x z=0
  ·rw [if_pos h]
   have a1:=hf.anti x z
   have a2:=hf.anti x y
   have a3:=hf.anti y z
   have b1:=hf.le z x y (by omega) k1
   have b2:=hf.le y z x k2 (by omega)
   have e1:f x y=0:=by omega
   have e2:f y z=0:=by omega
   have g1:or2 (f x y) (g x y)≤0:=h1
   have g2:or2 (f y z) (g y z)≤0:=h2
   unfold or2 at g1 g2
   rw [if_pos e1] at g1
   rw [if_pos e2] at g2
   exact hg.le x y z g1 g2
  ·rw [if_neg h];exact k3
theorem qC {a b:Int}:sgn a b≤0↔a≤b:=by
 unfold sgn
 split
 ·constructor <;> intro <;> omega
 ·split
  ·constructor <;> intro <;> omega
  ·constructor <;> intro <;> omega
theorem Qai (a b:Int):sgn b a=- sgn a b:=by
 unfold sgn
 split <;> split <;> first | omega | (split <;> first | omega | rfl)
theorem Cmp.key {α:Type} (k:α→Int):Cmp fun x y=>sgn (k x) (k y) where
 refl x:=by show sgn (k x) (k x)=0;unfold sgn;rw [if_neg (by omega),if_neg (by omega)]
 anti x y:=Qai _ _
 le x y z h1 h2:=by
  have h1:=qC.1 h1
  have h2:=qC.1 h2
  exact qC.2 (by omega)
theorem QfS {a b c d e f:Int} (hb:0 < b) (hd:0 < d) (hf:0 < f) (h1:a * d≤c * b) (h2:c * f≤e * d):a * f≤e * b:=by
 have k1:a * d * f≤c * b * f:=Int.mul_le_mul_of_nonneg_right h1 (by omega)
 have k2:c * f * b≤e * d * b:=Int.mul_le_mul_of_nonneg_right h2 (by omega)
 have k3:a * f * d≤e * b * d:=by
  rw [Int.mul_right_comm a f d,Int.mul_right_comm e b d]
  rw [Int.mul_right_comm c f b] at k2
  omega
 exact Int.le_of_mul_le_mul_right k3 hd
theorem cmpT_ok:Cmp Ed:=by
 refine Cmp.lex (f:=fun x y:Tri=>sgn (x.1.2.2.1 * y.1.2.2.2) (y.1.2.2.1 * x.1.2.2.2)) ⟨fun x=>?_,fun x y=>Qai _ _,fun x y z h1 h2=>?_⟩
  (Cmp.lex (Cmp.key fun x:Tri=>jO x.1.1+jO x.1.2.1) (Cmp.lex (Cmp.key fun x:Tri=>x.1.2.1) (Cmp.key fun x:Tri=>x.1.1)))
 ·show sgn _ _=0
  unfold sgn;rw [if_neg (by omega),if_neg (by omega)]
 ·have h1:=qC.1 h1
  have h2:=qC.1 h2
  have hx:=x.2.2.2.2.1
  have hy:=y.2.2.2.2.1
  have hz:=z.2.2.2.2.1
  exact qC.2 (QfS (by omega) (by omega) (by omega) h1 h2)
theorem swoT:SWO ltT where
 irrefl x:=by
  unfold ltT;rw [cmpT_ok.refl];rfl
 trans x y z h1 h2:=by
  unfold ltT at *
  have h1:=of_decide_eq_true h1
  have h2:=of_decide_eq_true h2
  have k:=cmpT_ok.le x y z (by omega) (by omega)
  refine decide_eq_true ?_
  by_cases h:Ed x z=0
  ·exfalso
   have a1:=cmpT_ok.anti x z
   have b1:=cmpT_ok.le z x y (by omega) (by omega)
   have a2:=cmpT_ok.anti y z
   omega
  ·omega
 ntrans x y z h1 h2:=by
  unfold ltT at *
  have h1:=of_decide_eq_false h1
  have h2:=of_decide_eq_false h2
  have a1:=cmpT_ok.anti x y
  have a2:=cmpT_ok.anti y z
  have a3:=cmpT_ok.anti x z
  have k:=cmpT_ok.le z y x (by omega) (by omega)
  exact decide_eq_false (by omega)
theorem UX (l:List Tri):(V9 l).Perm l∧∀ i j:Nat,i < j→∀ x y:Tri,(V9 l)[i]?=some x→(V9 l)[j]?=some y→Ed x y≤0:=by
 unfold V9
 have hq:=pdq_sorts ltT swoT l.toArray 0 l.toArray.size (Go.Lib.bitLen l.toArray.size) true true (Nat.zero_le _) (Nat.le_refl _) (Or.inl rfl)
 generalize pdq ltT l.toArray 0 l.toArray.size (Go.Lib.bitLen l.toArray.size) true true=d at hq
 obtain ⟨⟨s1,s2,s3⟩,hs⟩:=hq
 refine ⟨?_,fun i j hij x y hx hy=>?_⟩
 ·have e1:d.extract 0 l.toArray.size=d:=by
   rw [← s1];exact Array.extract_size
  have e2:l.toArray.extract 0 l.toArray.size=l.toArray:=Array.extract_size
  rw [e1,e2] at s3
  exact s3
 ·rw [Array.getElem?_toList] at hx hy
  obtain ⟨hi,hx⟩:=Array.getElem?_eq_some_iff.1 hx
  obtain ⟨hj,hy⟩:=Array.getElem?_eq_some_iff.1 hy
  have h:=hs i j (Nat.zero_le _) hij (by rw [← s1];exact hj)
  rw [getElem!_pos _ j hj,getElem!_pos _ i hi,hx,hy] at h
  unfold ltT at h
  have h:=of_decide_eq_false h
  have a:=cmpT_ok.anti x y
  omega
theorem U7 (n:Nat) (a b:Int):T.F_cmp_Compare_g n a b=some (sgn a b):=by
 unfold T.F_cmp_Compare_g T.F_cmp_isNaN_g sgn
 have e:∀ x:Int,(x != x)=false:=fun x=>by simp
 rw [e,e,Option.bind_some,Option.bind_some,if_neg (by decide),if_neg (by decide)]
 split
 ·rfl
 ·split <;> rfl
theorem EB (n:Nat) {a:Int} (h : -1000≤a∧a≤1000):T.F_cloud_size n a=some (jO a):=by
 unfold T.F_cloud_size jO
 rw [VP (n:=0 - a) (by unfold Qb;omega),Int.zero_sub]
theorem QfE (x:Int):T.un_i (I x)=some x:=rfl
def oG (s:Nat) (x:Int):Nat⊕(Int⊕Unit):=if x=0 then .inl (s+1) else .inr (.inl x)
def nz:List Int→Int
 | []=>0
 | x::l=>if x=0 then nz l else x
theorem QdN:∀ (ms:List Int) (s:Nat),K4 oG (fun _=>(.inr ():Int⊕Unit)) ms s=(if nz ms=0 then .inr () else .inl (nz ms))
 | [],s=>rfl
 | x::l,s=>by
  unfold K4 oG nz
  by_cases h:x=0
  ·rw [if_pos h,if_pos h];exact QdN l (s+1)
  ·rw [if_neg h,if_neg h,if_neg h]
theorem Qfa {n:Nat} (hn:50≤n) (ms:List Int) (hm:ms.length≤40):T.F_cmp_Or_g n (ms.map I)=some (nz ms):=by
 unfold T.F_cmp_Or_g
 have h:=Vh (step:=T.F_cmp_Or_g_L1 n (ms.map I)) oG (fun _=>(.inr ():Int⊕Unit)) (fun i _=>(i:Int)) ms (fun i s=>True)
  (fun i s x hx _=>by
   have hi:=(List.getElem?_eq_some_iff.1 hx).1
   have e:T.F_cmp_Or_g_L1 n (ms.map I) (i:Int)=if x=0 then some (.inl ((i+1:Nat):Int)) else some (.inr (.inl x)):=by
    unfold T.F_cmp_Or_g_L1
    rw [if_pos (by rw [List.length_map];omega),WW QfE hx,Option.bind_some]
    by_cases h0:x=0
    ·rw [if_pos h0,if_pos h0,if_pos (by unfold Qb;omega)]
     rfl
    ·rw [if_neg h0,if_neg h0]
   unfold oG
   by_cases h0:x=0
   ·rw [if_pos h0] at e ⊢
    exact ⟨e,trivial⟩
   ·rw [if_neg h0] at e ⊢
    exact e)
  (fun s _=>by unfold T.F_cmp_Or_g_L1;rw [if_neg (by simp)]) (k:=n) (s:=0) trivial (by omega)
 rw [QdN] at h
 have h' : QF (T.F_cmp_Or_g_L1 n (ms.map I)) n 0=_:=h
 rw [h',Option.bind_some]
 by_cases h0:nz ms=0
 ·rw [if_pos h0,h0]
 ·rw [if_neg h0]
theorem nz2 (a b:Int):nz [a,b]=or2 a b:=by
 unfold nz nz nz or2
 split
 ·split
  ·rename_i h;exact h.symm
  ·rfl
 ·rfl
theorem nz3 (a b c:Int):nz [a,b,c]=or2 a (or2 b c):=by
 have h:=nz2 b c
 show (if a=0 then nz [b,c] else a)=_
 rw [h];rfl
theorem Xm {a:Int} (h : -1000≤a∧a≤1000):0≤jO a∧jO a≤1000:=by
 unfold jO maxI;split <;> omega
theorem yj {a b:Int} (ha:0≤a∧a≤1000000000000) (hb:1≤b∧b≤10000):Qb (a * b):=by
 have h1:0≤a * b:=Int.mul_nonneg ha.1 (by omega)
 have h2:a * b≤1000000000000 * 10000:=Int.mul_le_mul ha.2 hb.2 (by omega) (by omega)
 unfold Qb;omega
theorem QeZ {n:Nat} (hn:50≤n) (x y:Tri):T.F_cloud_tried_compare n x.1.1 x.1.2.1 x.1.2.2.1 x.1.2.2.2 y.1.1 y.1.2.1 y.1.2.2.1 y.1.2.2.2=some (Ed x y):=by
 obtain ⟨⟨x1,x2,x3,x4⟩,hx1,hx2,hx3,hx4⟩:=x
 obtain ⟨⟨y1,y2,y3,y4⟩,hy1,hy2,hy3,hy4⟩:=y
 dsimp only at *
 have a1:=Xm hx1
 have a2:=Xm hx2
 have b1:=Xm hy1
 have b2:=Xm hy2
 unfold T.F_cloud_tried_compare T.F_cloud_inOrder
 rw [if_pos (yj hx3 hy4),if_pos (yj hy3 hx4),U7,Option.bind_some,EB n hx1,Option.bind_some,EB n hx2,Option.bind_some,if_pos (by unfold Qb;omega),EB n hy1,Option.bind_some,EB n hy2,Option.bind_some,
  if_pos (by unfold Qb;omega),U7,Option.bind_some,U7,Option.bind_some,U7,Option.bind_some,show ∀ a b:Int,([I a,I b]:List D)=[a,b].map I from fun _ _=>rfl,Qfa hn _ (by simp),Option.bind_some,Option.bind_some,
  show ∀ a b c:Int,([I a,I b,I c]:List D)=[a,b,c].map I from fun _ _ _=>rfl,Qfa hn _ (by simp),Option.bind_some,nz2,nz3]
 rfl
set_option maxRecDepth 10000
open Go.Shelf
def Tryz.sortT_ren:Go.Shelf.Ren:=⟨fun | 6=>70 | 15=>88 | 14=>87 | 28=>107 | 29=>108 | 20=>99 | 21=>100 | 22=>101 | 23=>102 | 24=>103 | 25=>104 | 26=>105 | 27=>106 | 46=>113 | 47=>114 | 48=>115 | 49=>116 | 50=>117 | 57=>121 | n=>n,fun | 22=>88 | 24=>84 | 25=>126 | 3=>3 | 39=>140 | 0=>0 | 53=>159 | 55=>161 | 4=>4 | 46=>152 | 45=>151 | 50=>156 | 5=>5 | 9=>9 | 66=>163 | 70=>167 | 76=>173 | 77=>174 | n=>n,fun | n=>n⟩
theorem Tryz.sortT:Go.Proofs.SlLaysF0.n6 Tryz.prog Tryz.sortT_ren:={
 mixed:=by kernel_rfl
 f6:=⟨Tryz.f70.name,by decide,Tryz.func70.trans (congrArg some (by kernel_rfl))⟩
 f14:=⟨Tryz.f87.name,by decide,Tryz.func87.trans (congrArg some (by kernel_rfl))⟩
 f15:=Tryz.func88.trans (congrArg some (by kernel_rfl))
 f20:=⟨Tryz.f99.name,by decide,Tryz.func99.trans (congrArg some (by kernel_rfl))⟩
 f21:=⟨Tryz.f100.name,by decide,Tryz.func100.trans (congrArg some (by kernel_rfl))⟩
 f22:=⟨Tryz.f101.name,by decide,Tryz.func101.trans (congrArg some (by kernel_rfl))⟩
 f23:=⟨Tryz.f102.name,by decide,Tryz.func102.trans (congrArg some (by kernel_rfl))⟩
 f24:=⟨Tryz.f103.name,by decide,Tryz.func103.trans (congrArg some (by kernel_rfl))⟩
 f25:=⟨Tryz.f104.name,by decide,Tryz.func104.trans (congrArg some (by kernel_rfl))⟩
 f26:=⟨Tryz.f105.name,by decide,Tryz.func105.trans (congrArg some (by kernel_rfl))⟩
 f27:=⟨Tryz.f106.name,by decide,Tryz.func106.trans (congrArg some (by kernel_rfl))⟩
 f28:=Tryz.func107.trans (congrArg some (by kernel_rfl))
 f29:=Tryz.func108.trans (congrArg some (by kernel_rfl))
 f46:=⟨Tryz.f113.name,by decide,Tryz.func113.trans (congrArg some (by kernel_rfl))⟩
 f47:=Tryz.func114.trans (congrArg some (by kernel_rfl))
 f48:=Tryz.func115.trans (congrArg some (by kernel_rfl))
 f49:=⟨Tryz.f116.name,by decide,Tryz.func116.trans (congrArg some (by kernel_rfl))⟩
 f50:=⟨Tryz.f117.name,by decide,Tryz.func117.trans (congrArg some (by kernel_rfl))⟩
 f57:=⟨Tryz.f121.name,by decide,Tryz.func121.trans (congrArg some (by kernel_rfl))⟩
 t0:=Tryz.underlying0
 a0:=Tryz.isAgg0
 z0:=Tryz.sizeOf0
 v0:=Tryz.zeroValue0
 t3:=Tryz.underlying3
 a3:=Tryz.isAgg3
 z3:=Tryz.sizeOf3
 v3:=Tryz.zeroValue3
 t4:=Tryz.underlying4
 a4:=Tryz.isAgg4
 z4:=Tryz.sizeOf4
 v4:=Tryz.zeroValue4
 t5:=Tryz.underlying5
 a5:=Tryz.isAgg5
 z5:=Tryz.sizeOf5
 v5:=Tryz.zeroValue5
 t9:=Tryz.underlying9
 a9:=Tryz.isAgg9
 z9:=Tryz.sizeOf9
 v9:=Tryz.zeroValue9
 t22:=Tryz.underlying88
 a22:=Tryz.isAgg88
 z22:=Tryz.sizeOf88
 v22:=Tryz.zeroValue88
 t25:=Tryz.underlying126
 a25:=Tryz.isAgg126
 z25:=Tryz.sizeOf126
 v25:=Tryz.zeroValue126
 t39:=Tryz.underlying140
 a39:=Tryz.isAgg140
 z39:=Tryz.sizeOf140
 v39:=Tryz.zeroValue140
 t45:=Tryz.underlying151
 a45:=Tryz.isAgg151
 z45:=Tryz.sizeOf151
 v45:=Tryz.zeroValue151
 t46:=Tryz.underlying152
 a46:=Tryz.isAgg152
 z46:=Tryz.sizeOf152
 v46:=Tryz.zeroValue152
 t50:=Tryz.underlying156
 a50:=Tryz.isAgg156
 z50:=Tryz.sizeOf156
 v50:=Tryz.zeroValue156
 t53:=Tryz.underlying159
 a53:=Tryz.isAgg159
 z53:=Tryz.sizeOf159
 v53:=Tryz.zeroValue159
 t55:=Tryz.underlying161
 a55:=Tryz.isAgg161
 z55:=Tryz.sizeOf161
 v55:=Tryz.zeroValue161
 t66:=Tryz.underlying163
 a66:=Tryz.isAgg163
 z66:=Tryz.sizeOf163
 v66:=Tryz.zeroValue163
 t70:=Tryz.underlying167
 a70:=Tryz.isAgg167
 z70:=Tryz.sizeOf167
 v70:=Tryz.zeroValue167
 t76:=Tryz.underlying173
 a76:=Tryz.isAgg173
 z76:=Tryz.sizeOf173
 v76:=Tryz.zeroValue173
 t77:=Tryz.underlying174
 a77:=Tryz.isAgg174
 z77:=Tryz.sizeOf174
 v77:=Tryz.zeroValue174 }
set_option maxRecDepth 20000
open Go.RowKit
def Jk (x:Tri):List Value:=[.int .i64 x.1.1,.int .i64 x.1.2.1,.int .i64 x.1.2.2.1,.int .i64 x.1.2.2.2]
theorem dr_i {w:World} {F:Nat→Prop} {x:Int} {y:Value} (h:DR w F (I x) y):y=.int .i64 x:=by cases h;rfl
theorem Qfd (w:World) (F:Nat→Prop) (p:Tri):DR w F (KY p) (.agg (Jk p).toArray):=by
 refine .agg [I p.1.1,I p.1.2.1,I p.1.2.2.1,I p.1.2.2.2] (Jk p) rfl fun i c y hi hy=>?_
 match i,hi,hy with
 | 0,hi,hy=>cases hi;cases hy;exact .v _
 | 1,hi,hy=>cases hi;cases hy;exact .v _
 | 2,hi,hy=>cases hi;cases hy;exact .v _
 | 3,hi,hy=>cases hi;cases hy;exact .v _
theorem kw (x y:Tri) (W:World):Calls cx.P 71 #[.agg (Jk x).toArray,.agg (Jk y).toArray] W fun e w'=>e=.returned (.int .i64 (Ed x y))∧∃ q os',w'=grow (W.drewN q) os':=by
 have hc:=T.c_cloud_tried_compare (QeZ (n:=100) (by omega) x y) W (fun _=>False) [.agg (Jk x).toArray,.agg (Jk y).toArray] (fun _ h=>h.elim) (fun g x h=>by cases h) rfl fun i c v hi hv=>by
  match i,hi,hv with
  | 0,hi,hv=>cases hi;cases hv;exact Qfd _ _ x
  | 1,hi,hv=>cases hi;cases hv;exact Qfd _ _ y
 refine Calls.mono hc ?_
 rintro e w' ⟨v,rfl,hd,hx⟩
 refine ⟨by rw [dr_i hd],w'.drawn - W.drawn,w'.heap.extract W.heap.size w'.heap.size,?_⟩
 have h1:=(@Ext.drawn T.drawT _ _ _ hx) rfl
 have h2:=(@Ext.os T.drawT _ _ _ hx)
 have h3:=(@Ext.tape T.drawT _ _ _ hx)
 have h4:=(@Ext.output T.drawT _ _ _ hx)
 have h5:w'.heap=W.heap++w'.heap.extract W.heap.size w'.heap.size:=by
  apply Array.ext_getElem?
  intro k
  have hsz:=(@Ext.size T.drawT _ _ _ hx)
  rw [Array.getElem?_append]
  by_cases hk:k < W.heap.size
  ·rw [if_pos hk]
   exact @Ext.same T.drawT _ _ _ hx k hk (fun h=>h)
  ·rw [if_neg hk,Array.getElem?_extract]
   by_cases h6:k < w'.heap.size
   ·rw [if_pos (by omega),show W.heap.size+(k - W.heap.size)=k by omega]
   ·rw [if_neg (by omega),Array.getElem?_eq_none (by omega)]
 show w'={ heap:=W.heap++w'.heap.extract W.heap.size w'.heap.size,tape:=W.tape,drawn:=W.drawn+(w'.drawn - W.drawn),os:=W.os,output:=W.output }
 rw [← h5,← h2,← h3,← h4,show W.drawn+(w'.drawn - W.drawn)=w'.drawn by omega]
theorem Qdt {d:D} {p:Tri} (h:Qb4 d=some p):d=KY p:=by
 unfold Qb4 at h
 split at h
 ·split at h
  ·cases h;rfl
  ·cases h
 ·cases h
theorem kO:∀ {l:List D} {ps:List Tri},XP l=some ps→l=ps.map KY
 | [],ps,h=>by cases h;rfl
 | d::l,ps,h=>by
  unfold XP at h
  split at h
  ·rename_i p qs h1 h2
   cases h
   rw [Qdt h1,kO h2];rfl
  ·cases h
theorem Xr {n:Nat} {l r:List D} (h:Wa n l=some r):uX cx 70 4 l [.fn (.func 71) [] []] r:=by
 unfold Wa at h
 by_cases hl:l.length≤1000
 ·rw [if_pos hl] at h
  obtain ⟨ps,hps,h⟩:=Qe h
  obtain rfl:=Option.some.inj h
  obtain rfl:=kO hps
  intro w F rr cap c e vs hF hG hFr hlen hv hb hrow hcap hsz
  match vs,hlen with
  | [y],_ =>
   have hy:y=.func (.func 71) #[] #[]:=by
    have:=hv 0 _ y rfl rfl
    cases this with
    | fn _ _ _ xs ys h1 h2 _ _ =>
     have a1:=List.length_eq_zero_iff.1 h1.symm
     have a2:=List.length_eq_zero_iff.1 h2.symm
     subst a1;subst a2;rfl
   subst hy
   rw [List.length_map] at hl hcap ⊢
   have hrr:=hF rr hFr
   have hcs:ps.length * 4≤c.size:=by
    have:=Nat.mul_le_mul_right 4 hcap
    omega
   have hcell:∀ t,t < ps.length * 4→c[t]?=some ((Jk ps.toArray[t / 4]!)[t % 4]!):=by
    intro t ht
    have hi:t / 4 < ps.length:=by omega
    have he:(ps.map KY)[t / 4]?=some (KY ps[t / 4]):=by rw [List.getElem?_map,List.getElem?_eq_getElem hi];rfl
    have hg:(ps.toArray[t / 4]!)=ps[t / 4]:=by rw [getElem!_pos _ _ (by simpa using hi)];simp
    rw [hg]
    have hm:t % 4=0 ∨ t % 4=1 ∨ t % 4=2 ∨ t % 4=3:=by omega
    rcases hm with h0 | h0 | h0 | h0
    ·obtain ⟨v,q1,_,q3⟩:=hrow.2 (t / 4) _ 0 _ he rfl
     rw [show t / 4 * 4+0=t by omega] at q1
     rw [h0,q1,dr_i q3];rfl
    ·obtain ⟨v,q1,_,q3⟩:=hrow.2 (t / 4) _ 1 _ he rfl
     rw [show t / 4 * 4+1=t by omega] at q1
     rw [h0,q1,dr_i q3];rfl
    ·obtain ⟨v,q1,_,q3⟩:=hrow.2 (t / 4) _ 2 _ he rfl
     rw [show t / 4 * 4+2=t by omega] at q1
     rw [h0,q1,dr_i q3];rfl
    ·obtain ⟨v,q1,_,q3⟩:=hrow.2 (t / 4) _ 3 _ he rfl
     rw [show t / 4 * 4+3=t by omega] at q1
     rw [h0,q1,dr_i q3];rfl
   have hH:HoldsK Jk 4 w rr 0 ps.toArray:=by
    intro j hj
    rw [size_flatK] at hj
    have hj' : j < ps.length * 4:=by simpa using hj
    refine ⟨?_,?_⟩
    ·rw [get_flatK _ _ _ _ hj]
     unfold World.cell?
     rw [hb]
     simpa using hcell j hj'
    ·unfold World.frozen?
     rw [hb]
     simp
   have eg:∀ args w,(callFunc 71 args).run cx.P w=.ok (.enter 71 args) w:=enters_of Tryz.func71 (by kernel_rfl) rfl
   have hcon:=AnyQ.slices_SortFunc_eq Tryz.sortT 4 Tryz.isAgg84 Tryz.sizeOf84 Jk (fun _=>rfl) (fun x v hv=>by simp [Jk] at hv;rcases hv with rfl | rfl | rfl | rfl <;> rfl) Ed swoT 71 #[] rr 0 cap ps.toArray w eg
    (fun _ _ _ _ x y=>kw x y _) hH hrr (by simp;omega)
   refine Calls.mono (show Calls cx.P 70 (Value.slice (some ⟨rr,0,none⟩) ps.length cap::[Value.func (.func 71) #[] #[]]).toArray w (fun e w'=>e=.returned (.tuple #[])∧∃ m os,w'=sortWorldK Jk 4 w rr 0 m (pdq (ltOf Ed) ps.toArray 0 ps.toArray.size (Go.Lib.bitLen ps.toArray.size) true true) os) from hcon) ?_
   rintro e' w' ⟨rfl,m,os,rfl⟩
   have hd:(pdq (ltOf Ed) ps.toArray 0 ps.toArray.size (Go.Lib.bitLen ps.toArray.size) true true).toList=V9 ps:=rfl
   generalize pdq (ltOf Ed) ps.toArray 0 ps.toArray.size (Go.Lib.bitLen ps.toArray.size) true true=d' at hd
   have s3:(V9 ps).length=ps.length:=(UX ps).1.length_eq
   have hds:d'.size=ps.length:=by rw [← s3,← hd];simp
   have hfs:(flatK Jk 4 d').size=ps.length * 4:=by rw [size_flatK,hds]
   have hheap:∀ q,q < w.heap.size→(sortWorldK Jk 4 w rr 0 m d' os).heap[q]?=(w.heap.modify rr (onCells (putCells id 0 (flatK Jk 4 d'))))[q]?:=by
    intro q hq
    show ((w.heap.modify rr _)++os)[q]?=_
    rw [Array.getElem?_append,if_pos (by simpa using hq)]
   refine ⟨rfl,by simp [s3],putCells id 0 (flatK Jk 4 d') c,by unfold putCells;simp,⟨fun i d hi=>?_,fun i d j a hi hj=>?_⟩,?_,⟨(fun hh=>by cases hh),rfl,rfl,rfl,?_,fun q hq hne=>?_⟩⟩
   ·rw [List.getElem?_map,Option.map_eq_some_iff] at hi
    obtain ⟨p,_,rfl⟩:=hi;rfl
   ·rw [List.getElem?_map,Option.map_eq_some_iff] at hi
    obtain ⟨p,hi,rfl⟩:=hi
    have hil:=(List.getElem?_eq_some_iff.1 hi).1
    rw [s3] at hil
    have hg:(d'[i]!)=p:=by
     rw [getElem!_pos _ _ (by omega)]
     have:d'.toList[i]?=some p:=by rw [hd];exact hi
     rw [List.getElem?_eq_some_iff] at this
     obtain ⟨_,h2⟩:=this
     simpa using h2
    have hput:∀ t,t < ps.length * 4→(putCells id 0 (flatK Jk 4 d') c)[t]?=some ((Jk d'[t / 4]!)[t % 4]!):=by
     intro t ht
     unfold putCells
     rw [Array.getElem?_mapIdx,hcell t ht,Option.map_some,if_pos ⟨Nat.zero_le _,by omega⟩,Nat.sub_zero,get_flatK _ _ _ _ (by omega)];rfl
    have key:∀ k,k < 4→(putCells id 0 (flatK Jk 4 d') c)[i * 4+k]?=some ((Jk p)[k]!):=by
     intro k hk
     rw [hput (i * 4+k) (by omega),show (i * 4+k) / 4=i by omega,show (i * 4+k) % 4=k by omega,hg]
    match j,hj with
    | 0,hj=>cases hj;exact ⟨_,key 0 (by omega),rfl,.v _⟩
    | 1,hj=>cases hj;exact ⟨_,key 1 (by omega),rfl,.v _⟩
    | 2,hj=>cases hj;exact ⟨_,key 2 (by omega),rfl,.v _⟩
    | 3,hj=>cases hj;exact ⟨_,key 3 (by omega),rfl,.v _⟩
   ·rw [hheap rr hrr,Array.getElem?_modify,if_pos rfl,hb];rfl
   ·show w.heap.size≤((w.heap.modify rr _)++os).size
    simp
   ·rw [hheap q hq,Array.getElem?_modify,if_neg (fun h=>hne h.symm)]
 ·rw [if_neg hl] at h;cases h
set_option maxRecDepth 10000
set_option maxHeartbeats 4000000
def Vz (n:Nat)  : Option (Int) :=
 some 3
theorem Js {n:Nat}  {r:Int} (h:Vz n =some r):Computes cx 61 [B true,I 3] (I r):=by
 unfold Vz at h
 replace h:=Option.some.inj h
 subst h
 exact run (n:=100) (f:=61) (args:=[B true,I 3]) (orc:=[.no]) (r:=I 3) (ob:=[]) (by kernel_rfl) trivial
def Z2 (n:Nat) (a0:Bool) (a1:Int):Option (Int) :=
 if a0=true then
  some a1
 else
 some 0
theorem UN {n:Nat} {a0:Bool} {a1:Int} {r:Int} (h:Z2 n a0 a1=some r):Computes cx 61 [B a0,I a1] (I r):=by
 unfold Z2 at h
 by_cases h1:a0=true
 ·replace h:=Qj h h1
  replace h:=Option.some.inj h
  subst h
  exact run (n:=100) (f:=61) (args:=[B a0,I a1]) (orc:=[.br true]) (r:=I a1) (ob:=[a0=true]) (by kernel_rfl) ⟨h1,trivial⟩
 ·replace h:=Qk h h1
  replace h:=Option.some.inj h
  subst h
  exact run (n:=100) (f:=61) (args:=[B a0,I a1]) (orc:=[.br false]) (r:=I 0) (ob:=[a0=false]) (by kernel_rfl) ⟨(QY h1),trivial⟩
def Z1 (n:Nat) (a0 a1 a2:Int):Option (Int) :=
 if a0 < a1 then
  (Vz n).bind fun t2 =>
  some t2
 else
 (Z2 n (decide (a0 > a2)) 3).bind fun t2 =>
 some t2
theorem QB {n:Nat} {a0 a1 a2:Int} {r:Int} (h:Z1 n a0 a1 a2=some r):Computes cx 24 [I a0,I a1,I a2] (I r):=by
 unfold Z1 at h
 by_cases h1:a0 < a1
 ·replace h:=Qj h h1
  obtain ⟨t2,h2,h⟩:=Qe h
  replace h:=Option.some.inj h
  subst h
  exact run (n:=100) (f:=24) (args:=[I a0,I a1,I a2]) (orc:=[.br true,.ret (I t2)]) (r:=I t2) (ob:=[Computes cx 61 [B true,I 3] (I t2),(decide (a0 < a1))=true]) (by kernel_rfl) ⟨(Js h2),(decide_eq_true h1),trivial⟩
 ·replace h:=Qk h h1
  obtain ⟨t2,h2,h⟩:=Qe h
  replace h:=Option.some.inj h
  subst h
  exact run (n:=100) (f:=24) (args:=[I a0,I a1,I a2]) (orc:=[.br false,.ret (I t2)]) (r:=I t2) (ob:=[Computes cx 61 [B (decide (a0 > a2)),I 3] (I t2),(decide (a0 < a1))=false]) (by kernel_rfl) ⟨(UN h2),(decide_eq_false h1),trivial⟩
def Qef (x:Int):D:=I x
def un_i (d:D):Option (Int):=Kg .i64 d
theorem Q1 {d:D} {x:Int} (h:un_i d=some x):d=Qef x:=V1 h
def WP (n:Nat) (a0:List D) (sa:(Int)):Option (((Int))⊕((Int)⊕(Unit))) :=
 if sa < ((a0).length:Int) then
  (el un_i a0 sa).bind fun ta2 =>
  if ta2=0 then
   if Qb (sa+1) then
   some (.inl (sa+1))
   else none
  else
  some (.inr (.inl ta2))
 else
 some (.inr (.inr ()))
noncomputable def zw (a0:List D) (sa:(Int)):List (Nat×AV):=[(5,.d (.lst false 1 a0)),(6,.d (I ((a0).length:Int))),(7,.d (I sa))]
noncomputable def zB (a0:List D) (sa:(Int)):List (Nat×Blk):=[]
noncomputable def zm (a0:List D) (e:(Int)⊕(Unit)):Ex:=match e with
 | (.inl e)=>.ret
 | (.inr e)=>(.exit 0)
noncomputable def qg (a0:List D) (e:(Int)⊕(Unit)):List (Nat×AV):=match e with
 | (.inl e)=>[(2,.d (I e))]
 | (.inr e)=>[]
noncomputable def qk (a0:List D) (e:(Int)⊕(Unit)):List (Nat×Blk):=match e with
 | (.inl e)=>[]
 | (.inr e)=>[]
theorem KU {n:Nat} {a0:List D} (sa:(Int)) (r) (h:WP n a0 sa=some r):Rd cx (Qp cx.P 22 0) 15 0 false (zw a0) (zB a0) (zm a0) (qg a0) (qk a0) sa r:=by
 unfold WP at h
 by_cases ha1:sa < ((a0).length:Int)
 ·replace h:=Qj h ha1
  obtain ⟨ta2,ha2,h⟩:=Qe h
  by_cases ha3:ta2=0
  ·replace h:=Qj h ha3
   obtain ⟨ha4,h⟩:=Qg h
   replace h:=Option.some.inj h
   subst h
   exact ⟨100,4,[.br true,.el (I ta2),.br false],[],[5,6,7],[],Qh (ob:=[Qb (sa+1),(ta2 != 0)=false,(0:Int)≤sa,nth (a0) (Int.toNat sa)=some (I ta2),(decide (sa < ((a0).length:Int)))=true]) (by kernel_rfl) ⟨ha4,(nef ha3),(Qm Q1 ha2).1,(Qm Q1 ha2).2,(decide_eq_true ha1),trivial⟩⟩
  ·replace h:=Qk h ha3
   replace h:=Option.some.inj h
   subst h
   exact ⟨⟨100,4,[.br true,.el (I ta2),.br true],[],[2],[],Qh (ob:=[(ta2 != 0)=true,(0:Int)≤sa,nth (a0) (Int.toNat sa)=some (I ta2),(decide (sa < ((a0).length:Int)))=true]) (by kernel_rfl) ⟨(net ha3),(Qm Q1 ha2).1,(Qm Q1 ha2).2,(decide_eq_true ha1),trivial⟩⟩,nofun⟩
 ·replace h:=Qk h ha1
  replace h:=Option.some.inj h
  subst h
  exact ⟨⟨100,4,[.br false],[],[],[],Qh (ob:=[(decide (sa < ((a0).length:Int)))=false]) (by kernel_rfl) ⟨(decide_eq_false ha1),trivial⟩⟩,nofun⟩
def Wi (n:Nat) (a0:List D):Option (Int) :=
 (QF (WP n a0) n 0).bind fun t1=>match t1 with
  | (.inl t1)=>(
   some t1)
  | (.inr t1)=>(
   some 0)
theorem Zq {n:Nat} {a0:List D} {r:Int} (h:Wi n a0=some r):Computes cx 22 [.lst false 1 a0] (I r):=by
 unfold Wi at h
 obtain ⟨t1,h1,h⟩:=Qe h
 rcases t1 with t1 | t1
 ·replace h:=Option.some.inj h
  subst h
  exact run (n:=100) (f:=22) (args:=[.lst false 1 a0]) (orc:=[.lp [] [5,6,7] [] .ret [(2,.d (I t1))] [] 23]) (r:=I t1) (ob:=[QX cx (Qp cx.P 22 0) 15 0 false [(5,.d (.lst false 1 a0)),(6,.d (I ((a0).length:Int))),(7,.d (I 0))] [] .ret [(2,.d (I t1))] []]) (by kernel_rfl) ⟨(Qt KU h1),trivial⟩
 ·replace h:=Option.some.inj h
  subst h
  exact run (n:=100) (f:=22) (args:=[.lst false 1 a0]) (orc:=[.lp [] [5,6,7] [] (.exit 0) [] [] 23]) (r:=I 0) (ob:=[QX cx (Qp cx.P 22 0) 15 0 false [(5,.d (.lst false 1 a0)),(6,.d (I ((a0).length:Int))),(7,.d (I 0))] [] (.exit 0) [] []]) (by kernel_rfl) ⟨(Qt KU h1),trivial⟩
def Qq (x:Nat):D:=.v (.float .f32 x)
def VQ (d:D):Option (Nat):=Qbc .f32 d
theorem Qo {d:D} {x:Nat} (h:VQ d=some x):d=Qq x:=Qcz h
def Uj (n:Nat) (a0:Nat):Option (Bool) :=
 some ((FloatKind.format .f64).order a0 a0 != some .eq)
theorem E6 {n:Nat} {a0:Nat} {r:Bool} (h:Uj n a0=some r):Computes cx 95 [.v (.float .f64 a0)] (B r):=by
 unfold Uj at h
 replace h:=Option.some.inj h
 subst h
 exact run (n:=100) (f:=95) (args:=[.v (.float .f64 a0)]) (orc:=[]) (r:=B ((FloatKind.format .f64).order a0 a0 != some .eq)) (ob:=[]) (by kernel_rfl) trivial
def Uk (n:Nat) (a0:Nat) (a1:Int):Option (Bool) :=
 if a1=0 then
  (Ew n a0).bind fun t2 =>
  some ((FloatKind.format .f64).order t2 9218868437227405311 == some .gt)
 else
 if a1 < 0 then
  some ((FloatKind.format .f64).order (Op.negFloat .f64 a0) 9218868437227405311 == some .gt)
 else
 some ((FloatKind.format .f64).order a0 9218868437227405311 == some .gt)
theorem uJ {n:Nat} {a0:Nat} {a1:Int} {r:Bool} (h:Uk n a0 a1=some r):Computes cx 96 [.v (.float .f64 a0),I a1] (B r):=by
 unfold Uk at h
 by_cases h1:a1=0
 ·replace h:=Qj h h1
  obtain ⟨t2,h2,h⟩:=Qe h
  replace h:=Option.some.inj h
  subst h
  exact run (n:=100) (f:=96) (args:=[.v (.float .f64 a0),I a1]) (orc:=[.br true,.ret (.v (.float .f64 t2))]) (r:=B ((FloatKind.format .f64).order t2 9218868437227405311 == some .gt)) (ob:=[Computes cx 110 [.v (.float .f64 a0)] (.v (.float .f64 t2)),(a1 == 0)=true]) (by kernel_rfl) ⟨(QbP h2),(eqt h1),trivial⟩
 ·replace h:=Qk h h1
  by_cases h2:a1 < 0
  ·replace h:=Qj h h2
   replace h:=Option.some.inj h
   subst h
   exact run (n:=100) (f:=96) (args:=[.v (.float .f64 a0),I a1]) (orc:=[.br false,.br true]) (r:=B ((FloatKind.format .f64).order (Op.negFloat .f64 a0) 9218868437227405311 == some .gt)) (ob:=[(decide (a1 < 0))=true,(a1 == 0)=false]) (by kernel_rfl) ⟨(decide_eq_true h2),(eqf h1),trivial⟩
  ·replace h:=Qk h h2
   replace h:=Option.some.inj h
   subst h
   exact run (n:=100) (f:=96) (args:=[.v (.float .f64 a0),I a1]) (orc:=[.br false,.br false]) (r:=B ((FloatKind.format .f64).order a0 9218868437227405311 == some .gt)) (ob:=[(decide (a1 < 0))=false,(a1 == 0)=false]) (by kernel_rfl) ⟨(decide_eq_false h2),(eqf h1),trivial⟩
def WO (n:Nat) (a0:Nat):Option (Bool) :=
 if (f2f .f32 a0 .f64).isSome=true then
 (Uj n ((f2f .f32 a0 .f64).getD 0)).bind fun t2 =>
 if t2=true then
  some true
 else
 (Uk n ((f2f .f32 a0 .f64).getD 0) 0).bind fun t4 =>
 some t4
 else none
theorem za {n:Nat} {a0:Nat} {r:Bool} (h:WO n a0=some r):Computes cx 82 [.v (.float .f32 a0)] (B r):=by
 unfold WO at h
 obtain ⟨h1,h⟩:=Qg h
 obtain ⟨t2,h2,h⟩:=Qe h
 by_cases h3:t2=true
 ·replace h:=Qj h h3
  replace h:=Option.some.inj h
  subst h
  exact run (n:=100) (f:=82) (args:=[.v (.float .f32 a0)]) (orc:=[.ret (B t2),.br true]) (r:=B true) (ob:=[t2=true,Computes cx 95 [.v (.float .f64 ((f2f .f32 a0 .f64).getD 0))] (B t2),(f2f .f32 a0 .f64).isSome=true]) (by kernel_rfl) ⟨h3,(E6 h2),h1,trivial⟩
 ·replace h:=Qk h h3
  obtain ⟨t4,h4,h⟩:=Qe h
  replace h:=Option.some.inj h
  subst h
  exact run (n:=100) (f:=82) (args:=[.v (.float .f32 a0)]) (orc:=[.ret (B t2),.br false,.ret (B t4)]) (r:=B t4) (ob:=[Computes cx 96 [.v (.float .f64 ((f2f .f32 a0 .f64).getD 0)),I 0] (B t4),(f2f .f32 a0 .f64).isSome=true,t2=false,Computes cx 95 [.v (.float .f64 ((f2f .f32 a0 .f64).getD 0))] (B t2),(f2f .f32 a0 .f64).isSome=true]) (by kernel_rfl) ⟨(uJ h4),h1,(QY h3),(E6 h2),h1,trivial⟩
def Vm (n:Nat) (a0 a1:Nat):Option (Int) :=
 if ((FloatKind.format .f32).order a0 (Op.negFloat .f32 a1) == some .lt)=true then
  (Vz n).bind fun t2 =>
  some t2
 else
 if ((FloatKind.format .f32).order a0 a1 == some .gt)=true then
  (Vz n).bind fun t3 =>
  some t3
 else
 if (fop .mul .f32 1098907648 a0).isSome=true then
 if (f2f .f32 ((fop .mul .f32 1098907648 a0).getD 0) .f64).isSome=true then
 (JK n ((f2f .f32 ((fop .mul .f32 1098907648 a0).getD 0) .f64).getD 0)).bind fun t5 =>
 if (f2f .f64 t5 .f32).isSome=true then
 (Z2 n ((FloatKind.format .f32).order ((f2f .f64 t5 .f32).getD 0) ((fop .mul .f32 1098907648 a0).getD 0) != some .eq) 3).bind fun t7 =>
 some t7
 else none
 else none
 else none
theorem jB {n:Nat} {a0 a1:Nat} {r:Int} (h:Vm n a0 a1=some r):Computes cx 83 [.v (.float .f32 a0),.v (.float .f32 a1)] (I r):=by
 unfold Vm at h
 by_cases h1:((FloatKind.format .f32).order a0 (Op.negFloat .f32 a1) == some .lt)=true
 ·replace h:=Qj h h1
  obtain ⟨t2,h2,h⟩:=Qe h
  replace h:=Option.some.inj h
  subst h
  exact run (n:=100) (f:=83) (args:=[.v (.float .f32 a0),.v (.float .f32 a1)]) (orc:=[.br true,.no,.ret (I t2)]) (r:=I t2) (ob:=[Computes cx 61 [B true,I 3] (I t2),((FloatKind.format .f32).order a0 (Op.negFloat .f32 a1) == some .lt)=true]) (by kernel_rfl) ⟨(Js h2),h1,trivial⟩
 ·replace h:=Qk h h1
  by_cases h2:((FloatKind.format .f32).order a0 a1 == some .gt)=true
  ·replace h:=Qj h h2
   obtain ⟨t3,h3,h⟩:=Qe h
   replace h:=Option.some.inj h
   subst h
   exact run (n:=100) (f:=83) (args:=[.v (.float .f32 a0),.v (.float .f32 a1)]) (orc:=[.br false,.br true,.ret (I t3)]) (r:=I t3) (ob:=[Computes cx 61 [B true,I 3] (I t3),((FloatKind.format .f32).order a0 a1 == some .gt)=true,((FloatKind.format .f32).order a0 (Op.negFloat .f32 a1) == some .lt)=false]) (by kernel_rfl) ⟨(Js h3),h2,(QY h1),trivial⟩
  ·replace h:=Qk h h2
   obtain ⟨h3,h⟩:=Qg h
   obtain ⟨h4,h⟩:=Qg h
   obtain ⟨t5,h5,h⟩:=Qe h
   obtain ⟨h6,h⟩:=Qg h
   obtain ⟨t7,h7,h⟩:=Qe h
   replace h:=Option.some.inj h
   subst h
   exact run (n:=100) (f:=83) (args:=[.v (.float .f32 a0),.v (.float .f32 a1)]) (orc:=[.br false,.br false,.ret (.v (.float .f64 t5)),.ret (I t7)]) (r:=I t7) (ob:=[Computes cx 61 [B ((FloatKind.format .f32).order ((f2f .f64 t5 .f32).getD 0) ((fop .mul .f32 1098907648 a0).getD 0) != some .eq),I 3] (I t7),(fop .mul .f32 1098907648 a0).isSome=true,(f2f .f64 t5 .f32).isSome=true,Computes cx 97 [.v (.float .f64 ((f2f .f32 ((fop .mul .f32 1098907648 a0).getD 0) .f64).getD 0))] (.v (.float .f64 t5)),(f2f .f32 ((fop .mul .f32 1098907648 a0).getD 0) .f64).isSome=true,(fop .mul .f32 1098907648 a0).isSome=true,((FloatKind.format .f32).order a0 a1 == some .gt)=false,((FloatKind.format .f32).order a0 (Op.negFloat .f32 a1) == some .lt)=false]) (by kernel_rfl) ⟨(UN h7),h3,h6,(uK h5),h4,h3,(QY h2),(QY h1),trivial⟩
def Zg (n:Nat) (a0:Nat):Option (Int) :=
 (WO n a0).bind fun t1 =>
 (Z2 n t1 1).bind fun t2 =>
 (Vm n a0 1149239296).bind fun t3 =>
 (Wi n ([I t2,I t3])).bind fun t4 =>
 some t4
theorem Y3 {n:Nat} {a0:Nat} {r:Int} (h:Zg n a0=some r):Computes cx 60 [.v (.float .f32 a0)] (I r):=by
 unfold Zg at h
 obtain ⟨t1,h1,h⟩:=Qe h
 obtain ⟨t2,h2,h⟩:=Qe h
 obtain ⟨t3,h3,h⟩:=Qe h
 obtain ⟨t4,h4,h⟩:=Qe h
 replace h:=Option.some.inj h
 subst h
 exact run (n:=100) (f:=60) (args:=[.v (.float .f32 a0)]) (orc:=[.ret (B t1),.ret (I t2),.ret (I t3),.ret (I t4)]) (r:=I t4) (ob:=[Computes cx 22 [.lst true 1 [I t2,I t3]] (I t4),Computes cx 83 [.v (.float .f32 a0),.v (.float .f32 1149239296)] (I t3),Computes cx 61 [B t1,I 1] (I t2),Computes cx 82 [.v (.float .f32 a0)] (B t1)]) (by kernel_rfl) ⟨((Zq h4).le (.cons (.full _ _ _) (.nil)) (.refl _)),(jB h3),(UN h2),(za h1),trivial⟩
def ZM (n:Nat) (a0:List D) (sa:(Int×List D)):Option (((Int×List D))⊕((List D))) :=
 if sa.1 < ((a0).length:Int) then
  (el VQ a0 sa.1).bind fun ta2 =>
  (Zg n ta2).bind fun ta3 =>
  if Wm 8 ((sa.2).length+1) then
  if Qb (sa.1+1) then
  some (.inl ((sa.1+1),(sa.2++([I ta3]:List D))))
  else none
  else none
 else
 some (.inr sa.2)
noncomputable def Xz (a0:List D) (sa:(Int×List D)):List (Nat×AV):=[(1,.d (.fn (.func 60) [] [])),(5,.own 5 0),(8,.d (.lst false 1 a0)),(9,.d (I ((a0).length:Int))),(10,.d (I sa.1))]
noncomputable def XD (a0:List D) (sa:(Int×List D)):List (Nat×Blk):=[(5,.row 0 1 sa.2)]
noncomputable def Xt (a0:List D) (e:(List D)):Ex:=(.exit 0)
noncomputable def GT (a0:List D) (e:(List D)):List (Nat×AV):=[(5,.own 5 0)]
noncomputable def GV (a0:List D) (e:(List D)):List (Nat×Blk):=[(5,.row 0 1 e)]
theorem XB {n:Nat} {a0:List D} (sa:(Int×List D)) (r) (h:ZM n a0 sa=some r):Rd cx (Qp cx.P 59 0) 22 0 false (Xz a0) (XD a0) (Xt a0) (GT a0) (GV a0) sa r:=by
 unfold ZM at h
 by_cases ha1:sa.1 < ((a0).length:Int)
 ·replace h:=Qj h ha1
  obtain ⟨ta2,ha2,h⟩:=Qe h
  obtain ⟨ta3,ha3,h⟩:=Qe h
  obtain ⟨ha4,h⟩:=Qg h
  obtain ⟨ha5,h⟩:=Qg h
  replace h:=Option.some.inj h
  subst h
  exact ⟨100,6,[.br true,.el (.v (.float .f32 ta2)),.ret (I ta3),.br true],[],[1,5,8,9,10],[5],Qh (ob:=[Qb (sa.1+1),room cx 32 ((sa.2).length+1),Computes cx 60 [.v (.float .f32 ta2)] (I ta3),(0:Int)≤sa.1,nth (a0) (Int.toNat sa.1)=some (.v (.float .f32 ta2)),(decide (sa.1 < ((a0).length:Int)))=true]) (by kernel_rfl) ⟨ha5,(Qv (b:=8) (by kernel_rfl) (by decide) ha4),(Y3 ha3),(Qm Qo ha2).1,(Qm Qo ha2).2,(decide_eq_true ha1),trivial⟩⟩
 ·replace h:=Qk h ha1
  replace h:=Option.some.inj h
  subst h
  exact ⟨⟨100,6,[.br false],[],[5],[5],Qh (ob:=[(decide (sa.1 < ((a0).length:Int)))=false]) (by kernel_rfl) ⟨(decide_eq_false ha1),trivial⟩⟩,nofun⟩
def VA (n:Nat) (a0:List D):Option (List D) :=
 (QF (ZM n a0) n (0,[])).bind fun t1 =>
 some t1
theorem qZ {n:Nat} {a0:List D} {r:List D} (h:VA n a0=some r):Computes cx 59 [.lst false 1 a0,.fn (.func 60) [] []] (.lst false 1 r):=by
 unfold VA at h
 obtain ⟨t1,h1,h⟩:=Qe h
 replace h:=Option.some.inj h
 subst h
 exact run (n:=100) (f:=59) (args:=[.lst false 1 a0,.fn (.func 60) [] []]) (orc:=[.lp [5,1] [1,5,8,9,10] [5] (.exit 0) [(5,.own 5 0)] [(5,.row 0 1 t1)] 30]) (r:=.lst false 1 t1) (ob:=[QX cx (Qp cx.P 59 0) 22 0 false [(1,.d (.fn (.func 60) [] [])),(5,.own 5 0),(8,.d (.lst false 1 a0)),(9,.d (I ((a0).length:Int))),(10,.d (I 0))] [(5,.row 0 1 [])] (.exit 0) [(5,.own 5 0)] [(5,.row 0 1 t1)]]) (by kernel_rfl) ⟨(Qt XB h1),trivial⟩
def ZR (n:Nat) (a0 a1:Int) (a2:List D):Option (Int) :=
 (Z1 n a0 1 64).bind fun t1 =>
 (Z1 n a1 1 64).bind fun t2 =>
 (Wi n ([I t1,I t2])).bind fun t3 =>
 if t3=0 then
  if Qb (a0 * a1) then
  if ((a2).length:Int)=(a0 * a1) then
   (VA n a2).bind fun t7 =>
   (Wi n t7).bind fun t8 =>
   some t8
  else
  some 2
  else none
 else
 some t3
theorem Zc {n:Nat} {a0 a1:Int} {a2:List D} {r:Int} (h:ZR n a0 a1 a2=some r):Computes cx 23 [.agg [I a0,I a1,.lst false 1 a2]] (I r):=by
 unfold ZR at h
 obtain ⟨t1,h1,h⟩:=Qe h
 obtain ⟨t2,h2,h⟩:=Qe h
 obtain ⟨t3,h3,h⟩:=Qe h
 by_cases h4:t3=0
 ·replace h:=Qj h h4
  obtain ⟨h5,h⟩:=Qg h
  by_cases h6:((a2).length:Int)=(a0 * a1)
  ·replace h:=Qj h h6
   obtain ⟨t7,h7,h⟩:=Qe h
   obtain ⟨t8,h8,h⟩:=Qe h
   replace h:=Option.some.inj h
   subst h
   exact run (n:=100) (f:=23) (args:=[.agg [I a0,I a1,.lst false 1 a2]]) (orc:=[.ret (I t1),.ret (I t2),.ret (I t3),.br false,.br false,.ret (.lst false 1 t7),.ret (I t8)]) (r:=I t8) (ob:=[Computes cx 22 [.lst false 1 t7] (I t8),Computes cx 59 [.lst false 1 a2,.fn (.func 60) [] []] (.lst false 1 t7),(((a2).length:Int) != (a0 * a1))=false,Qb (a0 * a1),(t3 != 0)=false,Computes cx 22 [.lst true 1 [I t1,I t2]] (I t3),Computes cx 24 [I a1,I 1,I 64] (I t2),Computes cx 24 [I a0,I 1,I 64] (I t1)]) (by kernel_rfl) ⟨(Zq h8),(qZ h7),(nef h6),h5,(nef h4),((Zq h3).le (.cons (.full _ _ _) (.nil)) (.refl _)),(QB h2),(QB h1),trivial⟩
  ·replace h:=Qk h h6
   replace h:=Option.some.inj h
   subst h
   exact run (n:=100) (f:=23) (args:=[.agg [I a0,I a1,.lst false 1 a2]]) (orc:=[.ret (I t1),.ret (I t2),.ret (I t3),.br false,.br true]) (r:=I 2) (ob:=[(((a2).length:Int) != (a0 * a1))=true,Qb (a0 * a1),(t3 != 0)=false,Computes cx 22 [.lst true 1 [I t1,I t2]] (I t3),Computes cx 24 [I a1,I 1,I 64] (I t2),Computes cx 24 [I a0,I 1,I 64] (I t1)]) (by kernel_rfl) ⟨(net h6),h5,(nef h4),((Zq h3).le (.cons (.full _ _ _) (.nil)) (.refl _)),(QB h2),(QB h1),trivial⟩
 ·replace h:=Qk h h4
  replace h:=Option.some.inj h
  subst h
  exact run (n:=100) (f:=23) (args:=[.agg [I a0,I a1,.lst false 1 a2]]) (orc:=[.ret (I t1),.ret (I t2),.ret (I t3),.br true]) (r:=I t3) (ob:=[(t3 != 0)=true,Computes cx 22 [.lst true 1 [I t1,I t2]] (I t3),Computes cx 24 [I a1,I 1,I 64] (I t2),Computes cx 24 [I a0,I 1,I 64] (I t1)]) (by kernel_rfl) ⟨(net h4),((Zq h3).le (.cons (.full _ _ _) (.nil)) (.refl _)),(QB h2),(QB h1),trivial⟩
def Wx (n:Nat) (a0:Nat):Option (Bool) :=
 some ((FloatKind.format .f32).order a0 0 == some .lt)
theorem Yq {n:Nat} {a0:Nat} {r:Bool} (h:Wx n a0=some r):Computes cx 85 [.v (.float .f32 a0)] (B r):=by
 unfold Wx at h
 replace h:=Option.some.inj h
 subst h
 exact run (n:=100) (f:=85) (args:=[.v (.float .f32 a0)]) (orc:=[]) (r:=B ((FloatKind.format .f32).order a0 0 == some .lt)) (ob:=[]) (by kernel_rfl) trivial
def Q4 (n:Nat) (a0:List D) (sa:(Int)):Option (((Int))⊕((Int)⊕(Unit))) :=
 if sa < ((a0).length:Int) then
  (el VQ a0 sa).bind fun ta2 =>
  (Wx n ta2).bind fun ta3 =>
  if ta3=true then
   some (.inr (.inl sa))
  else
  if Qb (sa+1) then
  some (.inl (sa+1))
  else none
 else
 some (.inr (.inr ()))
noncomputable def KR (a0:List D) (sa:(Int)):List (Nat×AV):=[(0,.d (.lst false 1 a0)),(1,.d (.fn (.func 85) [] [])),(7,.d (I ((a0).length:Int))),(8,.d (I sa))]
noncomputable def KW (a0:List D) (sa:(Int)):List (Nat×Blk):=[]
noncomputable def KN (a0:List D) (e:(Int)⊕(Unit)):Ex:=match e with
 | (.inl e)=>.ret
 | (.inr e)=>(.exit 0)
noncomputable def Kp (a0:List D) (e:(Int)⊕(Unit)):List (Nat×AV):=match e with
 | (.inl e)=>[(4,.d (I e))]
 | (.inr e)=>[]
noncomputable def Kr (a0:List D) (e:(Int)⊕(Unit)):List (Nat×Blk):=match e with
 | (.inl e)=>[]
 | (.inr e)=>[]
theorem V6 {n:Nat} {a0:List D} (sa:(Int)) (r) (h:Q4 n a0 sa=some r):Rd cx (Qp cx.P 98 0) 19 0 false (KR a0) (KW a0) (KN a0) (Kp a0) (Kr a0) sa r:=by
 unfold Q4 at h
 by_cases ha1:sa < ((a0).length:Int)
 ·replace h:=Qj h ha1
  obtain ⟨ta2,ha2,h⟩:=Qe h
  obtain ⟨ta3,ha3,h⟩:=Qe h
  by_cases ha4:ta3=true
  ·replace h:=Qj h ha4
   replace h:=Option.some.inj h
   subst h
   exact ⟨⟨100,4,[.br true,.el (.v (.float .f32 ta2)),.ret (B ta3),.br true],[],[4],[],Qh (ob:=[ta3=true,Computes cx 85 [.v (.float .f32 ta2)] (B ta3),(0:Int)≤sa,nth (a0) (Int.toNat sa)=some (.v (.float .f32 ta2)),(decide (sa < ((a0).length:Int)))=true]) (by kernel_rfl) ⟨ha4,(Yq ha3),(Qm Qo ha2).1,(Qm Qo ha2).2,(decide_eq_true ha1),trivial⟩⟩,nofun⟩
  ·replace h:=Qk h ha4
   obtain ⟨ha5,h⟩:=Qg h
   replace h:=Option.some.inj h
   subst h
   exact ⟨100,4,[.br true,.el (.v (.float .f32 ta2)),.ret (B ta3),.br false],[],[0,1,7,8],[],Qh (ob:=[Qb (sa+1),ta3=false,Computes cx 85 [.v (.float .f32 ta2)] (B ta3),(0:Int)≤sa,nth (a0) (Int.toNat sa)=some (.v (.float .f32 ta2)),(decide (sa < ((a0).length:Int)))=true]) (by kernel_rfl) ⟨ha5,(QY ha4),(Yq ha3),(Qm Qo ha2).1,(Qm Qo ha2).2,(decide_eq_true ha1),trivial⟩⟩
 ·replace h:=Qk h ha1
  replace h:=Option.some.inj h
  subst h
  exact ⟨⟨100,4,[.br false],[],[],[],Qh (ob:=[(decide (sa < ((a0).length:Int)))=false]) (by kernel_rfl) ⟨(decide_eq_false ha1),trivial⟩⟩,nofun⟩
def WF (n:Nat) (a0:List D):Option (Int) :=
 (QF (Q4 n a0) n 0).bind fun t1=>match t1 with
  | (.inl t1)=>(
   some t1)
  | (.inr t1)=>(
   some (-1))
theorem GH {n:Nat} {a0:List D} {r:Int} (h:WF n a0=some r):Computes cx 98 [.lst false 1 a0,.fn (.func 85) [] []] (I r):=by
 unfold WF at h
 obtain ⟨t1,h1,h⟩:=Qe h
 rcases t1 with t1 | t1
 ·replace h:=Option.some.inj h
  subst h
  exact run (n:=100) (f:=98) (args:=[.lst false 1 a0,.fn (.func 85) [] []]) (orc:=[.lp [] [0,1,7,8] [] .ret [(4,.d (I t1))] [] 26]) (r:=I t1) (ob:=[QX cx (Qp cx.P 98 0) 19 0 false [(0,.d (.lst false 1 a0)),(1,.d (.fn (.func 85) [] [])),(7,.d (I ((a0).length:Int))),(8,.d (I 0))] [] .ret [(4,.d (I t1))] []]) (by kernel_rfl) ⟨(Qt V6 h1),trivial⟩
 ·replace h:=Option.some.inj h
  subst h
  exact run (n:=100) (f:=98) (args:=[.lst false 1 a0,.fn (.func 85) [] []]) (orc:=[.lp [] [0,1,7,8] [] (.exit 0) [] [] 26]) (r:=I (-1)) (ob:=[QX cx (Qp cx.P 98 0) 19 0 false [(0,.d (.lst false 1 a0)),(1,.d (.fn (.func 85) [] [])),(7,.d (I ((a0).length:Int))),(8,.d (I 0))] [] (.exit 0) [] []]) (by kernel_rfl) ⟨(Qt V6 h1),trivial⟩
def ZE (n:Nat) (a0:List D):Option (Bool) :=
 (WF n a0).bind fun t1 =>
 some (decide (t1 ≥ 0))
theorem KI {n:Nat} {a0:List D} {r:Bool} (h:ZE n a0=some r):Computes cx 84 [.lst false 1 a0,.fn (.func 85) [] []] (B r):=by
 unfold ZE at h
 obtain ⟨t1,h1,h⟩:=Qe h
 replace h:=Option.some.inj h
 subst h
 exact run (n:=100) (f:=84) (args:=[.lst false 1 a0,.fn (.func 85) [] []]) (orc:=[.ret (I t1)]) (r:=B (decide (t1 ≥ 0))) (ob:=[Computes cx 98 [.lst false 1 a0,.fn (.func 85) [] []] (I t1)]) (by kernel_rfl) ⟨(GH h1),trivial⟩
def Zu (n:Nat) (a0:Bool) (a1:Int):Option (Int) :=
 if a0=true then
  some a1
 else
 some 0
theorem Zt {n:Nat} {a0:Bool} {a1:Int} {r:Int} (h:Zu n a0 a1=some r):Computes cx 34 [B a0,I a1] (I r):=by
 unfold Zu at h
 by_cases h1:a0=true
 ·replace h:=Qj h h1
  replace h:=Option.some.inj h
  subst h
  exact run (n:=100) (f:=34) (args:=[B a0,I a1]) (orc:=[.br true]) (r:=I a1) (ob:=[a0=true]) (by kernel_rfl) ⟨h1,trivial⟩
 ·replace h:=Qk h h1
  replace h:=Option.some.inj h
  subst h
  exact run (n:=100) (f:=34) (args:=[B a0,I a1]) (orc:=[.br false]) (r:=I 0) (ob:=[a0=false]) (by kernel_rfl) ⟨(QY h1),trivial⟩
def WQ (n:Nat) (a0:List D) (sa:(Int)):Option (((Int))⊕((Int)⊕(Unit))) :=
 if sa < ((a0).length:Int) then
  (el un_i a0 sa).bind fun ta2 =>
  if ta2=0 then
   if Qb (sa+1) then
   some (.inl (sa+1))
   else none
  else
  some (.inr (.inl ta2))
 else
 some (.inr (.inr ()))
noncomputable def zx (a0:List D) (sa:(Int)):List (Nat×AV):=[(5,.d (.lst false 1 a0)),(6,.d (I ((a0).length:Int))),(7,.d (I sa))]
noncomputable def zC (a0:List D) (sa:(Int)):List (Nat×Blk):=[]
noncomputable def zn (a0:List D) (e:(Int)⊕(Unit)):Ex:=match e with
 | (.inl e)=>.ret
 | (.inr e)=>(.exit 0)
noncomputable def qh (a0:List D) (e:(Int)⊕(Unit)):List (Nat×AV):=match e with
 | (.inl e)=>[(2,.d (I e))]
 | (.inr e)=>[]
noncomputable def ql (a0:List D) (e:(Int)⊕(Unit)):List (Nat×Blk):=match e with
 | (.inl e)=>[]
 | (.inr e)=>[]
theorem KV {n:Nat} {a0:List D} (sa:(Int)) (r) (h:WQ n a0 sa=some r):Rd cx (Qp cx.P 30 0) 15 0 false (zx a0) (zC a0) (zn a0) (qh a0) (ql a0) sa r:=by
 unfold WQ at h
 by_cases ha1:sa < ((a0).length:Int)
 ·replace h:=Qj h ha1
  obtain ⟨ta2,ha2,h⟩:=Qe h
  by_cases ha3:ta2=0
  ·replace h:=Qj h ha3
   obtain ⟨ha4,h⟩:=Qg h
   replace h:=Option.some.inj h
   subst h
   exact ⟨100,4,[.br true,.el (I ta2),.br false],[],[5,6,7],[],Qh (ob:=[Qb (sa+1),(ta2 != 0)=false,(0:Int)≤sa,nth (a0) (Int.toNat sa)=some (I ta2),(decide (sa < ((a0).length:Int)))=true]) (by kernel_rfl) ⟨ha4,(nef ha3),(Qm Q1 ha2).1,(Qm Q1 ha2).2,(decide_eq_true ha1),trivial⟩⟩
  ·replace h:=Qk h ha3
   replace h:=Option.some.inj h
   subst h
   exact ⟨⟨100,4,[.br true,.el (I ta2),.br true],[],[2],[],Qh (ob:=[(ta2 != 0)=true,(0:Int)≤sa,nth (a0) (Int.toNat sa)=some (I ta2),(decide (sa < ((a0).length:Int)))=true]) (by kernel_rfl) ⟨(net ha3),(Qm Q1 ha2).1,(Qm Q1 ha2).2,(decide_eq_true ha1),trivial⟩⟩,nofun⟩
 ·replace h:=Qk h ha1
  replace h:=Option.some.inj h
  subst h
  exact ⟨⟨100,4,[.br false],[],[],[],Qh (ob:=[(decide (sa < ((a0).length:Int)))=false]) (by kernel_rfl) ⟨(decide_eq_false ha1),trivial⟩⟩,nofun⟩
def QA (n:Nat) (a0:List D):Option (Int) :=
 (QF (WQ n a0) n 0).bind fun t1=>match t1 with
  | (.inl t1)=>(
   some t1)
  | (.inr t1)=>(
   some 0)
theorem Qr {n:Nat} {a0:List D} {r:Int} (h:QA n a0=some r):Computes cx 30 [.lst false 1 a0] (I r):=by
 unfold QA at h
 obtain ⟨t1,h1,h⟩:=Qe h
 rcases t1 with t1 | t1
 ·replace h:=Option.some.inj h
  subst h
  exact run (n:=100) (f:=30) (args:=[.lst false 1 a0]) (orc:=[.lp [] [5,6,7] [] .ret [(2,.d (I t1))] [] 23]) (r:=I t1) (ob:=[QX cx (Qp cx.P 30 0) 15 0 false [(5,.d (.lst false 1 a0)),(6,.d (I ((a0).length:Int))),(7,.d (I 0))] [] .ret [(2,.d (I t1))] []]) (by kernel_rfl) ⟨(Qt KV h1),trivial⟩
 ·replace h:=Option.some.inj h
  subst h
  exact run (n:=100) (f:=30) (args:=[.lst false 1 a0]) (orc:=[.lp [] [5,6,7] [] (.exit 0) [] [] 23]) (r:=I 0) (ob:=[QX cx (Qp cx.P 30 0) 15 0 false [(5,.d (.lst false 1 a0)),(6,.d (I ((a0).length:Int))),(7,.d (I 0))] [] (.exit 0) [] []]) (by kernel_rfl) ⟨(Qt KV h1),trivial⟩
def ZB (n:Nat) (a0 a1:Int) (a2:List D):Option (Int) :=
 (ZR n a0 a1 a2).bind fun t1 =>
 (ZE n a2).bind fun t2 =>
 (Zu n t2 3).bind fun t3 =>
 (QA n ([I t1,I t3])).bind fun t4 =>
 some t4
theorem Wp {n:Nat} {a0 a1:Int} {a2:List D} {r:Int} (h:ZB n a0 a1 a2=some r):Computes cx 67 [.agg [I a0,I a1,.lst false 1 a2]] (I r):=by
 unfold ZB at h
 obtain ⟨t1,h1,h⟩:=Qe h
 obtain ⟨t2,h2,h⟩:=Qe h
 obtain ⟨t3,h3,h⟩:=Qe h
 obtain ⟨t4,h4,h⟩:=Qe h
 replace h:=Option.some.inj h
 subst h
 exact run (n:=100) (f:=67) (args:=[.agg [I a0,I a1,.lst false 1 a2]]) (orc:=[.ret (I t1),.ret (B t2),.ret (I t3),.ret (I t4)]) (r:=I t4) (ob:=[Computes cx 30 [.lst true 1 [I t1,I t3]] (I t4),Computes cx 34 [B t2,I 3] (I t3),Computes cx 84 [.lst false 1 a2,.fn (.func 85) [] []] (B t2),Computes cx 23 [.agg [I a0,I a1,.lst false 1 a2]] (I t1)]) (by kernel_rfl) ⟨((Qr h4).le (.cons (.full _ _ _) (.nil)) (.refl _)),(Zt h3),(KI h2),(Zc h1),trivial⟩
def Zh (n:Nat) (a0 a1:Int) (a2:List D) (a3 a4:Int) (a5:List D):Option (Int) :=
 (ZB n a0 a1 a2).bind fun t1 =>
 (ZB n a3 a4 a5).bind fun t2 =>
 (QA n ([I t1,I t2])).bind fun t3 =>
 if t3=0 then
  (Zu n (!((a0 == a3) && ((a1 == a4) && true))) 2).bind fun t5 =>
  some t5
 else
 some t3
theorem VG {n:Nat} {a0 a1:Int} {a2:List D} {a3 a4:Int} {a5:List D} {r:Int} (h:Zh n a0 a1 a2 a3 a4 a5=some r):Computes cx 31 [.agg [I a0,I a1,.lst false 1 a2],.agg [I a3,I a4,.lst false 1 a5]] (I r):=by
 unfold Zh at h
 obtain ⟨t1,h1,h⟩:=Qe h
 obtain ⟨t2,h2,h⟩:=Qe h
 obtain ⟨t3,h3,h⟩:=Qe h
 by_cases h4:t3=0
 ·replace h:=Qj h h4
  obtain ⟨t5,h5,h⟩:=Qe h
  replace h:=Option.some.inj h
  subst h
  exact run (n:=100) (f:=31) (args:=[.agg [I a0,I a1,.lst false 1 a2],.agg [I a3,I a4,.lst false 1 a5]]) (orc:=[.ret (I t1),.ret (I t2),.ret (I t3),.br false,.ret (I t5)]) (r:=I t5) (ob:=[Computes cx 34 [B (!((a0 == a3) && ((a1 == a4) && true))),I 2] (I t5),(t3 != 0)=false,Computes cx 30 [.lst true 1 [I t1,I t2]] (I t3),Computes cx 67 [.agg [I a3,I a4,.lst false 1 a5]] (I t2),Computes cx 67 [.agg [I a0,I a1,.lst false 1 a2]] (I t1)]) (by kernel_rfl) ⟨(Zt h5),(nef h4),((Qr h3).le (.cons (.full _ _ _) (.nil)) (.refl _)),(Wp h2),(Wp h1),trivial⟩
 ·replace h:=Qk h h4
  replace h:=Option.some.inj h
  subst h
  exact run (n:=100) (f:=31) (args:=[.agg [I a0,I a1,.lst false 1 a2],.agg [I a3,I a4,.lst false 1 a5]]) (orc:=[.ret (I t1),.ret (I t2),.ret (I t3),.br true]) (r:=I t3) (ob:=[(t3 != 0)=true,Computes cx 30 [.lst true 1 [I t1,I t2]] (I t3),Computes cx 67 [.agg [I a3,I a4,.lst false 1 a5]] (I t2),Computes cx 67 [.agg [I a0,I a1,.lst false 1 a2]] (I t1)]) (by kernel_rfl) ⟨(net h4),((Qr h3).le (.cons (.full _ _ _) (.nil)) (.refl _)),(Wp h2),(Wp h1),trivial⟩
def UR (n:Nat)  : Option (Int) :=
 some 3
theorem jD {n:Nat}  {r:Int} (h:UR n =some r):Computes cx 34 [B true,I 3] (I r):=by
 unfold UR at h
 replace h:=Option.some.inj h
 subst h
 exact run (n:=100) (f:=34) (args:=[B true,I 3]) (orc:=[.no]) (r:=I 3) (ob:=[]) (by kernel_rfl) trivial
def QE (n:Nat) (a0 a1 a2:Int):Option (Int) :=
 if a0 < a1 then
  (UR n).bind fun t2 =>
  some t2
 else
 (Zu n (decide (a0 > a2)) 3).bind fun t2 =>
 some t2
theorem QD {n:Nat} {a0 a1 a2:Int} {r:Int} (h:QE n a0 a1 a2=some r):Computes cx 39 [I a0,I a1,I a2] (I r):=by
 unfold QE at h
 by_cases h1:a0 < a1
 ·replace h:=Qj h h1
  obtain ⟨t2,h2,h⟩:=Qe h
  replace h:=Option.some.inj h
  subst h
  exact run (n:=100) (f:=39) (args:=[I a0,I a1,I a2]) (orc:=[.br true,.ret (I t2)]) (r:=I t2) (ob:=[Computes cx 34 [B true,I 3] (I t2),(decide (a0 < a1))=true]) (by kernel_rfl) ⟨(jD h2),(decide_eq_true h1),trivial⟩
 ·replace h:=Qk h h1
  obtain ⟨t2,h2,h⟩:=Qe h
  replace h:=Option.some.inj h
  subst h
  exact run (n:=100) (f:=39) (args:=[I a0,I a1,I a2]) (orc:=[.br false,.ret (I t2)]) (r:=I t2) (ob:=[Computes cx 34 [B (decide (a0 > a2)),I 3] (I t2),(decide (a0 < a1))=false]) (by kernel_rfl) ⟨(Zt h2),(decide_eq_false h1),trivial⟩
def QV (n:Nat) (a0 a1:Int) (a2:List D) (a3 a4:Int) (a5:List D) (a6 a7:Int):Option (Int) :=
 (Zh n a0 a1 a2 a3 a4 a5).bind fun t1 =>
 (QE n a6 0 8).bind fun t2 =>
 (QE n a7 1 4096).bind fun t3 =>
 (QA n ([I t1,I t2,I t3])).bind fun t4 =>
 some t4
theorem QU {n:Nat} {a0 a1:Int} {a2:List D} {a3 a4:Int} {a5:List D} {a6 a7:Int} {r:Int} (h:QV n a0 a1 a2 a3 a4 a5 a6 a7=some r):Computes cx 35 [.agg [I a0,I a1,.lst false 1 a2],.agg [I a3,I a4,.lst false 1 a5],I a6,I a7] (I r):=by
 unfold QV at h
 obtain ⟨t1,h1,h⟩:=Qe h
 obtain ⟨t2,h2,h⟩:=Qe h
 obtain ⟨t3,h3,h⟩:=Qe h
 obtain ⟨t4,h4,h⟩:=Qe h
 replace h:=Option.some.inj h
 subst h
 exact run (n:=100) (f:=35) (args:=[.agg [I a0,I a1,.lst false 1 a2],.agg [I a3,I a4,.lst false 1 a5],I a6,I a7]) (orc:=[.ret (I t1),.ret (I t2),.ret (I t3),.ret (I t4)]) (r:=I t4) (ob:=[Computes cx 30 [.lst true 1 [I t1,I t2,I t3]] (I t4),Computes cx 39 [I a7,I 1,I 4096] (I t3),Computes cx 39 [I a6,I 0,I 8] (I t2),Computes cx 31 [.agg [I a0,I a1,.lst false 1 a2],.agg [I a3,I a4,.lst false 1 a5]] (I t1)]) (by kernel_rfl) ⟨((Qr h4).le (.cons (.full _ _ _) (.nil)) (.refl _)),(QD h3),(QD h2),(VG h1),trivial⟩
def ZH (n:Nat) (a0:Nat):Option (Int) :=
 if (fop .mul .f32 1098907648 a0).isSome=true then
 if (f2i .f32 ((fop .mul .f32 1098907648 a0).getD 0) .i64).isSome=true then
 some ((f2i .f32 ((fop .mul .f32 1098907648 a0).getD 0) .i64).getD 0)
 else none
 else none
theorem QQ {n:Nat} {a0:Nat} {r:Int} (h:ZH n a0=some r):Computes cx 69 [.v (.float .f32 a0)] (I r):=by
 unfold ZH at h
 obtain ⟨h1,h⟩:=Qg h
 obtain ⟨h2,h⟩:=Qg h
 replace h:=Option.some.inj h
 subst h
 exact run (n:=100) (f:=69) (args:=[.v (.float .f32 a0)]) (orc:=[]) (r:=I ((f2i .f32 ((fop .mul .f32 1098907648 a0).getD 0) .i64).getD 0)) (ob:=[(f2i .f32 ((fop .mul .f32 1098907648 a0).getD 0) .i64).isSome=true,(fop .mul .f32 1098907648 a0).isSome=true]) (by kernel_rfl) ⟨h2,h1,trivial⟩
def VB (n:Nat) (a0 a1 a2 a3:Int):Option (Int×Int) :=
 if Qb (a0+a2) then
 if Qb (a1+a3) then
 some ((a0+a2),(a1+a3))
 else none
 else none
theorem Vx {n:Nat} {a0 a1 a2 a3:Int} {r:Int×Int} (h:VB n a0 a1 a2 a3=some r):Computes cx 51 [.agg [I a0,I a1],.agg [I a2,I a3]] (.agg [I r.1,I r.2]):=by
 unfold VB at h
 obtain ⟨h1,h⟩:=Qg h
 obtain ⟨h2,h⟩:=Qg h
 replace h:=Option.some.inj h
 subst h
 exact run (n:=100) (f:=51) (args:=[.agg [I a0,I a1],.agg [I a2,I a3]]) (orc:=[]) (r:=.agg [I (a0+a2),I (a1+a3)]) (ob:=[Qb (a1+a3),Qb (a0+a2)]) (by kernel_rfl) ⟨h2,h1,trivial⟩
def Wu (n:Nat) (a0 a1:Int) (a2:List D) (a3 a4:Int) (a5:List D) (a6 a7:Int) (sa:(Int×Int×Int)):Option (((Int×Int×Int))⊕((Int×Int))) :=
 if sa.1 < ((a2).length:Int) then
  (el VQ a2 sa.1).bind fun ta2 =>
  if a0≠0 then
  if Qb (Int.tdiv sa.1 a0) then
  (ZH n ta2).bind fun ta5 =>
  (VB n (Int.tmod sa.1 a0) (Int.tdiv sa.1 a0) a6 a7).bind fun ta6 =>
  if ta6.1 < 0 then
   if Qb (sa.1+1) then
   some (.inl ((sa.1+1),sa.2.1,sa.2.2))
   else none
  else
  if ta6.1 ≥ a3 then
   if Qb (sa.1+1) then
   some (.inl ((sa.1+1),sa.2.1,sa.2.2))
   else none
  else
  if ta6.2 < 0 then
   if Qb (sa.1+1) then
   some (.inl ((sa.1+1),sa.2.1,sa.2.2))
   else none
  else
  if ta6.2 ≥ a4 then
   if Qb (sa.1+1) then
   some (.inl ((sa.1+1),sa.2.1,sa.2.2))
   else none
  else
  if Qb (ta6.2 * a3) then
  if Qb ((ta6.2 * a3)+ta6.1) then
  (el VQ a5 ((ta6.2 * a3)+ta6.1)).bind fun ta13 =>
  (ZH n ta13).bind fun ta14 =>
  if Qb (ta5 - ta14) then
  if Qb ((ta5 - ta14) * (ta5 - ta14)) then
  if Qb (sa.2.1+((ta5 - ta14) * (ta5 - ta14))) then
  if Qb (sa.2.2+1) then
  if Qb (sa.1+1) then
  some (.inl ((sa.1+1),(sa.2.1+((ta5 - ta14) * (ta5 - ta14))),(sa.2.2+1)))
  else none
  else none
  else none
  else none
  else none
  else none
  else none
  else none
  else none
 else
 some (.inr (sa.2.1,sa.2.2))
noncomputable def jV (a0 a1:Int) (a2:List D) (a3 a4:Int) (a5:List D) (a6 a7:Int) (sa:(Int×Int×Int)):List (Nat×AV):=[(0,.own 14 0),(1,.ptr 10 0 0 0 0),(6,.d (.lst false 1 a2)),(7,.d (I ((a2).length:Int))),(8,.d (I sa.1))]
noncomputable def jY (a0 a1:Int) (a2:List D) (a3 a4:Int) (a5:List D) (a6 a7:Int) (sa:(Int×Int×Int)):List (Nat×Blk):=[(0,.box (.d (.agg [I a0,I a1,.lst false 1 a2]))),(1,.box (.d (.agg [I a3,I a4,.lst false 1 a5]))),(2,.box (.d (.agg [I a6,I a7]))),(3,.box (.d (.agg [I 0,I 0,I 0,I 0]))),(6,.box (.d (.agg [I a6,I a7,I sa.2.1,I sa.2.2]))),(10,.box (.d (.agg [I a0,I a1,.lst false 1 a2]))),(14,.loop true [(15,.fn (.func 86) [] [.ptr 10 0 0 0 0]),(14,.d (.agg [I a0,I a1,.lst false 1 a2])),(13,.d (.agg [I a6,I a7,I 0,I 0])),(12,.d (.agg [I a6,I a7])),(7,.ptr 6 0 0 0 0),(6,.ptr 3 0 0 0 0),(5,.ptr 2 0 0 0 0),(4,.ptr 1 0 0 0 0),(3,.ptr 0 0 0 0 0),(2,.d (.agg [I a6,I a7])),(1,.d (.agg [I a3,I a4,.lst false 1 a5])),(0,.d (.agg [I a0,I a1,.lst false 1 a2]))] [16,17] (Qu cx.P 33 0).1 (Qu cx.P 33 0).2 70)]
noncomputable def jR (a0 a1:Int) (a2:List D) (a3 a4:Int) (a5:List D) (a6 a7:Int) (e:(Int×Int)):Ex:=(.exit 0)
noncomputable def wk (a0 a1:Int) (a2:List D) (a3 a4:Int) (a5:List D) (a6 a7:Int) (e:(Int×Int)):List (Nat×AV):=[]
noncomputable def wm (a0 a1:Int) (a2:List D) (a3 a4:Int) (a5:List D) (a6 a7:Int) (e:(Int×Int)):List (Nat×Blk):=[(0,.box (.d (.agg [I a0,I a1,.lst false 1 a2]))),(1,.box (.d (.agg [I a3,I a4,.lst false 1 a5]))),(2,.box (.d (.agg [I a6,I a7]))),(3,.box (.d (.agg [I 0,I 0,I 0,I 0]))),(6,.box (.d (.agg [I a6,I a7,I e.1,I e.2]))),(10,.box (.d (.agg [I a0,I a1,.lst false 1 a2]))),(14,.loop true [(15,.fn (.func 86) [] [.ptr 10 0 0 0 0]),(14,.d (.agg [I a0,I a1,.lst false 1 a2])),(13,.d (.agg [I a6,I a7,I 0,I 0])),(12,.d (.agg [I a6,I a7])),(7,.ptr 6 0 0 0 0),(6,.ptr 3 0 0 0 0),(5,.ptr 2 0 0 0 0),(4,.ptr 1 0 0 0 0),(3,.ptr 0 0 0 0 0),(2,.d (.agg [I a6,I a7])),(1,.d (.agg [I a3,I a4,.lst false 1 a5])),(0,.d (.agg [I a0,I a1,.lst false 1 a2]))] [16,17] (Qu cx.P 33 0).1 (Qu cx.P 33 0).2 70)]
theorem jW {n:Nat} {a0 a1:Int} {a2:List D} {a3 a4:Int} {a5:List D} {a6 a7:Int} (sa:(Int×Int×Int)) (r) (h:Wu n a0 a1 a2 a3 a4 a5 a6 a7 sa=some r):Rd cx (Qp cx.P 86 0) 28 15 false (jV a0 a1 a2 a3 a4 a5 a6 a7) (jY a0 a1 a2 a3 a4 a5 a6 a7) (jR a0 a1 a2 a3 a4 a5 a6 a7) (wk a0 a1 a2 a3 a4 a5 a6 a7) (wm a0 a1 a2 a3 a4 a5 a6 a7) sa r:=by
 unfold Wu at h
 by_cases ha1:sa.1 < ((a2).length:Int)
 ·replace h:=Qj h ha1
  obtain ⟨ta2,ha2,h⟩:=Qe h
  obtain ⟨ha3,h⟩:=Qg h
  obtain ⟨ha4,h⟩:=Qg h
  obtain ⟨ta5,ha5,h⟩:=Qe h
  obtain ⟨ta6,ha6,h⟩:=Qe h
  by_cases ha7:ta6.1 < 0
  ·replace h:=Qj h ha7
   obtain ⟨ha8,h⟩:=Qg h
   replace h:=Option.some.inj h
   subst h
   exact ⟨100,19,[.br true,.el (.v (.float .f32 ta2)),.ret (I ta5),.ret (.agg [I ta6.1,I ta6.2]),.br true,.no,.no,.no,.no],[],[0,1,6,7,8],[0,1,2,3,6,10,14],Qh (ob:=[Qb (sa.1+1),(decide (ta6.1 < 0))=true,Computes cx 51 [.agg [I (Int.tmod sa.1 a0),I (Int.tdiv sa.1 a0)],.agg [I a6,I a7]] (.agg [I ta6.1,I ta6.2]),Computes cx 69 [.v (.float .f32 ta2)] (I ta5),a0≠0,Qb (Int.tdiv sa.1 a0),a0≠0,(0:Int)≤sa.1,nth (a2) (Int.toNat sa.1)=some (.v (.float .f32 ta2)),(decide (sa.1 < ((a2).length:Int)))=true]) (by kernel_rfl) ⟨ha8,(decide_eq_true ha7),(Vx ha6),(QQ ha5),ha3,ha4,ha3,(Qm Qo ha2).1,(Qm Qo ha2).2,(decide_eq_true ha1),trivial⟩⟩
  ·replace h:=Qk h ha7
   by_cases ha8:ta6.1 ≥ a3
   ·replace h:=Qj h ha8
    obtain ⟨ha9,h⟩:=Qg h
    replace h:=Option.some.inj h
    subst h
    exact ⟨100,19,[.br true,.el (.v (.float .f32 ta2)),.ret (I ta5),.ret (.agg [I ta6.1,I ta6.2]),.br false,.br true,.no,.no,.no],[],[0,1,6,7,8],[0,1,2,3,6,10,14],Qh (ob:=[Qb (sa.1+1),(decide (ta6.1 ≥ a3))=true,(decide (ta6.1 < 0))=false,Computes cx 51 [.agg [I (Int.tmod sa.1 a0),I (Int.tdiv sa.1 a0)],.agg [I a6,I a7]] (.agg [I ta6.1,I ta6.2]),Computes cx 69 [.v (.float .f32 ta2)] (I ta5),a0≠0,Qb (Int.tdiv sa.1 a0),a0≠0,(0:Int)≤sa.1,nth (a2) (Int.toNat sa.1)=some (.v (.float .f32 ta2)),(decide (sa.1 < ((a2).length:Int)))=true]) (by kernel_rfl) ⟨ha9,(decide_eq_true ha8),(decide_eq_false ha7),(Vx ha6),(QQ ha5),ha3,ha4,ha3,(Qm Qo ha2).1,(Qm Qo ha2).2,(decide_eq_true ha1),trivial⟩⟩
   ·replace h:=Qk h ha8
    by_cases ha9:ta6.2 < 0
    ·replace h:=Qj h ha9
     obtain ⟨ha10,h⟩:=Qg h
     replace h:=Option.some.inj h
     subst h
     exact ⟨100,19,[.br true,.el (.v (.float .f32 ta2)),.ret (I ta5),.ret (.agg [I ta6.1,I ta6.2]),.br false,.br false,.br true,.no,.no],[],[0,1,6,7,8],[0,1,2,3,6,10,14],Qh (ob:=[Qb (sa.1+1),(decide (ta6.2 < 0))=true,(decide (ta6.1 ≥ a3))=false,(decide (ta6.1 < 0))=false,Computes cx 51 [.agg [I (Int.tmod sa.1 a0),I (Int.tdiv sa.1 a0)],.agg [I a6,I a7]] (.agg [I ta6.1,I ta6.2]),Computes cx 69 [.v (.float .f32 ta2)] (I ta5),a0≠0,Qb (Int.tdiv sa.1 a0),a0≠0,(0:Int)≤sa.1,nth (a2) (Int.toNat sa.1)=some (.v (.float .f32 ta2)),(decide (sa.1 < ((a2).length:Int)))=true]) (by kernel_rfl) ⟨ha10,(decide_eq_true ha9),(decide_eq_false ha8),(decide_eq_false ha7),(Vx ha6),(QQ ha5),ha3,ha4,ha3,(Qm Qo ha2).1,(Qm Qo ha2).2,(decide_eq_true ha1),trivial⟩⟩
    ·replace h:=Qk h ha9
     by_cases ha10:ta6.2 ≥ a4
     ·replace h:=Qj h ha10
      obtain ⟨ha11,h⟩:=Qg h
      replace h:=Option.some.inj h
      subst h
      exact ⟨100,19,[.br true,.el (.v (.float .f32 ta2)),.ret (I ta5),.ret (.agg [I ta6.1,I ta6.2]),.br false,.br false,.br false,.br true,.no],[],[0,1,6,7,8],[0,1,2,3,6,10,14],Qh (ob:=[Qb (sa.1+1),(decide (ta6.2 ≥ a4))=true,(decide (ta6.2 < 0))=false,(decide (ta6.1 ≥ a3))=false,(decide (ta6.1 < 0))=false,Computes cx 51 [.agg [I (Int.tmod sa.1 a0),I (Int.tdiv sa.1 a0)],.agg [I a6,I a7]] (.agg [I ta6.1,I ta6.2]),Computes cx 69 [.v (.float .f32 ta2)] (I ta5),a0≠0,Qb (Int.tdiv sa.1 a0),a0≠0,(0:Int)≤sa.1,nth (a2) (Int.toNat sa.1)=some (.v (.float .f32 ta2)),(decide (sa.1 < ((a2).length:Int)))=true]) (by kernel_rfl) ⟨ha11,(decide_eq_true ha10),(decide_eq_false ha9),(decide_eq_false ha8),(decide_eq_false ha7),(Vx ha6),(QQ ha5),ha3,ha4,ha3,(Qm Qo ha2).1,(Qm Qo ha2).2,(decide_eq_true ha1),trivial⟩⟩
     ·replace h:=Qk h ha10
      obtain ⟨ha11,h⟩:=Qg h
      obtain ⟨ha12,h⟩:=Qg h
      obtain ⟨ta13,ha13,h⟩:=Qe h
      obtain ⟨ta14,ha14,h⟩:=Qe h
      obtain ⟨ha15,h⟩:=Qg h
      obtain ⟨ha16,h⟩:=Qg h
      obtain ⟨ha17,h⟩:=Qg h
      obtain ⟨ha18,h⟩:=Qg h
      obtain ⟨ha19,h⟩:=Qg h
      replace h:=Option.some.inj h
      subst h
      exact ⟨100,19,[.br true,.el (.v (.float .f32 ta2)),.ret (I ta5),.ret (.agg [I ta6.1,I ta6.2]),.br false,.br false,.br false,.br false,.el (.v (.float .f32 ta13)),.ret (I ta14),.no],[],[0,1,6,7,8],[0,1,2,3,6,10,14],Qh (ob:=[Qb (sa.1+1),Qb (sa.2.2+1),Qb (sa.2.1+((ta5 - ta14) * (ta5 - ta14))),Qb ((ta5 - ta14) * (ta5 - ta14)),Qb (ta5 - ta14),Computes cx 69 [.v (.float .f32 ta13)] (I ta14),(0:Int)≤((ta6.2 * a3)+ta6.1),nth (a5) (Int.toNat ((ta6.2 * a3)+ta6.1))=some (.v (.float .f32 ta13)),Qb ((ta6.2 * a3)+ta6.1),Qb (ta6.2 * a3),(decide (ta6.2 ≥ a4))=false,(decide (ta6.2 < 0))=false,(decide (ta6.1 ≥ a3))=false,(decide (ta6.1 < 0))=false,Computes cx 51 [.agg [I (Int.tmod sa.1 a0),I (Int.tdiv sa.1 a0)],.agg [I a6,I a7]] (.agg [I ta6.1,I ta6.2]),Computes cx 69 [.v (.float .f32 ta2)] (I ta5),a0≠0,Qb (Int.tdiv sa.1 a0),a0≠0,(0:Int)≤sa.1,nth (a2) (Int.toNat sa.1)=some (.v (.float .f32 ta2)),(decide (sa.1 < ((a2).length:Int)))=true]) (by kernel_rfl) ⟨ha19,ha18,ha17,ha16,ha15,(QQ ha14),(Qm Qo ha13).1,(Qm Qo ha13).2,ha12,ha11,(decide_eq_false ha10),(decide_eq_false ha9),(decide_eq_false ha8),(decide_eq_false ha7),(Vx ha6),(QQ ha5),ha3,ha4,ha3,(Qm Qo ha2).1,(Qm Qo ha2).2,(decide_eq_true ha1),trivial⟩⟩
 ·replace h:=Qk h ha1
  replace h:=Option.some.inj h
  subst h
  exact ⟨⟨100,19,[.br false],[],[],[0,1,2,3,6,10,14],Qh (ob:=[(decide (sa.1 < ((a2).length:Int)))=false]) (by kernel_rfl) ⟨(decide_eq_false ha1),trivial⟩⟩,nofun⟩
def V8 (n:Nat) (a0 a1:Int) (a2:List D) (a3 a4:Int) (a5:List D) (a6 a7:Int):Option (Int×Int×Int×Int) :=
 (QF (Wu n a0 a1 a2 a3 a4 a5 a6 a7) n (0,0,0)).bind fun t1 =>
 some (a6,a7,t1.1,t1.2)
theorem GK {n:Nat} {a0 a1:Int} {a2:List D} {a3 a4:Int} {a5:List D} {a6 a7:Int} {r:Int×Int×Int×Int} (h:V8 n a0 a1 a2 a3 a4 a5 a6 a7=some r):Computes cx 33 [.agg [I a0,I a1,.lst false 1 a2],.agg [I a3,I a4,.lst false 1 a5],.agg [I a6,I a7]] (.agg [I r.1,I r.2.1,I r.2.2.1,I r.2.2.2]):=by
 unfold V8 at h
 obtain ⟨t1,h1,h⟩:=Qe h
 replace h:=Option.some.inj h
 subst h
 exact run (n:=100) (f:=33) (args:=[.agg [I a0,I a1,.lst false 1 a2],.agg [I a3,I a4,.lst false 1 a5],.agg [I a6,I a7]]) (orc:=[.br true,.lp [] [0,1,6,7,8] [0,1,2,3,6,10,14] (.exit 0) [] [(0,.box (.d (.agg [I a0,I a1,.lst false 1 a2]))),(1,.box (.d (.agg [I a3,I a4,.lst false 1 a5]))),(2,.box (.d (.agg [I a6,I a7]))),(3,.box (.d (.agg [I 0,I 0,I 0,I 0]))),(6,.box (.d (.agg [I a6,I a7,I t1.1,I t1.2]))),(10,.box (.d (.agg [I a0,I a1,.lst false 1 a2]))),(14,.loop true [(15,.fn (.func 86) [] [.ptr 10 0 0 0 0]),(14,.d (.agg [I a0,I a1,.lst false 1 a2])),(13,.d (.agg [I a6,I a7,I 0,I 0])),(12,.d (.agg [I a6,I a7])),(7,.ptr 6 0 0 0 0),(6,.ptr 3 0 0 0 0),(5,.ptr 2 0 0 0 0),(4,.ptr 1 0 0 0 0),(3,.ptr 0 0 0 0 0),(2,.d (.agg [I a6,I a7])),(1,.d (.agg [I a3,I a4,.lst false 1 a5])),(0,.d (.agg [I a0,I a1,.lst false 1 a2]))] [16,17] (Qu cx.P 33 0).1 (Qu cx.P 33 0).2 70)] 111]) (r:=.agg [I a6,I a7,I t1.1,I t1.2]) (ob:=[QX cx (Qp cx.P 86 0) 28 15 false [(0,.own 14 0),(1,.ptr 10 0 0 0 0),(6,.d (.lst false 1 a2)),(7,.d (I ((a2).length:Int))),(8,.d (I 0))] [(0,.box (.d (.agg [I a0,I a1,.lst false 1 a2]))),(1,.box (.d (.agg [I a3,I a4,.lst false 1 a5]))),(2,.box (.d (.agg [I a6,I a7]))),(3,.box (.d (.agg [I 0,I 0,I 0,I 0]))),(6,.box (.d (.agg [I a6,I a7,I 0,I 0]))),(10,.box (.d (.agg [I a0,I a1,.lst false 1 a2]))),(14,.loop true [(15,.fn (.func 86) [] [.ptr 10 0 0 0 0]),(14,.d (.agg [I a0,I a1,.lst false 1 a2])),(13,.d (.agg [I a6,I a7,I 0,I 0])),(12,.d (.agg [I a6,I a7])),(7,.ptr 6 0 0 0 0),(6,.ptr 3 0 0 0 0),(5,.ptr 2 0 0 0 0),(4,.ptr 1 0 0 0 0),(3,.ptr 0 0 0 0 0),(2,.d (.agg [I a6,I a7])),(1,.d (.agg [I a3,I a4,.lst false 1 a5])),(0,.d (.agg [I a0,I a1,.lst false 1 a2]))] [16,17] (Qu cx.P 33 0).1 (Qu cx.P 33 0).2 70)] (.exit 0) [] [(0,.box (.d (.agg [I a0,I a1,.lst false 1 a2]))),(1,.box (.d (.agg [I a3,I a4,.lst false 1 a5]))),(2,.box (.d (.agg [I a6,I a7]))),(3,.box (.d (.agg [I 0,I 0,I 0,I 0]))),(6,.box (.d (.agg [I a6,I a7,I t1.1,I t1.2]))),(10,.box (.d (.agg [I a0,I a1,.lst false 1 a2]))),(14,.loop true [(15,.fn (.func 86) [] [.ptr 10 0 0 0 0]),(14,.d (.agg [I a0,I a1,.lst false 1 a2])),(13,.d (.agg [I a6,I a7,I 0,I 0])),(12,.d (.agg [I a6,I a7])),(7,.ptr 6 0 0 0 0),(6,.ptr 3 0 0 0 0),(5,.ptr 2 0 0 0 0),(4,.ptr 1 0 0 0 0),(3,.ptr 0 0 0 0 0),(2,.d (.agg [I a6,I a7])),(1,.d (.agg [I a3,I a4,.lst false 1 a5])),(0,.d (.agg [I a0,I a1,.lst false 1 a2]))] [16,17] (Qu cx.P 33 0).1 (Qu cx.P 33 0).2 70)]]) (by kernel_rfl) ⟨(Qt jW h1),trivial⟩
def Q8 (n:Nat) (a0 a1:Int) (a2:List D) (a3 a4:Int) (a5:List D) (a6 a7:Int) (sa:Int×List D) (sb:(Int×List D)):Option (((Int×List D))⊕((List D))) :=
 if sb.1 < ((2 * a6)+1) then
  if Qb (sb.1 - a6) then
  if Qb (sa.1 - a6) then
  (V8 n a0 a1 a2 a3 a4 a5 (sb.1 - a6) (sa.1 - a6)).bind fun tb4 =>
  if tb4.2.2.2 ≥ a7 then
   if Wm 32 ((sb.2).length+1) then
   if Qb (sb.1+1) then
   some (.inl ((sb.1+1),(sb.2++([.agg [I tb4.1,I tb4.2.1,I tb4.2.2.1,I tb4.2.2.2]]:List D))))
   else none
   else none
  else
  if Qb (sb.1+1) then
  some (.inl ((sb.1+1),sb.2))
  else none
  else none
  else none
 else
 some (.inr sb.2)
noncomputable def GZ (a0 a1:Int) (a2:List D) (a3 a4:Int) (a5:List D) (a6 a7:Int) (sa:Int×List D) (sb:(Int×List D)):List (Nat×AV):=[(2,.d (I a6)),(3,.d (I a7)),(4,.ptr 0 0 0 0 0),(5,.ptr 1 0 0 0 0),(9,.own 8 0),(10,.d (I sa.1)),(15,.d (I ((2 * a6)+1))),(16,.d (I sa.1)),(21,.d (I ((2 * a6)+1))),(22,.d (I sb.1))]
noncomputable def G6 (a0 a1:Int) (a2:List D) (a3 a4:Int) (a5:List D) (a6 a7:Int) (sa:Int×List D) (sb:(Int×List D)):List (Nat×Blk):=[(0,.box (.d (.agg [I a0,I a1,.lst false 1 a2]))),(1,.box (.d (.agg [I a3,I a4,.lst false 1 a5]))),(8,.row 0 4 sb.2)]
noncomputable def GS (a0 a1:Int) (a2:List D) (a3 a4:Int) (a5:List D) (a6 a7:Int) (sa:Int×List D) (e:(List D)):Ex:=(.exit 2)
noncomputable def J5 (a0 a1:Int) (a2:List D) (a3 a4:Int) (a5:List D) (a6 a7:Int) (sa:Int×List D) (e:(List D)):List (Nat×AV):=[(2,.d (I a6)),(3,.d (I a7)),(4,.ptr 0 0 0 0 0),(5,.ptr 1 0 0 0 0),(9,.own 8 0),(15,.d (I ((2 * a6)+1))),(16,.d (I sa.1))]
noncomputable def J8 (a0 a1:Int) (a2:List D) (a3 a4:Int) (a5:List D) (a6 a7:Int) (sa:Int×List D) (e:(List D)):List (Nat×Blk):=[(0,.box (.d (.agg [I a0,I a1,.lst false 1 a2]))),(1,.box (.d (.agg [I a3,I a4,.lst false 1 a5]))),(8,.row 0 4 e)]
theorem G2 {n:Nat} {a0 a1:Int} {a2:List D} {a3 a4:Int} {a5:List D} {a6 a7:Int} {sa:Int×List D} (sb:(Int×List D)) (r) (h:Q8 n a0 a1 a2 a3 a4 a5 a6 a7 sa sb=some r):Rd cx (Qp cx.P 36 1) 48 0 false (GZ a0 a1 a2 a3 a4 a5 a6 a7 sa) (G6 a0 a1 a2 a3 a4 a5 a6 a7 sa) (GS a0 a1 a2 a3 a4 a5 a6 a7 sa) (J5 a0 a1 a2 a3 a4 a5 a6 a7 sa) (J8 a0 a1 a2 a3 a4 a5 a6 a7 sa) sb r:=by
 unfold Q8 at h
 by_cases hb1:sb.1 < ((2 * a6)+1)
 ·replace h:=Qj h hb1
  obtain ⟨hb2,h⟩:=Qg h
  obtain ⟨hb3,h⟩:=Qg h
  obtain ⟨tb4,hb4,h⟩:=Qe h
  by_cases hb5:tb4.2.2.2 ≥ a7
  ·replace h:=Qj h hb5
   obtain ⟨hb6,h⟩:=Qg h
   obtain ⟨hb7,h⟩:=Qg h
   replace h:=Option.some.inj h
   subst h
   exact ⟨100,16,[.br true,.ret (.agg [I tb4.1,I tb4.2.1,I tb4.2.2.1,I tb4.2.2.2]),.br true,.br true],[],[2,3,4,5,9,10,15,16,21,22],[0,1,8],Qh (ob:=[Qb (sb.1+1),room cx 84 ((sb.2).length+1),(decide (tb4.2.2.2 ≥ a7))=true,Computes cx 33 [.agg [I a0,I a1,.lst false 1 a2],.agg [I a3,I a4,.lst false 1 a5],.agg [I (sb.1 - a6),I (sa.1 - a6)]] (.agg [I tb4.1,I tb4.2.1,I tb4.2.2.1,I tb4.2.2.2]),Qb (sa.1 - a6),Qb (sb.1 - a6),(decide (sb.1 < ((2 * a6)+1)))=true]) (by kernel_rfl) ⟨hb7,(Qv (b:=32) (by kernel_rfl) (by decide) hb6),(decide_eq_true hb5),(GK hb4),hb3,hb2,(decide_eq_true hb1),trivial⟩⟩
  ·replace h:=Qk h hb5
   obtain ⟨hb6,h⟩:=Qg h
   replace h:=Option.some.inj h
   subst h
   exact ⟨100,16,[.br true,.ret (.agg [I tb4.1,I tb4.2.1,I tb4.2.2.1,I tb4.2.2.2]),.br false],[],[2,3,4,5,9,10,15,16,21,22],[0,1,8],Qh (ob:=[Qb (sb.1+1),(decide (tb4.2.2.2 ≥ a7))=false,Computes cx 33 [.agg [I a0,I a1,.lst false 1 a2],.agg [I a3,I a4,.lst false 1 a5],.agg [I (sb.1 - a6),I (sa.1 - a6)]] (.agg [I tb4.1,I tb4.2.1,I tb4.2.2.1,I tb4.2.2.2]),Qb (sa.1 - a6),Qb (sb.1 - a6),(decide (sb.1 < ((2 * a6)+1)))=true]) (by kernel_rfl) ⟨hb6,(decide_eq_false hb5),(GK hb4),hb3,hb2,(decide_eq_true hb1),trivial⟩⟩
 ·replace h:=Qk h hb1
  replace h:=Option.some.inj h
  subst h
  exact ⟨⟨100,16,[.br false],[],[2,3,4,5,9,15,16],[0,1,8],Qh (ob:=[(decide (sb.1 < ((2 * a6)+1)))=false]) (by kernel_rfl) ⟨(decide_eq_false hb1),trivial⟩⟩,nofun⟩
def QJ (n:Nat) (a0 a1:Int) (a2:List D) (a3 a4:Int) (a5:List D) (a6 a7:Int) (sa:(Int×List D)):Option (((Int×List D))⊕((List D))) :=
 if sa.1 < ((2 * a6)+1) then
  if Qb (2 * a6) then
  if Qb ((2 * a6)+1) then
  (QF (Q8 n a0 a1 a2 a3 a4 a5 a6 a7 sa) n (0,sa.2)).bind fun ta4 =>
  if Qb (sa.1+1) then
  some (.inl ((sa.1+1),ta4))
  else none
  else none
  else none
 else
 some (.inr sa.2)
noncomputable def GY (a0 a1:Int) (a2:List D) (a3 a4:Int) (a5:List D) (a6 a7:Int) (sa:(Int×List D)):List (Nat×AV):=[(2,.d (I a6)),(3,.d (I a7)),(4,.ptr 0 0 0 0 0),(5,.ptr 1 0 0 0 0),(9,.own 8 0),(15,.d (I ((2 * a6)+1))),(16,.d (I sa.1))]
noncomputable def G5 (a0 a1:Int) (a2:List D) (a3 a4:Int) (a5:List D) (a6 a7:Int) (sa:(Int×List D)):List (Nat×Blk):=[(0,.box (.d (.agg [I a0,I a1,.lst false 1 a2]))),(1,.box (.d (.agg [I a3,I a4,.lst false 1 a5]))),(8,.row 0 4 sa.2)]
noncomputable def GR (a0 a1:Int) (a2:List D) (a3 a4:Int) (a5:List D) (a6 a7:Int) (e:(List D)):Ex:=(.exit 0)
noncomputable def J4 (a0 a1:Int) (a2:List D) (a3 a4:Int) (a5:List D) (a6 a7:Int) (e:(List D)):List (Nat×AV):=[(9,.own 8 0)]
noncomputable def J7 (a0 a1:Int) (a2:List D) (a3 a4:Int) (a5:List D) (a6 a7:Int) (e:(List D)):List (Nat×Blk):=[(8,.row 0 4 e)]
theorem G1 {n:Nat} {a0 a1:Int} {a2:List D} {a3 a4:Int} {a5:List D} {a6 a7:Int} (sa:(Int×List D)) (r) (h:QJ n a0 a1 a2 a3 a4 a5 a6 a7 sa=some r):Rd cx (Qp cx.P 36 0) 48 0 false (GY a0 a1 a2 a3 a4 a5 a6 a7) (G5 a0 a1 a2 a3 a4 a5 a6 a7) (GR a0 a1 a2 a3 a4 a5 a6 a7) (J4 a0 a1 a2 a3 a4 a5 a6 a7) (J7 a0 a1 a2 a3 a4 a5 a6 a7) sa r:=by
 unfold QJ at h
 by_cases ha1:sa.1 < ((2 * a6)+1)
 ·replace h:=Qj h ha1
  obtain ⟨ha2,h⟩:=Qg h
  obtain ⟨ha3,h⟩:=Qg h
  obtain ⟨ta4,ha4,h⟩:=Qe h
  obtain ⟨ha5,h⟩:=Qg h
  replace h:=Option.some.inj h
  subst h
  exact ⟨100,9,[.br true,.lp [] [2,3,4,5,9,10,15,16,21,22] [0,1,8] (.exit 2) [(2,.d (I a6)),(3,.d (I a7)),(4,.ptr 0 0 0 0 0),(5,.ptr 1 0 0 0 0),(9,.own 8 0),(15,.d (I ((2 * a6)+1))),(16,.d (I sa.1))] [(0,.box (.d (.agg [I a0,I a1,.lst false 1 a2]))),(1,.box (.d (.agg [I a3,I a4,.lst false 1 a5]))),(8,.row 0 4 ta4)] 53],[],[2,3,4,5,9,15,16],[0,1,8],Qh (ob:=[Qb (sa.1+1),QX cx (Qp cx.P 36 1) 48 0 false [(2,.d (I a6)),(3,.d (I a7)),(4,.ptr 0 0 0 0 0),(5,.ptr 1 0 0 0 0),(9,.own 8 0),(10,.d (I sa.1)),(15,.d (I ((2 * a6)+1))),(16,.d (I sa.1)),(21,.d (I ((2 * a6)+1))),(22,.d (I 0))] [(0,.box (.d (.agg [I a0,I a1,.lst false 1 a2]))),(1,.box (.d (.agg [I a3,I a4,.lst false 1 a5]))),(8,.row 0 4 sa.2)] (.exit 2) [(2,.d (I a6)),(3,.d (I a7)),(4,.ptr 0 0 0 0 0),(5,.ptr 1 0 0 0 0),(9,.own 8 0),(15,.d (I ((2 * a6)+1))),(16,.d (I sa.1))] [(0,.box (.d (.agg [I a0,I a1,.lst false 1 a2]))),(1,.box (.d (.agg [I a3,I a4,.lst false 1 a5]))),(8,.row 0 4 ta4)],Qb ((2 * a6)+1),Qb (2 * a6),(decide (sa.1 < ((2 * a6)+1)))=true]) (by kernel_rfl) ⟨ha5,(Qt G2 ha4),ha3,ha2,(decide_eq_true ha1),trivial⟩⟩
 ·replace h:=Qk h ha1
  replace h:=Option.some.inj h
  subst h
  exact ⟨⟨100,9,[.br false],[],[9],[8],Qh (ob:=[(decide (sa.1 < ((2 * a6)+1)))=false]) (by kernel_rfl) ⟨(decide_eq_false ha1),trivial⟩⟩,nofun⟩
def Zl (n:Nat) (a0 a1:Int) (a2:List D) (a3 a4:Int) (a5:List D) (a6 a7:Int):Option (List D) :=
 if Qb (2 * a6) then
 if Qb ((2 * a6)+1) then
 (QF (QJ n a0 a1 a2 a3 a4 a5 a6 a7) n (0,[])).bind fun t3 =>
 if We t3=false then
 (Wa n t3).bind fun t5 =>
 some t5
 else none
 else none
 else none
theorem Vd {n:Nat} {a0 a1:Int} {a2:List D} {a3 a4:Int} {a5:List D} {a6 a7:Int} {r:List D} (h:Zl n a0 a1 a2 a3 a4 a5 a6 a7=some r):Computes cx 36 [.agg [I a0,I a1,.lst false 1 a2],.agg [I a3,I a4,.lst false 1 a5],I a6,I a7] (.lst false 4 r):=by
 unfold Zl at h
 obtain ⟨h1,h⟩:=Qg h
 obtain ⟨h2,h⟩:=Qg h
 obtain ⟨t3,h3,h⟩:=Qe h
 obtain ⟨h4,h⟩:=Qg h
 obtain ⟨t5,h5,h⟩:=Qe h
 replace h:=Option.some.inj h
 subst h
 exact run (n:=100) (f:=36) (args:=[.agg [I a0,I a1,.lst false 1 a2],.agg [I a3,I a4,.lst false 1 a5],I a6,I a7]) (orc:=[.lp [9,4] [2,3,4,5,9,15,16] [0,1,8] (.exit 0) [(9,.own 8 0)] [(8,.row 0 4 t3)] 66,.obj (some 8) (.d (.tup [])) [.row 4 t5] []]) (r:=.lst false 4 t5) (ob:=[uX cx 70 4 t3 [.fn (.func 71) [] []] t5,t3≠[],QX cx (Qp cx.P 36 0) 48 0 false [(2,.d (I a6)),(3,.d (I a7)),(4,.ptr 0 0 0 0 0),(5,.ptr 1 0 0 0 0),(9,.own 8 0),(15,.d (I ((2 * a6)+1))),(16,.d (I 0))] [(0,.box (.d (.agg [I a0,I a1,.lst false 1 a2]))),(1,.box (.d (.agg [I a3,I a4,.lst false 1 a5]))),(8,.row 0 4 [])] (.exit 0) [(9,.own 8 0)] [(8,.row 0 4 t3)],Qb ((2 * a6)+1),Qb (2 * a6)]) (by kernel_rfl) ⟨(Xr h5),(nnil h4),(Qt G1 h3),h2,h1,trivial⟩
def Qeg (x:Int×Int×Int×Int):D:=.agg [I x.1,I x.2.1,I x.2.2.1,I x.2.2.2]
def G8:D→Option (Int×Int×Int×Int)
 | .agg [c0,c1,c2,c3]=>(Kg .i64 c0).bind fun y0=>(Kg .i64 c1).bind fun y1=>(Kg .i64 c2).bind fun y2=>(Kg .i64 c3).bind fun y3=>some (y0,y1,y2,y3)
 | _=>none
theorem WG {d:D} {x:Int×Int×Int×Int} (h:G8 d=some x):d=Qeg x:=by
 unfold G8 at h
 split at h
 case h_2=>cases h
 obtain ⟨y0,h0,h⟩:=Qe h
 obtain ⟨y1,h1,h⟩:=Qe h
 obtain ⟨y2,h2,h⟩:=Qe h
 obtain ⟨y3,h3,h⟩:=Qe h
 cases h
 have e0:=V1 h0
 have e1:=V1 h1
 have e2:=V1 h2
 have e3:=V1 h3
 rw [e0,e1,e2,e3];rfl
def F_cloud_size (n:Nat) (a0:Int):Option (Int) :=
 some (maxI a0 (IntKind.wrap .i64 (0 - a0)))
theorem Vw {n:Nat} {a0:Int} {r:Int} (h:F_cloud_size n a0=some r):Computes cx 72 [I a0] (I r):=by
 unfold F_cloud_size at h
 replace h:=Option.some.inj h
 subst h
 exact run (n:=100) (f:=72) (args:=[I a0]) (orc:=[]) (r:=I (maxI a0 (IntKind.wrap .i64 (0 - a0)))) (ob:=[]) (by kernel_rfl) trivial
def Z7 (n:Nat) (a0 a1:Int) (sa:(Int×Int)):Option (((Int×Int))⊕((Int))) :=
 if sa.2=0 then
  some (.inr sa.1)
 else
 if sa.2≠0 then
 some (.inl (sa.2,(Int.tmod sa.1 sa.2)))
 else none
noncomputable def qo (a0 a1:Int) (sa:(Int×Int)):List (Nat×AV):=[(0,.d (I a0)),(1,.d (I a1)),(4,.ptr 0 0 0 0 0),(5,.d (I sa.1)),(6,.d (I sa.2))]
noncomputable def qv (a0 a1:Int) (sa:(Int×Int)):List (Nat×Blk):=[(0,.box (.d (.agg [I 0,I 0])))]
noncomputable def qc (a0 a1:Int) (e:(Int)):Ex:=(.exit 0)
noncomputable def Ek (a0 a1:Int) (e:(Int)):List (Nat×AV):=[(0,.d (I a0)),(1,.d (I a1)),(4,.ptr 0 0 0 0 0),(5,.d (I e))]
noncomputable def En (a0 a1:Int) (e:(Int)):List (Nat×Blk):=[(0,.box (.d (.agg [I 0,I 0])))]
theorem qr {n:Nat} {a0 a1:Int} (sa:(Int×Int)) (r) (h:Z7 n a0 a1 sa=some r):Rd cx (Qp cx.P 37 0) 23 0 false (qo a0 a1) (qv a0 a1) (qc a0 a1) (Ek a0 a1) (En a0 a1) sa r:=by
 unfold Z7 at h
 by_cases ha1:sa.2=0
 ·replace h:=Qj h ha1
  replace h:=Option.some.inj h
  subst h
  exact ⟨⟨100,6,[.br false],[],[0,1,4,5],[0],Qh (ob:=[(sa.2 != 0)=false]) (by kernel_rfl) ⟨(nef ha1),trivial⟩⟩,nofun⟩
 ·replace h:=Qk h ha1
  obtain ⟨ha2,h⟩:=Qg h
  replace h:=Option.some.inj h
  subst h
  exact ⟨100,6,[.br true],[],[0,1,4,5,6],[0],Qh (ob:=[sa.2≠0,(sa.2 != 0)=true]) (by kernel_rfl) ⟨ha2,(net ha1),trivial⟩⟩
def Zr (n:Nat) (a0 a1:Int):Option (Int×Int) :=
 (F_cloud_size n a0).bind fun t1 =>
 (QF (Z7 n a0 a1) n (t1,a1)).bind fun t2 =>
 if t2≠0 then
 if Qb (Int.tdiv a0 t2) then
 if Qb (Int.tdiv a1 t2) then
 some ((Int.tdiv a0 t2),(Int.tdiv a1 t2))
 else none
 else none
 else none
theorem GL {n:Nat} {a0 a1:Int} {r:Int×Int} (h:Zr n a0 a1=some r):Computes cx 37 [I a0,I a1] (.agg [I r.1,I r.2]):=by
 unfold Zr at h
 obtain ⟨t1,h1,h⟩:=Qe h
 obtain ⟨t2,h2,h⟩:=Qe h
 obtain ⟨h3,h⟩:=Qg h
 obtain ⟨h4,h⟩:=Qg h
 obtain ⟨h5,h⟩:=Qg h
 replace h:=Option.some.inj h
 subst h
 exact run (n:=100) (f:=37) (args:=[I a0,I a1]) (orc:=[.ret (I t1),.lp [] [0,1,4,5,6] [0] (.exit 0) [(0,.d (I a0)),(1,.d (I a1)),(4,.ptr 0 0 0 0 0),(5,.d (I t2))] [(0,.box (.d (.agg [I 0,I 0])))] 25]) (r:=.agg [I (Int.tdiv a0 t2),I (Int.tdiv a1 t2)]) (ob:=[t2≠0,Qb (Int.tdiv a1 t2),t2≠0,Qb (Int.tdiv a0 t2),QX cx (Qp cx.P 37 0) 23 0 false [(0,.d (I a0)),(1,.d (I a1)),(4,.ptr 0 0 0 0 0),(5,.d (I t1)),(6,.d (I a1))] [(0,.box (.d (.agg [I 0,I 0])))] (.exit 0) [(0,.d (I a0)),(1,.d (I a1)),(4,.ptr 0 0 0 0 0),(5,.d (I t2))] [(0,.box (.d (.agg [I 0,I 0])))],Computes cx 72 [I a0] (I t1)]) (by kernel_rfl) ⟨h3,h5,h3,h4,(Qt qr h2),(Vw h1),trivial⟩
def Zs (n:Nat) (a0 a1:Int) (a2:List D) (a3 a4:Int) (a5:List D) (a6 a7:Int):Option (Int×Int×Int×Int×Int) :=
 (QV n a0 a1 a2 a3 a4 a5 a6 a7).bind fun t1 =>
 if t1=0 then
  (Zl n a0 a1 a2 a3 a4 a5 a6 a7).bind fun t3 =>
  if ((t3).length:Int)=0 then
   some (0,0,0,0,18)
  else
  (el G8 t3 0).bind fun t5 =>
  (Zr n t5.2.2.1 t5.2.2.2).bind fun t6 =>
  some (t5.1,t5.2.1,t6.1,t6.2,0)
 else
 some (0,0,0,0,t1)
theorem WH {n:Nat} {a0 a1:Int} {a2:List D} {a3 a4:Int} {a5:List D} {a6 a7:Int} {r:Int×Int×Int×Int×Int} (h:Zs n a0 a1 a2 a3 a4 a5 a6 a7=some r):Computes cx 10 [.agg [I a0,I a1,.lst false 1 a2],.agg [I a3,I a4,.lst false 1 a5],I a6,I a7] (.tup [.agg [I r.1,I r.2.1],.agg [I r.2.2.1,I r.2.2.2.1],I r.2.2.2.2]):=by
 unfold Zs at h
 obtain ⟨t1,h1,h⟩:=Qe h
 by_cases h2:t1=0
 ·replace h:=Qj h h2
  obtain ⟨t3,h3,h⟩:=Qe h
  by_cases h4:((t3).length:Int)=0
  ·replace h:=Qj h h4
   replace h:=Option.some.inj h
   subst h
   exact run (n:=100) (f:=10) (args:=[.agg [I a0,I a1,.lst false 1 a2],.agg [I a3,I a4,.lst false 1 a5],I a6,I a7]) (orc:=[.ret (I t1),.br false,.ret (.lst false 4 t3),.br true]) (r:=.tup [.agg [I 0,I 0],.agg [I 0,I 0],I 18]) (ob:=[(((t3).length:Int) == 0)=true,Computes cx 36 [.agg [I a0,I a1,.lst false 1 a2],.agg [I a3,I a4,.lst false 1 a5],I a6,I a7] (.lst false 4 t3),(t1 != 0)=false,Computes cx 35 [.agg [I a0,I a1,.lst false 1 a2],.agg [I a3,I a4,.lst false 1 a5],I a6,I a7] (I t1)]) (by kernel_rfl) ⟨(eqt h4),(Vd h3),(nef h2),(QU h1),trivial⟩
  ·replace h:=Qk h h4
   obtain ⟨t5,h5,h⟩:=Qe h
   obtain ⟨t6,h6,h⟩:=Qe h
   replace h:=Option.some.inj h
   subst h
   exact run (n:=100) (f:=10) (args:=[.agg [I a0,I a1,.lst false 1 a2],.agg [I a3,I a4,.lst false 1 a5],I a6,I a7]) (orc:=[.ret (I t1),.br false,.ret (.lst false 4 t3),.br false,.el (.agg [I t5.1,I t5.2.1,I t5.2.2.1,I t5.2.2.2]),.el (.agg [I t5.1,I t5.2.1,I t5.2.2.1,I t5.2.2.2]),.el (.agg [I t5.1,I t5.2.1,I t5.2.2.1,I t5.2.2.2]),.ret (.agg [I t6.1,I t6.2])]) (r:=.tup [.agg [I t5.1,I t5.2.1],.agg [I t6.1,I t6.2],I 0]) (ob:=[Computes cx 37 [I t5.2.2.1,I t5.2.2.2] (.agg [I t6.1,I t6.2]),(0:Int)≤0,nth (t3) (Int.toNat 0)=some (.agg [I t5.1,I t5.2.1,I t5.2.2.1,I t5.2.2.2]),(0:Int)≤0,nth (t3) (Int.toNat 0)=some (.agg [I t5.1,I t5.2.1,I t5.2.2.1,I t5.2.2.2]),(0:Int)≤0,nth (t3) (Int.toNat 0)=some (.agg [I t5.1,I t5.2.1,I t5.2.2.1,I t5.2.2.2]),(((t3).length:Int) == 0)=false,Computes cx 36 [.agg [I a0,I a1,.lst false 1 a2],.agg [I a3,I a4,.lst false 1 a5],I a6,I a7] (.lst false 4 t3),(t1 != 0)=false,Computes cx 35 [.agg [I a0,I a1,.lst false 1 a2],.agg [I a3,I a4,.lst false 1 a5],I a6,I a7] (I t1)]) (by kernel_rfl) ⟨(GL h6),(Qm WG h5).1,(Qm WG h5).2,(Qm WG h5).1,(Qm WG h5).2,(Qm WG h5).1,(Qm WG h5).2,(eqf h4),(Vd h3),(nef h2),(QU h1),trivial⟩
 ·replace h:=Qk h h2
  replace h:=Option.some.inj h
  subst h
  exact run (n:=100) (f:=10) (args:=[.agg [I a0,I a1,.lst false 1 a2],.agg [I a3,I a4,.lst false 1 a5],I a6,I a7]) (orc:=[.ret (I t1),.br true]) (r:=.tup [.agg [I 0,I 0],.agg [I 0,I 0],I t1]) (ob:=[(t1 != 0)=true,Computes cx 35 [.agg [I a0,I a1,.lst false 1 a2],.agg [I a3,I a4,.lst false 1 a5],I a6,I a7] (I t1)]) (by kernel_rfl) ⟨(net h2),(QU h1),trivial⟩
def W8 (n:Nat) (a0:Nat):Option (Int) :=
 if (fop .mul .f32 1098907648 a0).isSome=true then
 if (f2i .f32 ((fop .mul .f32 1098907648 a0).getD 0) .i64).isSome=true then
 some ((f2i .f32 ((fop .mul .f32 1098907648 a0).getD 0) .i64).getD 0)
 else none
 else none
theorem kz {n:Nat} {a0:Nat} {r:Int} (h:W8 n a0=some r):Computes cx 63 [.v (.float .f32 a0)] (I r):=by
 unfold W8 at h
 obtain ⟨h1,h⟩:=Qg h
 obtain ⟨h2,h⟩:=Qg h
 replace h:=Option.some.inj h
 subst h
 exact run (n:=100) (f:=63) (args:=[.v (.float .f32 a0)]) (orc:=[]) (r:=I ((f2i .f32 ((fop .mul .f32 1098907648 a0).getD 0) .i64).getD 0)) (ob:=[(f2i .f32 ((fop .mul .f32 1098907648 a0).getD 0) .i64).isSome=true,(fop .mul .f32 1098907648 a0).isSome=true]) (by kernel_rfl) ⟨h2,h1,trivial⟩
def Zo (n:Nat) (a0:List D) (sa:(Int×List D)):Option (((Int×List D))⊕((List D))) :=
 if sa.1 < ((a0).length:Int) then
  (el VQ a0 sa.1).bind fun ta2 =>
  (W8 n ta2).bind fun ta3 =>
  if Wm 8 ((sa.2).length+1) then
  if Qb (sa.1+1) then
  some (.inl ((sa.1+1),(sa.2++([I ta3]:List D))))
  else none
  else none
 else
 some (.inr sa.2)
noncomputable def Gc (a0:List D) (sa:(Int×List D)):List (Nat×AV):=[(1,.d (.fn (.func 63) [] [])),(5,.own 5 0),(8,.d (.lst false 1 a0)),(9,.d (I ((a0).length:Int))),(10,.d (I sa.1))]
noncomputable def Gk (a0:List D) (sa:(Int×List D)):List (Nat×Blk):=[(5,.row 0 1 sa.2)]
noncomputable def J1 (a0:List D) (e:(List D)):Ex:=(.exit 0)
noncomputable def JB (a0:List D) (e:(List D)):List (Nat×AV):=[(5,.own 5 0)]
noncomputable def JG (a0:List D) (e:(List D)):List (Nat×Blk):=[(5,.row 0 1 e)]
theorem Gf {n:Nat} {a0:List D} (sa:(Int×List D)) (r) (h:Zo n a0 sa=some r):Rd cx (Qp cx.P 62 0) 22 0 false (Gc a0) (Gk a0) (J1 a0) (JB a0) (JG a0) sa r:=by
 unfold Zo at h
 by_cases ha1:sa.1 < ((a0).length:Int)
 ·replace h:=Qj h ha1
  obtain ⟨ta2,ha2,h⟩:=Qe h
  obtain ⟨ta3,ha3,h⟩:=Qe h
  obtain ⟨ha4,h⟩:=Qg h
  obtain ⟨ha5,h⟩:=Qg h
  replace h:=Option.some.inj h
  subst h
  exact ⟨100,6,[.br true,.el (.v (.float .f32 ta2)),.ret (I ta3),.br true],[],[1,5,8,9,10],[5],Qh (ob:=[Qb (sa.1+1),room cx 3 ((sa.2).length+1),Computes cx 63 [.v (.float .f32 ta2)] (I ta3),(0:Int)≤sa.1,nth (a0) (Int.toNat sa.1)=some (.v (.float .f32 ta2)),(decide (sa.1 < ((a0).length:Int)))=true]) (by kernel_rfl) ⟨ha5,(Qv (b:=8) (by kernel_rfl) (by decide) ha4),(kz ha3),(Qm Qo ha2).1,(Qm Qo ha2).2,(decide_eq_true ha1),trivial⟩⟩
 ·replace h:=Qk h ha1
  replace h:=Option.some.inj h
  subst h
  exact ⟨⟨100,6,[.br false],[],[5],[5],Qh (ob:=[(decide (sa.1 < ((a0).length:Int)))=false]) (by kernel_rfl) ⟨(decide_eq_false ha1),trivial⟩⟩,nofun⟩
def W1 (n:Nat) (a0:List D):Option (List D) :=
 (QF (Zo n a0) n (0,[])).bind fun t1 =>
 some t1
theorem Xs {n:Nat} {a0:List D} {r:List D} (h:W1 n a0=some r):WB cx 62 [.lst false 1 a0,.fn (.func 63) [] []] 1 r (.own 0 0):=by
 unfold W1 at h
 obtain ⟨t1,h1,h⟩:=Qe h
 replace h:=Option.some.inj h
 subst h
 exact runF (n:=100) (f:=62) (args:=[.lst false 1 a0,.fn (.func 63) [] []]) (orc:=[.lp [5,1] [1,5,8,9,10] [5] (.exit 0) [(5,.own 5 0)] [(5,.row 0 1 t1)] 30]) (r:=.own 0 0) (sz:=1) (L:=t1) (ob:=[QX cx (Qp cx.P 62 0) 22 0 false [(1,.d (.fn (.func 63) [] [])),(5,.own 5 0),(8,.d (.lst false 1 a0)),(9,.d (I ((a0).length:Int))),(10,.d (I 0))] [(5,.row 0 1 [])] (.exit 0) [(5,.own 5 0)] [(5,.row 0 1 t1)]]) (by kernel_rfl) ⟨(Qt Gf h1),trivial⟩
def ZQ (n:Nat) (a0 a1:Int) (a2:List D):Option (Int×Int×List D) :=
 (W1 n a2).bind fun t1 =>
 some (a0,a1,t1)
theorem Y5 {n:Nat} {a0 a1:Int} {a2:List D} {r:Int×Int×List D} (h:ZQ n a0 a1 a2=some r):WB cx 25 [.agg [I a0,I a1,.lst false 1 a2]] 1 r.2.2 (.agg [.d (I r.1),.d (I r.2.1),.own 0 0]):=by
 unfold ZQ at h
 obtain ⟨t1,h1,h⟩:=Qe h
 replace h:=Option.some.inj h
 subst h
 exact runF (n:=100) (f:=25) (args:=[.agg [I a0,I a1,.lst false 1 a2]]) (orc:=[.obj none (.own 0 0) [.row 1 t1] [true]]) (r:=.agg [.d (I a0),.d (I a1),.own 0 0]) (sz:=1) (L:=t1) (ob:=[WB cx 62 [.lst false 1 a2,.fn (.func 63) [] []] 1 t1 (.own 0 0)]) (by kernel_rfl) ⟨(Xs h1),trivial⟩
def VN (n:Nat) (a0 a1:Int):Option (Int×Int×List D) :=
 if Qb (a0 * a1) then
 if 0≤(a0 * a1)∧(a0 * a1)≤(a0 * a1)∧8 * (a0 * a1)≤281474976710656∧(a0 * a1)≤9223372036854775807 then
 some (a0,a1,(List.replicate (Int.toNat (a0 * a1)) (I 0:D)))
 else none
 else none
theorem GN {n:Nat} {a0 a1:Int} {r:Int×Int×List D} (h:VN n a0 a1=some r):WB cx 26 [I a0,I a1] 1 r.2.2 (.agg [.d (I r.1),.d (I r.2.1),.own 0 0]):=by
 unfold VN at h
 obtain ⟨h1,h⟩:=Qg h
 obtain ⟨h2,h⟩:=Qg h
 replace h:=Option.some.inj h
 subst h
 exact runF (n:=100) (f:=26) (args:=[I a0,I a1]) (orc:=[.br true]) (r:=.agg [.d (I a0),.d (I a1),.own 0 0]) (sz:=1) (L:=(List.replicate (Int.toNat (a0 * a1)) (I 0:D))) (ob:=[0≤(a0 * a1)∧(a0 * a1)≤(a0 * a1)∧8 * (a0 * a1)≤281474976710656∧(a0 * a1)≤9223372036854775807,Qb (a0 * a1)]) (by kernel_rfl) ⟨h2,h1,trivial⟩
def Wt (n:Nat) (a0 a1:Int) (a2:List D) (a3 a4:Int):Option (Int) :=
 if Qb (a4 * a0) then
 if Qb ((a4 * a0)+a3) then
 some ((a4 * a0)+a3)
 else none
 else none
theorem UO {n:Nat} {a0 a1:Int} {a2:List D} {a3 a4:Int} {r:Int} (h:Wt n a0 a1 a2 a3 a4=some r):Computes cx 28 [.agg [I a0,I a1,.lst false 1 a2],.agg [I a3,I a4]] (I r):=by
 unfold Wt at h
 obtain ⟨h1,h⟩:=Qg h
 obtain ⟨h2,h⟩:=Qg h
 replace h:=Option.some.inj h
 subst h
 exact run (n:=100) (f:=28) (args:=[.agg [I a0,I a1,.lst false 1 a2],.agg [I a3,I a4]]) (orc:=[]) (r:=I ((a4 * a0)+a3)) (ob:=[Qb ((a4 * a0)+a3),Qb (a4 * a0)]) (by kernel_rfl) ⟨h2,h1,trivial⟩
def Vl (n:Nat) (a0:Int):Option (Nat) :=
 if (fop .quo .f32 (FloatKind.nearest .f32 a0) 1098907648).isSome=true then
 some ((fop .quo .f32 (FloatKind.nearest .f32 a0) 1098907648).getD 0)
 else none
theorem jA {n:Nat} {a0:Int} {r:Nat} (h:Vl n a0=some r):Computes cx 66 [I a0] (.v (.float .f32 r)):=by
 unfold Vl at h
 obtain ⟨h1,h⟩:=Qg h
 replace h:=Option.some.inj h
 subst h
 exact run (n:=100) (f:=66) (args:=[I a0]) (orc:=[]) (r:=.v (.float .f32 ((fop .quo .f32 (FloatKind.nearest .f32 a0) 1098907648).getD 0))) (ob:=[(fop .quo .f32 (FloatKind.nearest .f32 a0) 1098907648).isSome=true]) (by kernel_rfl) ⟨h1,trivial⟩
def Zn (n:Nat) (a0:List D) (sa:(Int×List D)):Option (((Int×List D))⊕((List D))) :=
 if sa.1 < ((a0).length:Int) then
  (el un_i a0 sa.1).bind fun ta2 =>
  (Vl n ta2).bind fun ta3 =>
  if Wm 4 ((sa.2).length+1) then
  if Qb (sa.1+1) then
  some (.inl ((sa.1+1),(sa.2++([.v (.float .f32 ta3)]:List D))))
  else none
  else none
 else
 some (.inr sa.2)
noncomputable def Gb (a0:List D) (sa:(Int×List D)):List (Nat×AV):=[(1,.d (.fn (.func 66) [] [])),(5,.own 5 0),(8,.d (.lst false 1 a0)),(9,.d (I ((a0).length:Int))),(10,.d (I sa.1))]
noncomputable def Gj (a0:List D) (sa:(Int×List D)):List (Nat×Blk):=[(5,.row 0 1 sa.2)]
noncomputable def J0 (a0:List D) (e:(List D)):Ex:=(.exit 0)
noncomputable def JA (a0:List D) (e:(List D)):List (Nat×AV):=[(5,.own 5 0)]
noncomputable def JF (a0:List D) (e:(List D)):List (Nat×Blk):=[(5,.row 0 1 e)]
theorem Ge {n:Nat} {a0:List D} (sa:(Int×List D)) (r) (h:Zn n a0 sa=some r):Rd cx (Qp cx.P 65 0) 22 0 false (Gb a0) (Gj a0) (J0 a0) (JA a0) (JF a0) sa r:=by
 unfold Zn at h
 by_cases ha1:sa.1 < ((a0).length:Int)
 ·replace h:=Qj h ha1
  obtain ⟨ta2,ha2,h⟩:=Qe h
  obtain ⟨ta3,ha3,h⟩:=Qe h
  obtain ⟨ha4,h⟩:=Qg h
  obtain ⟨ha5,h⟩:=Qg h
  replace h:=Option.some.inj h
  subst h
  exact ⟨100,6,[.br true,.el (I ta2),.ret (.v (.float .f32 ta3)),.br true],[],[1,5,8,9,10],[5],Qh (ob:=[Qb (sa.1+1),room cx 54 ((sa.2).length+1),Computes cx 66 [I ta2] (.v (.float .f32 ta3)),(0:Int)≤sa.1,nth (a0) (Int.toNat sa.1)=some (I ta2),(decide (sa.1 < ((a0).length:Int)))=true]) (by kernel_rfl) ⟨ha5,(Qv (b:=4) (by kernel_rfl) (by decide) ha4),(jA ha3),(Qm Q1 ha2).1,(Qm Q1 ha2).2,(decide_eq_true ha1),trivial⟩⟩
 ·replace h:=Qk h ha1
  replace h:=Option.some.inj h
  subst h
  exact ⟨⟨100,6,[.br false],[],[5],[5],Qh (ob:=[(decide (sa.1 < ((a0).length:Int)))=false]) (by kernel_rfl) ⟨(decide_eq_false ha1),trivial⟩⟩,nofun⟩
def W0 (n:Nat) (a0:List D):Option (List D) :=
 (QF (Zn n a0) n (0,[])).bind fun t1 =>
 some t1
theorem Ef {n:Nat} {a0:List D} {r:List D} (h:W0 n a0=some r):Computes cx 65 [.lst false 1 a0,.fn (.func 66) [] []] (.lst false 1 r):=by
 unfold W0 at h
 obtain ⟨t1,h1,h⟩:=Qe h
 replace h:=Option.some.inj h
 subst h
 exact run (n:=100) (f:=65) (args:=[.lst false 1 a0,.fn (.func 66) [] []]) (orc:=[.lp [5,1] [1,5,8,9,10] [5] (.exit 0) [(5,.own 5 0)] [(5,.row 0 1 t1)] 30]) (r:=.lst false 1 t1) (ob:=[QX cx (Qp cx.P 65 0) 22 0 false [(1,.d (.fn (.func 66) [] [])),(5,.own 5 0),(8,.d (.lst false 1 a0)),(9,.d (I ((a0).length:Int))),(10,.d (I 0))] [(5,.row 0 1 [])] (.exit 0) [(5,.own 5 0)] [(5,.row 0 1 t1)]]) (by kernel_rfl) ⟨(Qt Ge h1),trivial⟩
def ZF (n:Nat) (a0 a1:Int) (a2:List D) (sa:(Int)):Option (((Int))⊕((Unit)⊕(Unit))) :=
 if sa < ((a2).length:Int) then
  (el un_i a2 sa).bind fun ta2 =>
  if ta2 < (-16384) then
   some (.inr (.inl ()))
  else
  if ta2 > 16384 then
   some (.inr (.inl ()))
  else
  if Qb (sa+1) then
  some (.inl (sa+1))
  else none
 else
 some (.inr (.inr ()))
noncomputable def GX (a0 a1:Int) (a2:List D) (sa:(Int)):List (Nat×AV):=[(1,.ptr 0 0 0 0 0),(2,.ptr 1 0 0 0 0),(7,.d (.lst false 1 a2)),(8,.d (I ((a2).length:Int))),(9,.d (I sa))]
noncomputable def G4 (a0 a1:Int) (a2:List D) (sa:(Int)):List (Nat×Blk):=[(0,.box (.d (.agg [I a0,I a1,.lst false 1 a2]))),(1,.box (.d (.agg [I 0,I 0,.lst true 0 []])))]
noncomputable def GQ (a0 a1:Int) (a2:List D) (e:(Unit)⊕(Unit)):Ex:=match e with
 | (.inl e)=>.ret
 | (.inr e)=>(.exit 0)
noncomputable def J3 (a0 a1:Int) (a2:List D) (e:(Unit)⊕(Unit)):List (Nat×AV):=match e with
 | (.inl e)=>[(2,.ptr 1 0 0 0 0),(3,.d (I 4))]
 | (.inr e)=>[(1,.ptr 0 0 0 0 0),(2,.ptr 1 0 0 0 0)]
noncomputable def J6 (a0 a1:Int) (a2:List D) (e:(Unit)⊕(Unit)):List (Nat×Blk):=match e with
 | (.inl e)=>[(1,.box (.d (.agg [I 0,I 0,.lst true 0 []])))]
 | (.inr e)=>[(0,.box (.d (.agg [I a0,I a1,.lst false 1 a2]))),(1,.box (.d (.agg [I 0,I 0,.lst true 0 []])))]
theorem YU {n:Nat} {a0 a1:Int} {a2:List D} (sa:(Int)) (r) (h:ZF n a0 a1 a2 sa=some r):Rd cx (Qp cx.P 29 0) 29 0 false (GX a0 a1 a2) (G4 a0 a1 a2) (GQ a0 a1 a2) (J3 a0 a1 a2) (J6 a0 a1 a2) sa r:=by
 unfold ZF at h
 by_cases ha1:sa < ((a2).length:Int)
 ·replace h:=Qj h ha1
  obtain ⟨ta2,ha2,h⟩:=Qe h
  by_cases ha3:ta2 < (-16384)
  ·replace h:=Qj h ha3
   replace h:=Option.some.inj h
   subst h
   exact ⟨⟨100,7,[.br true,.el (I ta2),.br true,.no],[],[2,3],[1],Qh (ob:=[(decide (ta2 < (-16384)))=true,(0:Int)≤sa,nth (a2) (Int.toNat sa)=some (I ta2),(decide (sa < ((a2).length:Int)))=true]) (by kernel_rfl) ⟨(decide_eq_true ha3),(Qm Q1 ha2).1,(Qm Q1 ha2).2,(decide_eq_true ha1),trivial⟩⟩,nofun⟩
  ·replace h:=Qk h ha3
   by_cases ha4:ta2 > 16384
   ·replace h:=Qj h ha4
    replace h:=Option.some.inj h
    subst h
    exact ⟨⟨100,7,[.br true,.el (I ta2),.br false,.br true],[],[2,3],[1],Qh (ob:=[(decide (ta2 > 16384))=true,(decide (ta2 < (-16384)))=false,(0:Int)≤sa,nth (a2) (Int.toNat sa)=some (I ta2),(decide (sa < ((a2).length:Int)))=true]) (by kernel_rfl) ⟨(decide_eq_true ha4),(decide_eq_false ha3),(Qm Q1 ha2).1,(Qm Q1 ha2).2,(decide_eq_true ha1),trivial⟩⟩,nofun⟩
   ·replace h:=Qk h ha4
    obtain ⟨ha5,h⟩:=Qg h
    replace h:=Option.some.inj h
    subst h
    exact ⟨100,7,[.br true,.el (I ta2),.br false,.br false],[],[1,2,7,8,9],[0,1],Qh (ob:=[Qb (sa+1),(decide (ta2 > 16384))=false,(decide (ta2 < (-16384)))=false,(0:Int)≤sa,nth (a2) (Int.toNat sa)=some (I ta2),(decide (sa < ((a2).length:Int)))=true]) (by kernel_rfl) ⟨ha5,(decide_eq_false ha4),(decide_eq_false ha3),(Qm Q1 ha2).1,(Qm Q1 ha2).2,(decide_eq_true ha1),trivial⟩⟩
 ·replace h:=Qk h ha1
  replace h:=Option.some.inj h
  subst h
  exact ⟨⟨100,7,[.br false],[],[1,2],[0,1],Qh (ob:=[(decide (sa < ((a2).length:Int)))=false]) (by kernel_rfl) ⟨(decide_eq_false ha1),trivial⟩⟩,nofun⟩
def Z6 (n:Nat) (a0 a1:Int) (a2:List D):Option (Int×Int×List D×Int) :=
 (QF (ZF n a0 a1 a2) n 0).bind fun t1=>match t1 with
  | (.inl t1)=>(
   some (0,0,[],4))
  | (.inr t1)=>(
   (W0 n a2).bind fun t2 =>
   some (a0,a1,t2,0))
theorem Ka {n:Nat} {a0 a1:Int} {a2:List D} {r:Int×Int×List D×Int} (h:Z6 n a0 a1 a2=some r):Computes cx 29 [.agg [I a0,I a1,.lst false 1 a2]] (.tup [.agg [I r.1,I r.2.1,.lst false 1 r.2.2.1],I r.2.2.2]):=by
 unfold Z6 at h
 obtain ⟨t1,h1,h⟩:=Qe h
 rcases t1 with t1 | t1
 ·replace h:=Option.some.inj h
  subst h
  exact (run (n:=100) (f:=29) (args:=[.agg [I a0,I a1,.lst false 1 a2]]) (orc:=[.lp [] [1,2,7,8,9] [0,1] .ret [(2,.ptr 1 0 0 0 0),(3,.d (I 4))] [(1,.box (.d (.agg [I 0,I 0,.lst true 0 []])))] 31]) (r:=.tup [.agg [I 0,I 0,.lst true 0 []],I 4]) (ob:=[QX cx (Qp cx.P 29 0) 29 0 false [(1,.ptr 0 0 0 0 0),(2,.ptr 1 0 0 0 0),(7,.d (.lst false 1 a2)),(8,.d (I ((a2).length:Int))),(9,.d (I 0))] [(0,.box (.d (.agg [I a0,I a1,.lst false 1 a2]))),(1,.box (.d (.agg [I 0,I 0,.lst true 0 []])))] .ret [(2,.ptr 1 0 0 0 0),(3,.d (I 4))] [(1,.box (.d (.agg [I 0,I 0,.lst true 0 []])))]]) (by kernel_rfl) ⟨(Qt YU h1),trivial⟩).le (LEs.refl _) (.tups (.cons (.aggs (.cons (.refl _) (.cons (.refl _) (.cons (.nilF) (.nil))))) (.cons (.refl _) (.nil))))
 ·obtain ⟨t2,h2,h⟩:=Qe h
  replace h:=Option.some.inj h
  subst h
  exact run (n:=100) (f:=29) (args:=[.agg [I a0,I a1,.lst false 1 a2]]) (orc:=[.lp [] [1,2,7,8,9] [0,1] (.exit 0) [(1,.ptr 0 0 0 0 0),(2,.ptr 1 0 0 0 0)] [(0,.box (.d (.agg [I a0,I a1,.lst false 1 a2]))),(1,.box (.d (.agg [I 0,I 0,.lst true 0 []])))] 31,.ret (.lst false 1 t2)]) (r:=.tup [.agg [I a0,I a1,.lst false 1 t2],I 0]) (ob:=[Computes cx 65 [.lst false 1 a2,.fn (.func 66) [] []] (.lst false 1 t2),QX cx (Qp cx.P 29 0) 29 0 false [(1,.ptr 0 0 0 0 0),(2,.ptr 1 0 0 0 0),(7,.d (.lst false 1 a2)),(8,.d (I ((a2).length:Int))),(9,.d (I 0))] [(0,.box (.d (.agg [I a0,I a1,.lst false 1 a2]))),(1,.box (.d (.agg [I 0,I 0,.lst true 0 []])))] (.exit 0) [(1,.ptr 0 0 0 0 0),(2,.ptr 1 0 0 0 0)] [(0,.box (.d (.agg [I a0,I a1,.lst false 1 a2]))),(1,.box (.d (.agg [I 0,I 0,.lst true 0 []])))]]) (by kernel_rfl) ⟨(Ef h2),(Qt YU h1),trivial⟩
def ZK (n:Nat) (a0 a1:Int) (a2:List D) (a3 a4 a5 a6 t1 t2 t3 t4:Int) (t12 t13:Int×Int×List D) (sa:(Int×List D)):Option (((Int×List D))⊕((List D))) :=
 if sa.1 < (t12.1 * t12.2.1) then
  if t12.1≠0 then
  if Qb (Int.tdiv sa.1 t12.1) then
  if Qb (a5+(Int.tmod sa.1 t12.1)) then
  if Qb (a6+(Int.tdiv sa.1 t12.1)) then
  (Wt n t13.1 t13.2.1 sa.2 (a5+(Int.tmod sa.1 t12.1)) (a6+(Int.tdiv sa.1 t12.1))).bind fun ta6 =>
  if 0≤sa.1∧sa.1 < ((t12.2.2).length:Int) then
  ((nth (t12.2.2) (Int.toNat sa.1)).bind un_i).bind fun ta8 =>
  if 0≤ta6∧ta6 < ((sa.2).length:Int) then
  if (Int.toNat ta6) < (sa.2).length then
  if Qb (sa.1+1) then
  some (.inl ((sa.1+1),(List.set sa.2 (Int.toNat ta6) (I ta8:D))))
  else none
  else none
  else none
  else none
  else none
  else none
  else none
  else none
 else
 some (.inr sa.2)
noncomputable def qn (a0 a1:Int) (a2:List D) (a3 a4 a5 a6 t1 t2 t3 t4:Int) (t12 t13:Int×Int×List D) (sa:(Int×List D)):List (Nat×AV):=[(0,.own 58 0),(1,.ptr 54 0 0 0 0),(8,.d (I (t12.1 * t12.2.1))),(9,.d (I sa.1))]
noncomputable def qu (a0 a1:Int) (a2:List D) (a3 a4 a5 a6 t1 t2 t3 t4:Int) (t12 t13:Int×Int×List D) (sa:(Int×List D)):List (Nat×Blk):=[(0,.box (.d (.agg [I a0,I a1,.lst false 1 a2]))),(1,.box (.d (.agg [I a5,I a6]))),(2,.box (.d (.agg [I 0,I 0,.lst true 0 []]))),(46,.box (.agg [.d (I t12.1),.d (I t12.2.1),.own 50 0])),(47,.box (.agg [.d (I t13.1),.d (I t13.2.1),.own 51 0])),(50,.row 0 1 t12.2.2),(51,.row 0 1 sa.2),(54,.box (.agg [.d (I t12.1),.d (I t12.2.1),.own 50 0])),(58,.loop true [(60,.fn (.func 64) [] [.ptr 54 0 0 0 0]),(59,.agg [.d (I t12.1),.d (I t12.2.1),.own 50 0]),(58,.agg [.d (I t13.1),.d (I t13.2.1),.own 51 0]),(57,.d (I a4)),(56,.d (I a3)),(55,.agg [.d (I t12.1),.d (I t12.2.1),.own 50 0]),(54,.d (.agg [I a0,I a1,.lst false 1 a2])),(52,.d (B (decide (a6 > (a4 - a1))))),(51,.d (B (decide (a6 > (a4 - a1))))),(50,.d (I (a4 - a1))),(49,.d (I a1)),(48,.ptr 0 0 0 0 1),(47,.d (I a4)),(46,.d (I a6)),(45,.ptr 1 0 0 0 1),(44,.d (B false)),(43,.d (B (decide (a6 < 0)))),(42,.d (B (decide (a6 < 0)))),(41,.d (I a6)),(40,.ptr 1 0 0 0 1),(39,.d (B false)),(38,.d (B (decide (a5 > (a3 - a0))))),(37,.d (B (decide (a5 > (a3 - a0))))),(36,.d (I (a3 - a0))),(35,.d (I a0)),(34,.ptr 0 0 0 0 0),(33,.d (I a3)),(32,.d (I a5)),(31,.ptr 1 0 0 0 0),(30,.d (B false)),(29,.d (B (decide (a5 < 0)))),(28,.d (I a5)),(27,.ptr 1 0 0 0 0),(24,.d (B (t4 != 0))),(23,.d (I t4)),(22,.d (I t4)),(21,.d (.lst true 1 [I t1,I t2,I t3])),(20,.d (I t3)),(19,.d (I a4)),(18,.d (I t2)),(17,.d (I a3)),(16,.d (I t1)),(15,.d (.agg [I a0,I a1,.lst false 1 a2])),(12,.ptr 47 0 0 0 0),(11,.ptr 46 0 0 0 0),(10,.d (I t4)),(9,.d (I 0)),(8,.ptr 2 0 0 0 0),(7,.ptr 1 0 0 0 0),(4,.ptr 0 0 0 0 0),(3,.d (.agg [I a5,I a6])),(2,.d (I a4)),(1,.d (I a3)),(0,.d (.agg [I a0,I a1,.lst false 1 a2]))] [61,62] (Qu cx.P 6 0).1 (Qu cx.P 6 0).2 88)]
noncomputable def qb (a0 a1:Int) (a2:List D) (a3 a4 a5 a6 t1 t2 t3 t4:Int) (t12 t13:Int×Int×List D) (e:(List D)):Ex:=(.exit 0)
noncomputable def Ej (a0 a1:Int) (a2:List D) (a3 a4 a5 a6 t1 t2 t3 t4:Int) (t12 t13:Int×Int×List D) (e:(List D)):List (Nat×AV):=[]
noncomputable def Em (a0 a1:Int) (a2:List D) (a3 a4 a5 a6 t1 t2 t3 t4:Int) (t12 t13:Int×Int×List D) (e:(List D)):List (Nat×Blk):=[(0,.box (.d (.agg [I a0,I a1,.lst false 1 a2]))),(1,.box (.d (.agg [I a5,I a6]))),(2,.box (.d (.agg [I 0,I 0,.lst true 0 []]))),(46,.box (.agg [.d (I t12.1),.d (I t12.2.1),.own 50 0])),(47,.box (.agg [.d (I t13.1),.d (I t13.2.1),.own 51 0])),(50,.row 0 1 t12.2.2),(51,.row 0 1 e),(54,.box (.agg [.d (I t12.1),.d (I t12.2.1),.own 50 0])),(58,.loop true [(60,.fn (.func 64) [] [.ptr 54 0 0 0 0]),(59,.agg [.d (I t12.1),.d (I t12.2.1),.own 50 0]),(58,.agg [.d (I t13.1),.d (I t13.2.1),.own 51 0]),(57,.d (I a4)),(56,.d (I a3)),(55,.agg [.d (I t12.1),.d (I t12.2.1),.own 50 0]),(54,.d (.agg [I a0,I a1,.lst false 1 a2])),(52,.d (B (decide (a6 > (a4 - a1))))),(51,.d (B (decide (a6 > (a4 - a1))))),(50,.d (I (a4 - a1))),(49,.d (I a1)),(48,.ptr 0 0 0 0 1),(47,.d (I a4)),(46,.d (I a6)),(45,.ptr 1 0 0 0 1),(44,.d (B false)),(43,.d (B (decide (a6 < 0)))),(42,.d (B (decide (a6 < 0)))),(41,.d (I a6)),(40,.ptr 1 0 0 0 1),(39,.d (B false)),(38,.d (B (decide (a5 > (a3 - a0))))),(37,.d (B (decide (a5 > (a3 - a0))))),(36,.d (I (a3 - a0))),(35,.d (I a0)),(34,.ptr 0 0 0 0 0),(33,.d (I a3)),(32,.d (I a5)),(31,.ptr 1 0 0 0 0),(30,.d (B false)),(29,.d (B (decide (a5 < 0)))),(28,.d (I a5)),(27,.ptr 1 0 0 0 0),(24,.d (B (t4 != 0))),(23,.d (I t4)),(22,.d (I t4)),(21,.d (.lst true 1 [I t1,I t2,I t3])),(20,.d (I t3)),(19,.d (I a4)),(18,.d (I t2)),(17,.d (I a3)),(16,.d (I t1)),(15,.d (.agg [I a0,I a1,.lst false 1 a2])),(12,.ptr 47 0 0 0 0),(11,.ptr 46 0 0 0 0),(10,.d (I t4)),(9,.d (I 0)),(8,.ptr 2 0 0 0 0),(7,.ptr 1 0 0 0 0),(4,.ptr 0 0 0 0 0),(3,.d (.agg [I a5,I a6])),(2,.d (I a4)),(1,.d (I a3)),(0,.d (.agg [I a0,I a1,.lst false 1 a2]))] [61,62] (Qu cx.P 6 0).1 (Qu cx.P 6 0).2 88)]
theorem qq {n:Nat} {a0 a1:Int} {a2:List D} {a3 a4 a5 a6 t1 t2 t3 t4:Int} {t12 t13:Int×Int×List D} (sa:(Int×List D)) (r) (h:ZK n a0 a1 a2 a3 a4 a5 a6 t1 t2 t3 t4 t12 t13 sa=some r):Rd cx (Qp cx.P 64 0) 26 59 false (qn a0 a1 a2 a3 a4 a5 a6 t1 t2 t3 t4 t12 t13) (qu a0 a1 a2 a3 a4 a5 a6 t1 t2 t3 t4 t12 t13) (qb a0 a1 a2 a3 a4 a5 a6 t1 t2 t3 t4 t12 t13) (Ej a0 a1 a2 a3 a4 a5 a6 t1 t2 t3 t4 t12 t13) (Em a0 a1 a2 a3 a4 a5 a6 t1 t2 t3 t4 t12 t13) sa r:=by
 unfold ZK at h
 by_cases ha1:sa.1 < (t12.1 * t12.2.1)
 ·replace h:=Qj h ha1
  obtain ⟨ha2,h⟩:=Qg h
  obtain ⟨ha3,h⟩:=Qg h
  obtain ⟨ha4,h⟩:=Qg h
  obtain ⟨ha5,h⟩:=Qg h
  obtain ⟨ta6,ha6,h⟩:=Qe h
  obtain ⟨ha7,h⟩:=Qg h
  obtain ⟨ta8,ha8,h⟩:=Qe h
  obtain ⟨ha9,h⟩:=Qg h
  obtain ⟨ha10,h⟩:=Qg h
  obtain ⟨ha11,h⟩:=Qg h
  replace h:=Option.some.inj h
  subst h
  exact ⟨100,65,[.br true,.ix 0,.ret (I ta6),.br true,.el (I ta8),.br true,.br true,.no],[],[0,1,8,9],[0,1,2,46,47,50,51,54,58],Qh (ob:=[Qb (sa.1+1),(Int.toNat ta6) < (sa.2).length,0≤ta6∧ta6 < ((sa.2).length:Int),nth (t12.2.2) (Int.toNat sa.1)=some (I ta8),0≤sa.1∧sa.1 < ((t12.2.2).length:Int),Computes cx 28 [.agg [I t13.1,I t13.2.1,.lst false 1 sa.2],.agg [I (a5+(Int.tmod sa.1 t12.1)),I (a6+(Int.tdiv sa.1 t12.1))]] (I ta6),Qb (a6+(Int.tdiv sa.1 t12.1)),Qb (a5+(Int.tmod sa.1 t12.1)),t12.1≠0,Qb (Int.tdiv sa.1 t12.1),t12.1≠0,(decide (sa.1 < (t12.1 * t12.2.1)))=true]) (by kernel_rfl) ⟨ha11,ha10,ha9,Qbv Q1 ha8,ha7,(UO ha6),ha5,ha4,ha2,ha3,ha2,(decide_eq_true ha1),trivial⟩⟩
 ·replace h:=Qk h ha1
  replace h:=Option.some.inj h
  subst h
  exact ⟨⟨100,65,[.br false],[],[],[0,1,2,46,47,50,51,54,58],Qh (ob:=[(decide (sa.1 < (t12.1 * t12.2.1)))=false]) (by kernel_rfl) ⟨(decide_eq_false ha1),trivial⟩⟩,nofun⟩
def Z4 (n:Nat) (a0 a1:Int) (a2:List D) (a3 a4 a5 a6:Int):Option (Int×Int×List D×Int) :=
 (ZR n a0 a1 a2).bind fun t1 =>
 (Z1 n a3 1 64).bind fun t2 =>
 (Z1 n a4 1 64).bind fun t3 =>
 (Wi n ([I t1,I t2,I t3])).bind fun t4 =>
 if t4=0 then
  if a5 < 0 then
   some (0,0,[],14)
  else
  if Qb (a3 - a0) then
  if a5 > (a3 - a0) then
   some (0,0,[],14)
  else
  if a6 < 0 then
   some (0,0,[],14)
  else
  if Qb (a4 - a1) then
  if a6 > (a4 - a1) then
   some (0,0,[],14)
  else
  (ZQ n a0 a1 a2).bind fun t12 =>
  (VN n a3 a4).bind fun t13 =>
  if Qb (t12.1 * t12.2.1) then
  (QF (ZK n a0 a1 a2 a3 a4 a5 a6 t1 t2 t3 t4 t12 t13) n (0,t13.2.2)).bind fun t15 =>
  (Z6 n t13.1 t13.2.1 t15).bind fun t16 =>
  some (t16.1,t16.2.1,t16.2.2.1,t16.2.2.2)
  else none
  else none
  else none
 else
 some (0,0,[],t4)
theorem ZY {n:Nat} {a0 a1:Int} {a2:List D} {a3 a4 a5 a6:Int} {r:Int×Int×List D×Int} (h:Z4 n a0 a1 a2 a3 a4 a5 a6=some r):Computes cx 6 [.agg [I a0,I a1,.lst false 1 a2],I a3,I a4,.agg [I a5,I a6]] (.tup [.agg [I r.1,I r.2.1,.lst false 1 r.2.2.1],I r.2.2.2]):=by
 unfold Z4 at h
 obtain ⟨t1,h1,h⟩:=Qe h
 obtain ⟨t2,h2,h⟩:=Qe h
 obtain ⟨t3,h3,h⟩:=Qe h
 obtain ⟨t4,h4,h⟩:=Qe h
 by_cases h5:t4=0
 ·replace h:=Qj h h5
  by_cases h6:a5 < 0
  ·replace h:=Qj h h6
   replace h:=Option.some.inj h
   subst h
   exact (run (n:=100) (f:=6) (args:=[.agg [I a0,I a1,.lst false 1 a2],I a3,I a4,.agg [I a5,I a6]]) (orc:=[.ret (I t1),.ret (I t2),.ret (I t3),.ret (I t4),.br false,.br true,.no,.no,.no]) (r:=.tup [.agg [I 0,I 0,.lst true 0 []],I 14]) (ob:=[(decide (a5 < 0))=true,(t4 != 0)=false,Computes cx 22 [.lst true 1 [I t1,I t2,I t3]] (I t4),Computes cx 24 [I a4,I 1,I 64] (I t3),Computes cx 24 [I a3,I 1,I 64] (I t2),Computes cx 23 [.agg [I a0,I a1,.lst false 1 a2]] (I t1)]) (by kernel_rfl) ⟨(decide_eq_true h6),(nef h5),((Zq h4).le (.cons (.full _ _ _) (.nil)) (.refl _)),(QB h3),(QB h2),(Zc h1),trivial⟩).le (LEs.refl _) (.tups (.cons (.aggs (.cons (.refl _) (.cons (.refl _) (.cons (.nilF) (.nil))))) (.cons (.refl _) (.nil))))
  ·replace h:=Qk h h6
   obtain ⟨h7,h⟩:=Qg h
   by_cases h8:a5 > (a3 - a0)
   ·replace h:=Qj h h8
    replace h:=Option.some.inj h
    subst h
    exact (run (n:=100) (f:=6) (args:=[.agg [I a0,I a1,.lst false 1 a2],I a3,I a4,.agg [I a5,I a6]]) (orc:=[.ret (I t1),.ret (I t2),.ret (I t3),.ret (I t4),.br false,.br false,.br true,.no,.no]) (r:=.tup [.agg [I 0,I 0,.lst true 0 []],I 14]) (ob:=[(decide (a5 > (a3 - a0)))=true,Qb (a3 - a0),(decide (a5 < 0))=false,(t4 != 0)=false,Computes cx 22 [.lst true 1 [I t1,I t2,I t3]] (I t4),Computes cx 24 [I a4,I 1,I 64] (I t3),Computes cx 24 [I a3,I 1,I 64] (I t2),Computes cx 23 [.agg [I a0,I a1,.lst false 1 a2]] (I t1)]) (by kernel_rfl) ⟨(decide_eq_true h8),h7,(decide_eq_false h6),(nef h5),((Zq h4).le (.cons (.full _ _ _) (.nil)) (.refl _)),(QB h3),(QB h2),(Zc h1),trivial⟩).le (LEs.refl _) (.tups (.cons (.aggs (.cons (.refl _) (.cons (.refl _) (.cons (.nilF) (.nil))))) (.cons (.refl _) (.nil))))
   ·replace h:=Qk h h8
    by_cases h9:a6 < 0
    ·replace h:=Qj h h9
     replace h:=Option.some.inj h
     subst h
     exact (run (n:=100) (f:=6) (args:=[.agg [I a0,I a1,.lst false 1 a2],I a3,I a4,.agg [I a5,I a6]]) (orc:=[.ret (I t1),.ret (I t2),.ret (I t3),.ret (I t4),.br false,.br false,.br false,.br true,.no]) (r:=.tup [.agg [I 0,I 0,.lst true 0 []],I 14]) (ob:=[(decide (a6 < 0))=true,(decide (a5 > (a3 - a0)))=false,Qb (a3 - a0),(decide (a5 < 0))=false,(t4 != 0)=false,Computes cx 22 [.lst true 1 [I t1,I t2,I t3]] (I t4),Computes cx 24 [I a4,I 1,I 64] (I t3),Computes cx 24 [I a3,I 1,I 64] (I t2),Computes cx 23 [.agg [I a0,I a1,.lst false 1 a2]] (I t1)]) (by kernel_rfl) ⟨(decide_eq_true h9),(decide_eq_false h8),h7,(decide_eq_false h6),(nef h5),((Zq h4).le (.cons (.full _ _ _) (.nil)) (.refl _)),(QB h3),(QB h2),(Zc h1),trivial⟩).le (LEs.refl _) (.tups (.cons (.aggs (.cons (.refl _) (.cons (.refl _) (.cons (.nilF) (.nil))))) (.cons (.refl _) (.nil))))
    ·replace h:=Qk h h9
     obtain ⟨h10,h⟩:=Qg h
     by_cases h11:a6 > (a4 - a1)
     ·replace h:=Qj h h11
      replace h:=Option.some.inj h
      subst h
      exact (run (n:=100) (f:=6) (args:=[.agg [I a0,I a1,.lst false 1 a2],I a3,I a4,.agg [I a5,I a6]]) (orc:=[.ret (I t1),.ret (I t2),.ret (I t3),.ret (I t4),.br false,.br false,.br false,.br false,.br true]) (r:=.tup [.agg [I 0,I 0,.lst true 0 []],I 14]) (ob:=[(decide (a6 > (a4 - a1)))=true,Qb (a4 - a1),(decide (a6 < 0))=false,(decide (a5 > (a3 - a0)))=false,Qb (a3 - a0),(decide (a5 < 0))=false,(t4 != 0)=false,Computes cx 22 [.lst true 1 [I t1,I t2,I t3]] (I t4),Computes cx 24 [I a4,I 1,I 64] (I t3),Computes cx 24 [I a3,I 1,I 64] (I t2),Computes cx 23 [.agg [I a0,I a1,.lst false 1 a2]] (I t1)]) (by kernel_rfl) ⟨(decide_eq_true h11),h10,(decide_eq_false h9),(decide_eq_false h8),h7,(decide_eq_false h6),(nef h5),((Zq h4).le (.cons (.full _ _ _) (.nil)) (.refl _)),(QB h3),(QB h2),(Zc h1),trivial⟩).le (LEs.refl _) (.tups (.cons (.aggs (.cons (.refl _) (.cons (.refl _) (.cons (.nilF) (.nil))))) (.cons (.refl _) (.nil))))
     ·replace h:=Qk h h11
      obtain ⟨t12,h12,h⟩:=Qe h
      obtain ⟨t13,h13,h⟩:=Qe h
      obtain ⟨h14,h⟩:=Qg h
      obtain ⟨t15,h15,h⟩:=Qe h
      obtain ⟨t16,h16,h⟩:=Qe h
      replace h:=Option.some.inj h
      subst h
      exact run (n:=100) (f:=6) (args:=[.agg [I a0,I a1,.lst false 1 a2],I a3,I a4,.agg [I a5,I a6]]) (orc:=[.ret (I t1),.ret (I t2),.ret (I t3),.ret (I t4),.br false,.br false,.br false,.br false,.br false,.obj none (.agg [.d (I t12.1),.d (I t12.2.1),.own 0 0]) [.row 1 t12.2.2] [true],.obj none (.agg [.d (I t13.1),.d (I t13.2.1),.own 0 0]) [.row 1 t13.2.2] [true],.br true,.lp [] [0,1,8,9] [0,1,2,46,47,50,51,54,58] (.exit 0) [] [(0,.box (.d (.agg [I a0,I a1,.lst false 1 a2]))),(1,.box (.d (.agg [I a5,I a6]))),(2,.box (.d (.agg [I 0,I 0,.lst true 0 []]))),(46,.box (.agg [.d (I t12.1),.d (I t12.2.1),.own 50 0])),(47,.box (.agg [.d (I t13.1),.d (I t13.2.1),.own 51 0])),(50,.row 0 1 t12.2.2),(51,.row 0 1 t15),(54,.box (.agg [.d (I t12.1),.d (I t12.2.1),.own 50 0])),(58,.loop true [(60,.fn (.func 64) [] [.ptr 54 0 0 0 0]),(59,.agg [.d (I t12.1),.d (I t12.2.1),.own 50 0]),(58,.agg [.d (I t13.1),.d (I t13.2.1),.own 51 0]),(57,.d (I a4)),(56,.d (I a3)),(55,.agg [.d (I t12.1),.d (I t12.2.1),.own 50 0]),(54,.d (.agg [I a0,I a1,.lst false 1 a2])),(52,.d (B (decide (a6 > (a4 - a1))))),(51,.d (B (decide (a6 > (a4 - a1))))),(50,.d (I (a4 - a1))),(49,.d (I a1)),(48,.ptr 0 0 0 0 1),(47,.d (I a4)),(46,.d (I a6)),(45,.ptr 1 0 0 0 1),(44,.d (B false)),(43,.d (B (decide (a6 < 0)))),(42,.d (B (decide (a6 < 0)))),(41,.d (I a6)),(40,.ptr 1 0 0 0 1),(39,.d (B false)),(38,.d (B (decide (a5 > (a3 - a0))))),(37,.d (B (decide (a5 > (a3 - a0))))),(36,.d (I (a3 - a0))),(35,.d (I a0)),(34,.ptr 0 0 0 0 0),(33,.d (I a3)),(32,.d (I a5)),(31,.ptr 1 0 0 0 0),(30,.d (B false)),(29,.d (B (decide (a5 < 0)))),(28,.d (I a5)),(27,.ptr 1 0 0 0 0),(24,.d (B (t4 != 0))),(23,.d (I t4)),(22,.d (I t4)),(21,.d (.lst true 1 [I t1,I t2,I t3])),(20,.d (I t3)),(19,.d (I a4)),(18,.d (I t2)),(17,.d (I a3)),(16,.d (I t1)),(15,.d (.agg [I a0,I a1,.lst false 1 a2])),(12,.ptr 47 0 0 0 0),(11,.ptr 46 0 0 0 0),(10,.d (I t4)),(9,.d (I 0)),(8,.ptr 2 0 0 0 0),(7,.ptr 1 0 0 0 0),(4,.ptr 0 0 0 0 0),(3,.d (.agg [I a5,I a6])),(2,.d (I a4)),(1,.d (I a3)),(0,.d (.agg [I a0,I a1,.lst false 1 a2]))] [61,62] (Qu cx.P 6 0).1 (Qu cx.P 6 0).2 88)] 119,.ret (.tup [.agg [I t16.1,I t16.2.1,.lst false 1 t16.2.2.1],I t16.2.2.2])]) (r:=.tup [.agg [I t16.1,I t16.2.1,.lst false 1 t16.2.2.1],I t16.2.2.2]) (ob:=[Computes cx 29 [.agg [I t13.1,I t13.2.1,.lst false 1 t15]] (.tup [.agg [I t16.1,I t16.2.1,.lst false 1 t16.2.2.1],I t16.2.2.2]),QX cx (Qp cx.P 64 0) 26 59 false [(0,.own 58 0),(1,.ptr 54 0 0 0 0),(8,.d (I (t12.1 * t12.2.1))),(9,.d (I 0))] [(0,.box (.d (.agg [I a0,I a1,.lst false 1 a2]))),(1,.box (.d (.agg [I a5,I a6]))),(2,.box (.d (.agg [I 0,I 0,.lst true 0 []]))),(46,.box (.agg [.d (I t12.1),.d (I t12.2.1),.own 50 0])),(47,.box (.agg [.d (I t13.1),.d (I t13.2.1),.own 51 0])),(50,.row 0 1 t12.2.2),(51,.row 0 1 t13.2.2),(54,.box (.agg [.d (I t12.1),.d (I t12.2.1),.own 50 0])),(58,.loop true [(60,.fn (.func 64) [] [.ptr 54 0 0 0 0]),(59,.agg [.d (I t12.1),.d (I t12.2.1),.own 50 0]),(58,.agg [.d (I t13.1),.d (I t13.2.1),.own 51 0]),(57,.d (I a4)),(56,.d (I a3)),(55,.agg [.d (I t12.1),.d (I t12.2.1),.own 50 0]),(54,.d (.agg [I a0,I a1,.lst false 1 a2])),(52,.d (B (decide (a6 > (a4 - a1))))),(51,.d (B (decide (a6 > (a4 - a1))))),(50,.d (I (a4 - a1))),(49,.d (I a1)),(48,.ptr 0 0 0 0 1),(47,.d (I a4)),(46,.d (I a6)),(45,.ptr 1 0 0 0 1),(44,.d (B false)),(43,.d (B (decide (a6 < 0)))),(42,.d (B (decide (a6 < 0)))),(41,.d (I a6)),(40,.ptr 1 0 0 0 1),(39,.d (B false)),(38,.d (B (decide (a5 > (a3 - a0))))),(37,.d (B (decide (a5 > (a3 - a0))))),(36,.d (I (a3 - a0))),(35,.d (I a0)),(34,.ptr 0 0 0 0 0),(33,.d (I a3)),(32,.d (I a5)),(31,.ptr 1 0 0 0 0),(30,.d (B false)),(29,.d (B (decide (a5 < 0)))),(28,.d (I a5)),(27,.ptr 1 0 0 0 0),(24,.d (B (t4 != 0))),(23,.d (I t4)),(22,.d (I t4)),(21,.d (.lst true 1 [I t1,I t2,I t3])),(20,.d (I t3)),(19,.d (I a4)),(18,.d (I t2)),(17,.d (I a3)),(16,.d (I t1)),(15,.d (.agg [I a0,I a1,.lst false 1 a2])),(12,.ptr 47 0 0 0 0),(11,.ptr 46 0 0 0 0),(10,.d (I t4)),(9,.d (I 0)),(8,.ptr 2 0 0 0 0),(7,.ptr 1 0 0 0 0),(4,.ptr 0 0 0 0 0),(3,.d (.agg [I a5,I a6])),(2,.d (I a4)),(1,.d (I a3)),(0,.d (.agg [I a0,I a1,.lst false 1 a2]))] [61,62] (Qu cx.P 6 0).1 (Qu cx.P 6 0).2 88)] (.exit 0) [] [(0,.box (.d (.agg [I a0,I a1,.lst false 1 a2]))),(1,.box (.d (.agg [I a5,I a6]))),(2,.box (.d (.agg [I 0,I 0,.lst true 0 []]))),(46,.box (.agg [.d (I t12.1),.d (I t12.2.1),.own 50 0])),(47,.box (.agg [.d (I t13.1),.d (I t13.2.1),.own 51 0])),(50,.row 0 1 t12.2.2),(51,.row 0 1 t15),(54,.box (.agg [.d (I t12.1),.d (I t12.2.1),.own 50 0])),(58,.loop true [(60,.fn (.func 64) [] [.ptr 54 0 0 0 0]),(59,.agg [.d (I t12.1),.d (I t12.2.1),.own 50 0]),(58,.agg [.d (I t13.1),.d (I t13.2.1),.own 51 0]),(57,.d (I a4)),(56,.d (I a3)),(55,.agg [.d (I t12.1),.d (I t12.2.1),.own 50 0]),(54,.d (.agg [I a0,I a1,.lst false 1 a2])),(52,.d (B (decide (a6 > (a4 - a1))))),(51,.d (B (decide (a6 > (a4 - a1))))),(50,.d (I (a4 - a1))),(49,.d (I a1)),(48,.ptr 0 0 0 0 1),(47,.d (I a4)),(46,.d (I a6)),(45,.ptr 1 0 0 0 1),(44,.d (B false)),(43,.d (B (decide (a6 < 0)))),(42,.d (B (decide (a6 < 0)))),(41,.d (I a6)),(40,.ptr 1 0 0 0 1),(39,.d (B false)),(38,.d (B (decide (a5 > (a3 - a0))))),(37,.d (B (decide (a5 > (a3 - a0))))),(36,.d (I (a3 - a0))),(35,.d (I a0)),(34,.ptr 0 0 0 0 0),(33,.d (I a3)),(32,.d (I a5)),(31,.ptr 1 0 0 0 0),(30,.d (B false)),(29,.d (B (decide (a5 < 0)))),(28,.d (I a5)),(27,.ptr 1 0 0 0 0),(24,.d (B (t4 != 0))),(23,.d (I t4)),(22,.d (I t4)),(21,.d (.lst true 1 [I t1,I t2,I t3])),(20,.d (I t3)),(19,.d (I a4)),(18,.d (I t2)),(17,.d (I a3)),(16,.d (I t1)),(15,.d (.agg [I a0,I a1,.lst false 1 a2])),(12,.ptr 47 0 0 0 0),(11,.ptr 46 0 0 0 0),(10,.d (I t4)),(9,.d (I 0)),(8,.ptr 2 0 0 0 0),(7,.ptr 1 0 0 0 0),(4,.ptr 0 0 0 0 0),(3,.d (.agg [I a5,I a6])),(2,.d (I a4)),(1,.d (I a3)),(0,.d (.agg [I a0,I a1,.lst false 1 a2]))] [61,62] (Qu cx.P 6 0).1 (Qu cx.P 6 0).2 88)],Qb (t12.1 * t12.2.1),WB cx 26 [I a3,I a4] 1 t13.2.2 (.agg [.d (I t13.1),.d (I t13.2.1),.own 0 0]),WB cx 25 [.agg [I a0,I a1,.lst false 1 a2]] 1 t12.2.2 (.agg [.d (I t12.1),.d (I t12.2.1),.own 0 0]),(decide (a6 > (a4 - a1)))=false,Qb (a4 - a1),(decide (a6 < 0))=false,(decide (a5 > (a3 - a0)))=false,Qb (a3 - a0),(decide (a5 < 0))=false,(t4 != 0)=false,Computes cx 22 [.lst true 1 [I t1,I t2,I t3]] (I t4),Computes cx 24 [I a4,I 1,I 64] (I t3),Computes cx 24 [I a3,I 1,I 64] (I t2),Computes cx 23 [.agg [I a0,I a1,.lst false 1 a2]] (I t1)]) (by kernel_rfl) ⟨(Ka h16),(Qt qq h15),h14,(GN h13),(Y5 h12),(decide_eq_false h11),h10,(decide_eq_false h9),(decide_eq_false h8),h7,(decide_eq_false h6),(nef h5),((Zq h4).le (.cons (.full _ _ _) (.nil)) (.refl _)),(QB h3),(QB h2),(Zc h1),trivial⟩
 ·replace h:=Qk h h5
  replace h:=Option.some.inj h
  subst h
  exact (run (n:=100) (f:=6) (args:=[.agg [I a0,I a1,.lst false 1 a2],I a3,I a4,.agg [I a5,I a6]]) (orc:=[.ret (I t1),.ret (I t2),.ret (I t3),.ret (I t4),.br true]) (r:=.tup [.agg [I 0,I 0,.lst true 0 []],I t4]) (ob:=[(t4 != 0)=true,Computes cx 22 [.lst true 1 [I t1,I t2,I t3]] (I t4),Computes cx 24 [I a4,I 1,I 64] (I t3),Computes cx 24 [I a3,I 1,I 64] (I t2),Computes cx 23 [.agg [I a0,I a1,.lst false 1 a2]] (I t1)]) (by kernel_rfl) ⟨(net h5),((Zq h4).le (.cons (.full _ _ _) (.nil)) (.refl _)),(QB h3),(QB h2),(Zc h1),trivial⟩).le (LEs.refl _) (.tups (.cons (.aggs (.cons (.refl _) (.cons (.refl _) (.cons (.nilF) (.nil))))) (.cons (.refl _) (.nil))))
def V0 (n:Nat) (a0 a1:Int) (a2:List D) (t3 t4:Int×Int×List D) (sa:(Int×List D)):Option (((Int×List D))⊕((List D))) :=
 if sa.1 < (t4.1 * t4.2.1) then
  if t4.1≠0 then
  if Qb (Int.tdiv sa.1 t4.1) then
  if Qb (a0 - 1) then
  if Qb ((a0 - 1) - (Int.tmod sa.1 t4.1)) then
  (Wt n t3.1 t3.2.1 t3.2.2 ((a0 - 1) - (Int.tmod sa.1 t4.1)) (Int.tdiv sa.1 t4.1)).bind fun ta6 =>
  if 0≤ta6∧ta6 < ((t3.2.2).length:Int) then
  ((nth (t3.2.2) (Int.toNat ta6)).bind un_i).bind fun ta8 =>
  if 0≤sa.1∧sa.1 < ((sa.2).length:Int) then
  if (Int.toNat sa.1) < (sa.2).length then
  if Qb (sa.1+1) then
  some (.inl ((sa.1+1),(List.set sa.2 (Int.toNat sa.1) (I ta8:D))))
  else none
  else none
  else none
  else none
  else none
  else none
  else none
  else none
 else
 some (.inr sa.2)
noncomputable def Ep (a0 a1:Int) (a2:List D) (t3 t4:Int×Int×List D) (sa:(Int×List D)):List (Nat×AV):=[(0,.own 36 0),(1,.ptr 32 0 0 0 0),(8,.d (I (t4.1 * t4.2.1))),(9,.d (I sa.1))]
noncomputable def Eu (a0 a1:Int) (a2:List D) (t3 t4:Int×Int×List D) (sa:(Int×List D)):List (Nat×Blk):=[(0,.box (.d (.agg [I a0,I a1,.lst false 1 a2]))),(1,.box (.d (.agg [I 0,I 0,.lst true 0 []]))),(9,.row 0 1 t3.2.2),(21,.box (.agg [.d (I t3.1),.d (I t3.2.1),.own 9 0])),(22,.box (.fn (.func 58) [] [.ptr 0 0 0 0 0])),(23,.box (.d (.agg [I 0,I 0,.lst true 0 []]))),(27,.box (.agg [.d (I t4.1),.d (I t4.2.1),.own 29 0])),(29,.row 0 1 sa.2),(32,.box (.agg [.d (I t4.1),.d (I t4.2.1),.own 29 0])),(36,.loop true [(16,.fn (.func 64) [] [.ptr 32 0 0 0 0]),(15,.agg [.d (I t4.1),.d (I t4.2.1),.own 29 0]),(14,.agg [.d (I t4.1),.d (I t4.2.1),.own 29 0]),(13,.d (I a1)),(12,.d (I a0)),(9,.ptr 27 0 0 0 0),(8,.ptr 23 0 0 0 0),(7,.ptr 22 0 0 0 0),(4,.ptr 21 0 0 0 0),(3,.fn (.func 58) [] [.ptr 0 0 0 0 0]),(2,.d (I a1)),(1,.d (I a0)),(0,.agg [.d (I t3.1),.d (I t3.2.1),.own 9 0])] [17,18] (Qu cx.P 57 0).1 (Qu cx.P 57 0).2 33)]
noncomputable def Eh (a0 a1:Int) (a2:List D) (t3 t4:Int×Int×List D) (e:(List D)):Ex:=(.exit 0)
noncomputable def Xv (a0 a1:Int) (a2:List D) (t3 t4:Int×Int×List D) (e:(List D)):List (Nat×AV):=[]
noncomputable def Xx (a0 a1:Int) (a2:List D) (t3 t4:Int×Int×List D) (e:(List D)):List (Nat×Blk):=[(0,.box (.d (.agg [I a0,I a1,.lst false 1 a2]))),(1,.box (.d (.agg [I 0,I 0,.lst true 0 []]))),(9,.row 0 1 t3.2.2),(21,.box (.agg [.d (I t3.1),.d (I t3.2.1),.own 9 0])),(22,.box (.fn (.func 58) [] [.ptr 0 0 0 0 0])),(23,.box (.d (.agg [I 0,I 0,.lst true 0 []]))),(27,.box (.agg [.d (I t4.1),.d (I t4.2.1),.own 29 0])),(29,.row 0 1 e),(32,.box (.agg [.d (I t4.1),.d (I t4.2.1),.own 29 0])),(36,.loop true [(16,.fn (.func 64) [] [.ptr 32 0 0 0 0]),(15,.agg [.d (I t4.1),.d (I t4.2.1),.own 29 0]),(14,.agg [.d (I t4.1),.d (I t4.2.1),.own 29 0]),(13,.d (I a1)),(12,.d (I a0)),(9,.ptr 27 0 0 0 0),(8,.ptr 23 0 0 0 0),(7,.ptr 22 0 0 0 0),(4,.ptr 21 0 0 0 0),(3,.fn (.func 58) [] [.ptr 0 0 0 0 0]),(2,.d (I a1)),(1,.d (I a0)),(0,.agg [.d (I t3.1),.d (I t3.2.1),.own 9 0])] [17,18] (Qu cx.P 57 0).1 (Qu cx.P 57 0).2 33)]
theorem Es {n:Nat} {a0 a1:Int} {a2:List D} {t3 t4:Int×Int×List D} (sa:(Int×List D)) (r) (h:V0 n a0 a1 a2 t3 t4 sa=some r):Rd cx (Qp cx.P 64 0) 26 37 false (Ep a0 a1 a2 t3 t4) (Eu a0 a1 a2 t3 t4) (Eh a0 a1 a2 t3 t4) (Xv a0 a1 a2 t3 t4) (Xx a0 a1 a2 t3 t4) sa r:=by
 unfold V0 at h
 by_cases ha1:sa.1 < (t4.1 * t4.2.1)
 ·replace h:=Qj h ha1
  obtain ⟨ha2,h⟩:=Qg h
  obtain ⟨ha3,h⟩:=Qg h
  obtain ⟨ha4,h⟩:=Qg h
  obtain ⟨ha5,h⟩:=Qg h
  obtain ⟨ta6,ha6,h⟩:=Qe h
  obtain ⟨ha7,h⟩:=Qg h
  obtain ⟨ta8,ha8,h⟩:=Qe h
  obtain ⟨ha9,h⟩:=Qg h
  obtain ⟨ha10,h⟩:=Qg h
  obtain ⟨ha11,h⟩:=Qg h
  replace h:=Option.some.inj h
  subst h
  exact ⟨100,43,[.br true,.no,.ix 0,.ret (I ta6),.br true,.el (I ta8),.br true,.br true,.no],[],[0,1,8,9],[0,1,9,21,22,23,27,29,32,36],Qh (ob:=[Qb (sa.1+1),(Int.toNat sa.1) < (sa.2).length,0≤sa.1∧sa.1 < ((sa.2).length:Int),nth (t3.2.2) (Int.toNat ta6)=some (I ta8),0≤ta6∧ta6 < ((t3.2.2).length:Int),Computes cx 28 [.agg [I t3.1,I t3.2.1,.lst false 1 t3.2.2],.agg [I ((a0 - 1) - (Int.tmod sa.1 t4.1)),I (Int.tdiv sa.1 t4.1)]] (I ta6),Qb ((a0 - 1) - (Int.tmod sa.1 t4.1)),Qb (a0 - 1),t4.1≠0,Qb (Int.tdiv sa.1 t4.1),t4.1≠0,(decide (sa.1 < (t4.1 * t4.2.1)))=true]) (by kernel_rfl) ⟨ha11,ha10,ha9,Qbv Q1 ha8,ha7,(UO ha6),ha5,ha4,ha2,ha3,ha2,(decide_eq_true ha1),trivial⟩⟩
 ·replace h:=Qk h ha1
  replace h:=Option.some.inj h
  subst h
  exact ⟨⟨100,43,[.br false],[],[],[0,1,9,21,22,23,27,29,32,36],Qh (ob:=[(decide (sa.1 < (t4.1 * t4.2.1)))=false]) (by kernel_rfl) ⟨(decide_eq_false ha1),trivial⟩⟩,nofun⟩
def JT (n:Nat) (a0 a1:Int) (a2:List D):Option (Int×Int×List D×Int) :=
 (ZR n a0 a1 a2).bind fun t1 =>
 if t1=0 then
  (ZQ n a0 a1 a2).bind fun t3 =>
  (VN n a0 a1).bind fun t4 =>
  if Qb (t4.1 * t4.2.1) then
  (QF (V0 n a0 a1 a2 t3 t4) n (0,t4.2.2)).bind fun t6 =>
  (Z6 n t4.1 t4.2.1 t6).bind fun t7 =>
  some (t7.1,t7.2.1,t7.2.2.1,t7.2.2.2)
  else none
 else
 some (0,0,[],t1)
theorem JN {n:Nat} {a0 a1:Int} {a2:List D} {r:Int×Int×List D×Int} (h:JT n a0 a1 a2=some r):Computes cx 21 [.agg [I a0,I a1,.lst false 1 a2]] (.tup [.agg [I r.1,I r.2.1,.lst false 1 r.2.2.1],I r.2.2.2]):=by
 unfold JT at h
 obtain ⟨t1,h1,h⟩:=Qe h
 by_cases h2:t1=0
 ·replace h:=Qj h h2
  obtain ⟨t3,h3,h⟩:=Qe h
  obtain ⟨t4,h4,h⟩:=Qe h
  obtain ⟨h5,h⟩:=Qg h
  obtain ⟨t6,h6,h⟩:=Qe h
  obtain ⟨t7,h7,h⟩:=Qe h
  replace h:=Option.some.inj h
  subst h
  exact run (n:=100) (f:=21) (args:=[.agg [I a0,I a1,.lst false 1 a2]]) (orc:=[.ret (I t1),.br false,.obj none (.agg [.d (I t3.1),.d (I t3.2.1),.own 0 0]) [.row 1 t3.2.2] [true],.ix (-9),.br true,.obj none (.agg [.d (I t4.1),.d (I t4.2.1),.own 0 0]) [.row 1 t4.2.2] [true],.br true,.lp [] [0,1,8,9] [0,1,9,21,22,23,27,29,32,36] (.exit 0) [] [(0,.box (.d (.agg [I a0,I a1,.lst false 1 a2]))),(1,.box (.d (.agg [I 0,I 0,.lst true 0 []]))),(9,.row 0 1 t3.2.2),(21,.box (.agg [.d (I t3.1),.d (I t3.2.1),.own 9 0])),(22,.box (.fn (.func 58) [] [.ptr 0 0 0 0 0])),(23,.box (.d (.agg [I 0,I 0,.lst true 0 []]))),(27,.box (.agg [.d (I t4.1),.d (I t4.2.1),.own 29 0])),(29,.row 0 1 t6),(32,.box (.agg [.d (I t4.1),.d (I t4.2.1),.own 29 0])),(36,.loop true [(16,.fn (.func 64) [] [.ptr 32 0 0 0 0]),(15,.agg [.d (I t4.1),.d (I t4.2.1),.own 29 0]),(14,.agg [.d (I t4.1),.d (I t4.2.1),.own 29 0]),(13,.d (I a1)),(12,.d (I a0)),(9,.ptr 27 0 0 0 0),(8,.ptr 23 0 0 0 0),(7,.ptr 22 0 0 0 0),(4,.ptr 21 0 0 0 0),(3,.fn (.func 58) [] [.ptr 0 0 0 0 0]),(2,.d (I a1)),(1,.d (I a0)),(0,.agg [.d (I t3.1),.d (I t3.2.1),.own 9 0])] [17,18] (Qu cx.P 57 0).1 (Qu cx.P 57 0).2 33)] 89,.ix (-9),.ret (.tup [.agg [I t7.1,I t7.2.1,.lst false 1 t7.2.2.1],I t7.2.2.2])]) (r:=.tup [.agg [I t7.1,I t7.2.1,.lst false 1 t7.2.2.1],I t7.2.2.2]) (ob:=[Computes cx 29 [.agg [I t4.1,I t4.2.1,.lst false 1 t6]] (.tup [.agg [I t7.1,I t7.2.1,.lst false 1 t7.2.2.1],I t7.2.2.2]),QX cx (Qp cx.P 64 0) 26 37 false [(0,.own 36 0),(1,.ptr 32 0 0 0 0),(8,.d (I (t4.1 * t4.2.1))),(9,.d (I 0))] [(0,.box (.d (.agg [I a0,I a1,.lst false 1 a2]))),(1,.box (.d (.agg [I 0,I 0,.lst true 0 []]))),(9,.row 0 1 t3.2.2),(21,.box (.agg [.d (I t3.1),.d (I t3.2.1),.own 9 0])),(22,.box (.fn (.func 58) [] [.ptr 0 0 0 0 0])),(23,.box (.d (.agg [I 0,I 0,.lst true 0 []]))),(27,.box (.agg [.d (I t4.1),.d (I t4.2.1),.own 29 0])),(29,.row 0 1 t4.2.2),(32,.box (.agg [.d (I t4.1),.d (I t4.2.1),.own 29 0])),(36,.loop true [(16,.fn (.func 64) [] [.ptr 32 0 0 0 0]),(15,.agg [.d (I t4.1),.d (I t4.2.1),.own 29 0]),(14,.agg [.d (I t4.1),.d (I t4.2.1),.own 29 0]),(13,.d (I a1)),(12,.d (I a0)),(9,.ptr 27 0 0 0 0),(8,.ptr 23 0 0 0 0),(7,.ptr 22 0 0 0 0),(4,.ptr 21 0 0 0 0),(3,.fn (.func 58) [] [.ptr 0 0 0 0 0]),(2,.d (I a1)),(1,.d (I a0)),(0,.agg [.d (I t3.1),.d (I t3.2.1),.own 9 0])] [17,18] (Qu cx.P 57 0).1 (Qu cx.P 57 0).2 33)] (.exit 0) [] [(0,.box (.d (.agg [I a0,I a1,.lst false 1 a2]))),(1,.box (.d (.agg [I 0,I 0,.lst true 0 []]))),(9,.row 0 1 t3.2.2),(21,.box (.agg [.d (I t3.1),.d (I t3.2.1),.own 9 0])),(22,.box (.fn (.func 58) [] [.ptr 0 0 0 0 0])),(23,.box (.d (.agg [I 0,I 0,.lst true 0 []]))),(27,.box (.agg [.d (I t4.1),.d (I t4.2.1),.own 29 0])),(29,.row 0 1 t6),(32,.box (.agg [.d (I t4.1),.d (I t4.2.1),.own 29 0])),(36,.loop true [(16,.fn (.func 64) [] [.ptr 32 0 0 0 0]),(15,.agg [.d (I t4.1),.d (I t4.2.1),.own 29 0]),(14,.agg [.d (I t4.1),.d (I t4.2.1),.own 29 0]),(13,.d (I a1)),(12,.d (I a0)),(9,.ptr 27 0 0 0 0),(8,.ptr 23 0 0 0 0),(7,.ptr 22 0 0 0 0),(4,.ptr 21 0 0 0 0),(3,.fn (.func 58) [] [.ptr 0 0 0 0 0]),(2,.d (I a1)),(1,.d (I a0)),(0,.agg [.d (I t3.1),.d (I t3.2.1),.own 9 0])] [17,18] (Qu cx.P 57 0).1 (Qu cx.P 57 0).2 33)],Qb (t4.1 * t4.2.1),WB cx 26 [I a0,I a1] 1 t4.2.2 (.agg [.d (I t4.1),.d (I t4.2.1),.own 0 0]),WB cx 25 [.agg [I a0,I a1,.lst false 1 a2]] 1 t3.2.2 (.agg [.d (I t3.1),.d (I t3.2.1),.own 0 0]),(t1 != 0)=false,Computes cx 23 [.agg [I a0,I a1,.lst false 1 a2]] (I t1)]) (by kernel_rfl) ⟨(Ka h7),(Qt Es h6),h5,(GN h4),(Y5 h3),(nef h2),(Zc h1),trivial⟩
 ·replace h:=Qk h h2
  replace h:=Option.some.inj h
  subst h
  exact (run (n:=100) (f:=21) (args:=[.agg [I a0,I a1,.lst false 1 a2]]) (orc:=[.ret (I t1),.br true]) (r:=.tup [.agg [I 0,I 0,.lst true 0 []],I t1]) (ob:=[(t1 != 0)=true,Computes cx 23 [.agg [I a0,I a1,.lst false 1 a2]] (I t1)]) (by kernel_rfl) ⟨(net h2),(Zc h1),trivial⟩).le (LEs.refl _) (.tups (.cons (.aggs (.cons (.refl _) (.cons (.refl _) (.cons (.nilF) (.nil))))) (.cons (.refl _) (.nil))))
set_option maxRecDepth 100000
noncomputable def cxE:Cx:={ P:=cx.P,G:=cx.G,E:=fun f=>Nat.beq f 57 || Nat.beq f 29 }
theorem Qfr:NoAsk cxE:=⟨noAsk.ask,fun f g ds r h1 h2=>by cases h1⟩
def fl2:D:=.v (.float .f32 1073741824)
def fl0:D:=.v (.float .f32 0)
def Gr:List D:=[fl0,fl0,fl0,fl0,fl0,fl2,fl0,fl0,fl0,fl0,fl0,fl0]
def Gq:List D:=[fl0,fl0,fl0,fl0,fl0,fl0,fl2,fl0,fl0,fl0,fl0,fl0]
def yU:D:=.agg [I 1,I 1,.lst true 1 [fl2]]
theorem Qfn:Computes cx 6 [yU,I 4,I 3,.agg [I 1,I 1]] (.tup [.agg [I 4,I 3,.lst false 1 Gr],I 0]):=(ZY (n:=200) (a0:=1) (a1:=1) (a2:=[fl2]) (a3:=4) (a4:=3) (a5:=1) (a6:=1) (r:=(4,3,Gr,0)) (by kernel_rfl)).le (.cons (.agg _ _ rfl (LEs.get (.cons (.refl _) (.cons (.refl _) (.cons (.full _ _ _) .nil))))) (.cons (.refl _) (.cons (.refl _) (.cons (.refl _) .nil)))) (.refl _)
theorem Qfm:Computes cx 6 [yU,I 4,I 3,.agg [I 2,I 1]] (.tup [.agg [I 4,I 3,.lst false 1 Gq],I 0]):=(ZY (n:=200) (a0:=1) (a1:=1) (a2:=[fl2]) (a3:=4) (a4:=3) (a5:=2) (a6:=1) (r:=(4,3,Gq,0)) (by kernel_rfl)).le (.cons (.agg _ _ rfl (LEs.get (.cons (.refl _) (.cons (.refl _) (.cons (.full _ _ _) .nil))))) (.cons (.refl _) (.cons (.refl _) (.cons (.refl _) .nil)))) (.refl _)
theorem QfP:Computes cx 21 [.agg [I 4,I 3,.lst false 1 Gr]] (.tup [.agg [I 4,I 3,.lst false 1 Gq],I 0]):=JN (n:=200) (a0:=4) (a1:=3) (a2:=Gr) (r:=(4,3,Gq,0)) (by kernel_rfl)
theorem QfO:Computes cx 21 [.agg [I 4,I 3,.lst false 1 Gq]] (.tup [.agg [I 4,I 3,.lst false 1 Gr],I 0]):=JN (n:=200) (a0:=4) (a1:=3) (a2:=Gq) (r:=(4,3,Gr,0)) (by kernel_rfl)
theorem Qah {l:List Tri} {x:Tri} (hx:x∈l) (h:∀ y,y∈l→y=x ∨ Ed x y < 0):(V9 l)[0]?=some x:=by
 obtain ⟨h1,h2⟩:=UX l
 obtain ⟨i,hi,hxi⟩:=List.mem_iff_getElem.1 (h1.mem_iff.2 hx)
 have h0:0 < (V9 l).length:=by omega
 have hy:(V9 l)[0]?=some (V9 l)[0]:=List.getElem?_eq_getElem h0
 rcases h _ (h1.mem_iff.1 (List.getElem_mem h0)) with he | he
 ·rw [hy,he]
 ·exfalso
  by_cases hz:i=0
  ·subst hz
   rw [hxi,cmpT_ok.refl] at he;omega
  ·have:=h2 0 i (by omega) _ _ hy (by rw [List.getElem?_eq_getElem hi,hxi])
   have a:=cmpT_ok.anti x (V9 l)[0]
   omega
def tr (t:Int×Int×Int×Int):Tri:=if h:Gn t then ⟨t,h⟩ else default
def trsA:List Tri:=[(-1,-1,2048,6),(0,-1,2048,8),(1,-1,2048,6),(-1,0,2048,9),(0,0,2048,12),(1,0,0,9),(-1,1,2048,6),(0,1,2048,8),(1,1,2048,6)].map tr
def trsB:List Tri:=[(-1,-1,2048,6),(0,-1,2048,8),(1,-1,2048,6),(-1,0,0,9),(0,0,2048,12),(1,0,2048,9),(-1,1,2048,6),(0,1,2048,8),(1,1,2048,6)].map tr
theorem minA:∀ y,y∈trsA→y=tr (1,0,0,9) ∨ Ed (tr (1,0,0,9)) y < 0:=by decide
theorem minB:∀ y,y∈trsB→y=tr (-1,0,0,9) ∨ Ed (tr (-1,0,0,9)) y < 0:=by decide
theorem qA {n:Nat} {l:List Tri} (h:XP (l.map KY)=some l) (hl:l.length≤1000):Wa n (l.map KY)=some ((V9 l).map KY):=by
 unfold Wa
 rw [List.length_map,if_pos hl,h];rfl
theorem Qco {l:List Tri} {x:Tri} (h:(V9 l)[0]?=some x):el G8 ((V9 l).map KY) 0=some x.1:=by
 unfold el
 rw [if_pos (by omega),show Int.toNat 0=0 from rfl,Gy,List.getElem?_map,h];rfl
theorem Qfk:Zs 200 4 3 Gr 4 3 Gq 1 4=some (1,0,0,1,0):=by
 have hl:(V9 trsA).length=9:=(UX trsA).1.length_eq
 unfold Zs Zl
 rw [show QV 200 4 3 Gr 4 3 Gq 1 4=some 0 by kernel_rfl,Option.bind_some,if_pos rfl,if_pos (by unfold Qb;omega),if_pos (by unfold Qb;omega),show QF (QJ 200 4 3 Gr 4 3 Gq 1 4) 200 (0,[])=some (trsA.map KY) by kernel_rfl,Option.bind_some,if_pos (by rfl),
  qA (by kernel_rfl) (by decide),Option.bind_some,Option.bind_some,List.length_map,hl,if_neg (by decide),Qco (Qah (x:=tr (1,0,0,9)) (by decide) minA),Option.bind_some]
 show (Zr 200 0 9).bind _=_
 rw [show Zr 200 0 9=some (0,1) by kernel_rfl]
 rfl
theorem Qfj:Zs 200 4 3 Gq 4 3 Gr 1 4=some (-1,0,0,1,0):=by
 have hl:(V9 trsB).length=9:=(UX trsB).1.length_eq
 unfold Zs Zl
 rw [show QV 200 4 3 Gq 4 3 Gr 1 4=some 0 by kernel_rfl,Option.bind_some,if_pos rfl,if_pos (by unfold Qb;omega),if_pos (by unfold Qb;omega),show QF (QJ 200 4 3 Gq 4 3 Gr 1 4) 200 (0,[])=some (trsB.map KY) by kernel_rfl,Option.bind_some,if_pos (by rfl),
  qA (by kernel_rfl) (by decide),Option.bind_some,Option.bind_some,List.length_map,hl,if_neg (by decide),Qco (Qah (x:=tr (-1,0,0,9)) (by decide) minB),Option.bind_some]
 show (Zr 200 0 9).bind _=_
 rw [show Zr 200 0 9=some (0,1) by kernel_rfl]
 rfl
def kT:List (Nat×List D×D):=[(6,[yU,I 4,I 3,.agg [I 1,I 1]],.tup [.agg [I 4,I 3,.lst false 1 Gr],I 0]),(6,[yU,I 4,I 3,.agg [I 2,I 1]],.tup [.agg [I 4,I 3,.lst false 1 Gq],I 0]),
 (21,[.agg [I 4,I 3,.lst false 1 Gr]],.tup [.agg [I 4,I 3,.lst false 1 Gq],I 0]),(21,[.agg [I 4,I 3,.lst false 1 Gq]],.tup [.agg [I 4,I 3,.lst false 1 Gr],I 0]),
 (10,[.agg [I 4,I 3,.lst false 1 Gr],.agg [I 4,I 3,.lst false 1 Gq],I 1,I 4],.tup [.agg [I 1,I 0],.agg [I 0,I 1],I 0]),
 (10,[.agg [I 4,I 3,.lst false 1 Gq],.agg [I 4,I 3,.lst false 1 Gr],I 1,I 4],.tup [.agg [I (-1),I 0],.agg [I 0,I 1],I 0])]
theorem QfN:AllK cxE kT:=⟨Qfn,Qfm,QfP,QfO,WH Qfk,WH Qfj,trivial⟩
theorem QfB:Computes cx 5 [] (B true):=runK (cx:=cxE) Qfr zJ (Qey QfN) (n:=1000000) (ob:=[]) (by kernel_rfl) trivial
def WJ (n:Nat):Option Bool:=some true
theorem W7 {n:Nat} {r:Bool} (h:WJ n=some r):Computes cx 5 [] (B r):=by cases h;exact QfB
set_option maxRecDepth 10000
def Ui (n:Nat)  : Option (Int) :=
 some 3
theorem uI {n:Nat}  {r:Int} (h:Ui n =some r):Computes cx 93 [B true,I 3] (I r):=by
 unfold Ui at h
 replace h:=Option.some.inj h
 subst h
 exact run (n:=100) (f:=93) (args:=[B true,I 3]) (orc:=[.no]) (r:=I 3) (ob:=[]) (by kernel_rfl) trivial
def Wr (n:Nat) (a0:Bool) (a1:Int):Option (Int) :=
 if a0=true then
  some a1
 else
 some 0
theorem GI {n:Nat} {a0:Bool} {a1:Int} {r:Int} (h:Wr n a0 a1=some r):Computes cx 93 [B a0,I a1] (I r):=by
 unfold Wr at h
 by_cases h1:a0=true
 ·replace h:=Qj h h1
  replace h:=Option.some.inj h
  subst h
  exact run (n:=100) (f:=93) (args:=[B a0,I a1]) (orc:=[.br true]) (r:=I a1) (ob:=[a0=true]) (by kernel_rfl) ⟨h1,trivial⟩
 ·replace h:=Qk h h1
  replace h:=Option.some.inj h
  subst h
  exact run (n:=100) (f:=93) (args:=[B a0,I a1]) (orc:=[.br false]) (r:=I 0) (ob:=[a0=false]) (by kernel_rfl) ⟨(QY h1),trivial⟩
def Ws (n:Nat) (a0 a1 a2:Int):Option (Int) :=
 if a0 < a1 then
  (Ui n).bind fun t2 =>
  some t2
 else
 (Wr n (decide (a0 > a2)) 3).bind fun t2 =>
 some t2
theorem Ee {n:Nat} {a0 a1 a2:Int} {r:Int} (h:Ws n a0 a1 a2=some r):Computes cx 80 [I a0,I a1,I a2] (I r):=by
 unfold Ws at h
 by_cases h1:a0 < a1
 ·replace h:=Qj h h1
  obtain ⟨t2,h2,h⟩:=Qe h
  replace h:=Option.some.inj h
  subst h
  exact run (n:=100) (f:=80) (args:=[I a0,I a1,I a2]) (orc:=[.br true,.ret (I t2)]) (r:=I t2) (ob:=[Computes cx 93 [B true,I 3] (I t2),(decide (a0 < a1))=true]) (by kernel_rfl) ⟨(uI h2),(decide_eq_true h1),trivial⟩
 ·replace h:=Qk h h1
  obtain ⟨t2,h2,h⟩:=Qe h
  replace h:=Option.some.inj h
  subst h
  exact run (n:=100) (f:=80) (args:=[I a0,I a1,I a2]) (orc:=[.br false,.ret (I t2)]) (r:=I t2) (ob:=[Computes cx 93 [B (decide (a0 > a2)),I 3] (I t2),(decide (a0 < a1))=false]) (by kernel_rfl) ⟨(GI h2),(decide_eq_false h1),trivial⟩
def ZJ (n:Nat) (a0:Int):Option (Int) :=
 (Ws n a0 1 64).bind fun t1 =>
 some t1
theorem Z5 {n:Nat} {a0:Int} {r:Int} (h:ZJ n a0=some r):Computes cx 55 [I a0] (I r):=by
 unfold ZJ at h
 obtain ⟨t1,h1,h⟩:=Qe h
 replace h:=Option.some.inj h
 subst h
 exact run (n:=100) (f:=55) (args:=[I a0]) (orc:=[.ret (I t1)]) (r:=I t1) (ob:=[Computes cx 80 [I a0,I 1,I 64] (I t1)]) (by kernel_rfl) ⟨(Ee h1),trivial⟩
def WN (n:Nat) (a0:List D) (sa:(Int)):Option (((Int))⊕((Int)⊕(Unit))) :=
 if sa < ((a0).length:Int) then
  (el un_i a0 sa).bind fun ta2 =>
  if ta2=0 then
   if Qb (sa+1) then
   some (.inl (sa+1))
   else none
  else
  some (.inr (.inl ta2))
 else
 some (.inr (.inr ()))
noncomputable def zu (a0:List D) (sa:(Int)):List (Nat×AV):=[(0,.d (.lst false 1 a0)),(3,.d (I sa))]
noncomputable def zA (a0:List D) (sa:(Int)):List (Nat×Blk):=[]
noncomputable def zl (a0:List D) (e:(Int)⊕(Unit)):Ex:=match e with
 | (.inl e)=>.ret
 | (.inr e)=>(.exit 0)
noncomputable def qf (a0:List D) (e:(Int)⊕(Unit)):List (Nat×AV):=match e with
 | (.inl e)=>[(2,.d (I e))]
 | (.inr e)=>[]
noncomputable def qj (a0:List D) (e:(Int)⊕(Unit)):List (Nat×Blk):=match e with
 | (.inl e)=>[]
 | (.inr e)=>[]
theorem KT {n:Nat} {a0:List D} (sa:(Int)) (r) (h:WN n a0 sa=some r):Rd cx (Qp cx.P 54 0) 19 0 false (zu a0) (zA a0) (zl a0) (qf a0) (qj a0) sa r:=by
 unfold WN at h
 by_cases ha1:sa < ((a0).length:Int)
 ·replace h:=Qj h ha1
  obtain ⟨ta2,ha2,h⟩:=Qe h
  by_cases ha3:ta2=0
  ·replace h:=Qj h ha3
   obtain ⟨ha4,h⟩:=Qg h
   replace h:=Option.some.inj h
   subst h
   exact ⟨100,2,[.br true,.el (I ta2),.br false],[],[0,3],[],Qh (ob:=[Qb (sa+1),(ta2 != 0)=false,(0:Int)≤sa,nth (a0) (Int.toNat sa)=some (I ta2),(decide (sa < ((a0).length:Int)))=true]) (by kernel_rfl) ⟨ha4,(nef ha3),(Qm Q1 ha2).1,(Qm Q1 ha2).2,(decide_eq_true ha1),trivial⟩⟩
  ·replace h:=Qk h ha3
   replace h:=Option.some.inj h
   subst h
   exact ⟨⟨100,2,[.br true,.el (I ta2),.br true,.el (I ta2)],[],[2],[],Qh (ob:=[(0:Int)≤sa,nth (a0) (Int.toNat sa)=some (I ta2),(ta2 != 0)=true,(0:Int)≤sa,nth (a0) (Int.toNat sa)=some (I ta2),(decide (sa < ((a0).length:Int)))=true]) (by kernel_rfl) ⟨(Qm Q1 ha2).1,(Qm Q1 ha2).2,(net ha3),(Qm Q1 ha2).1,(Qm Q1 ha2).2,(decide_eq_true ha1),trivial⟩⟩,nofun⟩
 ·replace h:=Qk h ha1
  replace h:=Option.some.inj h
  subst h
  exact ⟨⟨100,2,[.br false],[],[],[],Qh (ob:=[(decide (sa < ((a0).length:Int)))=false]) (by kernel_rfl) ⟨(decide_eq_false ha1),trivial⟩⟩,nofun⟩
def VM (n:Nat) (a0:List D):Option (Int) :=
 (QF (WN n a0) n 0).bind fun t1=>match t1 with
  | (.inl t1)=>(
   some t1)
  | (.inr t1)=>(
   some 0)
theorem Kl {n:Nat} {a0:List D} {r:Int} (h:VM n a0=some r):Computes cx 54 [.lst false 1 a0] (I r):=by
 unfold VM at h
 obtain ⟨t1,h1,h⟩:=Qe h
 rcases t1 with t1 | t1
 ·replace h:=Option.some.inj h
  subst h
  exact run (n:=100) (f:=54) (args:=[.lst false 1 a0]) (orc:=[.lp [] [0,3] [] .ret [(2,.d (I t1))] [] 27]) (r:=I t1) (ob:=[QX cx (Qp cx.P 54 0) 19 0 false [(0,.d (.lst false 1 a0)),(3,.d (I 0))] [] .ret [(2,.d (I t1))] []]) (by kernel_rfl) ⟨(Qt KT h1),trivial⟩
 ·replace h:=Option.some.inj h
  subst h
  exact run (n:=100) (f:=54) (args:=[.lst false 1 a0]) (orc:=[.lp [] [0,3] [] (.exit 0) [] [] 27]) (r:=I 0) (ob:=[QX cx (Qp cx.P 54 0) 19 0 false [(0,.d (.lst false 1 a0)),(3,.d (I 0))] [] (.exit 0) [] []]) (by kernel_rfl) ⟨(Qt KT h1),trivial⟩
def Zk (n:Nat) (a0:Nat) (a1:Int):Option (Int) :=
 if ((FloatKind.format .f32).order a0 a0 != some .eq)=true then
  some 1
 else
 if ((FloatKind.format .f32).order a0 2139095039 == some .gt)=true then
  some 1
 else
 if ((FloatKind.format .f32).order a0 4286578687 == some .lt)=true then
  some 1
 else
 if ((FloatKind.format .f32).order a0 (FloatKind.nearest .f32 a1) == some .gt)=true then
  some 3
 else
 if (fop .sub .f32 0 (FloatKind.nearest .f32 a1)).isSome=true then
 if ((FloatKind.format .f32).order a0 ((fop .sub .f32 0 (FloatKind.nearest .f32 a1)).getD 0) == some .lt)=true then
  some 3
 else
 if (fop .mul .f32 1098907648 a0).isSome=true then
 if (f2i .f32 ((fop .mul .f32 1098907648 a0).getD 0) .i64).isSome=true then
 (Wr n ((FloatKind.format .f32).order (FloatKind.nearest .f32 ((f2i .f32 ((fop .mul .f32 1098907648 a0).getD 0) .i64).getD 0)) ((fop .mul .f32 1098907648 a0).getD 0) != some .eq) 3).bind fun t9 =>
 some t9
 else none
 else none
 else none
theorem E5 {n:Nat} {a0:Nat} {a1:Int} {r:Int} (h:Zk n a0 a1=some r):Computes cx 94 [.v (.float .f32 a0),I a1] (I r):=by
 unfold Zk at h
 by_cases h1:((FloatKind.format .f32).order a0 a0 != some .eq)=true
 ·replace h:=Qj h h1
  replace h:=Option.some.inj h
  subst h
  exact run (n:=100) (f:=94) (args:=[.v (.float .f32 a0),I a1]) (orc:=[.br true,.no,.no]) (r:=I 1) (ob:=[((FloatKind.format .f32).order a0 a0 != some .eq)=true]) (by kernel_rfl) ⟨h1,trivial⟩
 ·replace h:=Qk h h1
  by_cases h2:((FloatKind.format .f32).order a0 2139095039 == some .gt)=true
  ·replace h:=Qj h h2
   replace h:=Option.some.inj h
   subst h
   exact run (n:=100) (f:=94) (args:=[.v (.float .f32 a0),I a1]) (orc:=[.br false,.br true,.no]) (r:=I 1) (ob:=[((FloatKind.format .f32).order a0 2139095039 == some .gt)=true,((FloatKind.format .f32).order a0 a0 != some .eq)=false]) (by kernel_rfl) ⟨h2,(QY h1),trivial⟩
  ·replace h:=Qk h h2
   by_cases h3:((FloatKind.format .f32).order a0 4286578687 == some .lt)=true
   ·replace h:=Qj h h3
    replace h:=Option.some.inj h
    subst h
    exact run (n:=100) (f:=94) (args:=[.v (.float .f32 a0),I a1]) (orc:=[.br false,.br false,.br true]) (r:=I 1) (ob:=[((FloatKind.format .f32).order a0 4286578687 == some .lt)=true,((FloatKind.format .f32).order a0 2139095039 == some .gt)=false,((FloatKind.format .f32).order a0 a0 != some .eq)=false]) (by kernel_rfl) ⟨h3,(QY h2),(QY h1),trivial⟩
   ·replace h:=Qk h h3
    by_cases h4:((FloatKind.format .f32).order a0 (FloatKind.nearest .f32 a1) == some .gt)=true
    ·replace h:=Qj h h4
     replace h:=Option.some.inj h
     subst h
     exact run (n:=100) (f:=94) (args:=[.v (.float .f32 a0),I a1]) (orc:=[.br false,.br false,.br false,.br true,.no]) (r:=I 3) (ob:=[((FloatKind.format .f32).order a0 (FloatKind.nearest .f32 a1) == some .gt)=true,((FloatKind.format .f32).order a0 4286578687 == some .lt)=false,((FloatKind.format .f32).order a0 2139095039 == some .gt)=false,((FloatKind.format .f32).order a0 a0 != some .eq)=false]) (by kernel_rfl) ⟨h4,(QY h3),(QY h2),(QY h1),trivial⟩
    ·replace h:=Qk h h4
     obtain ⟨h5,h⟩:=Qg h
     by_cases h6:((FloatKind.format .f32).order a0 ((fop .sub .f32 0 (FloatKind.nearest .f32 a1)).getD 0) == some .lt)=true
     ·replace h:=Qj h h6
      replace h:=Option.some.inj h
      subst h
      exact run (n:=100) (f:=94) (args:=[.v (.float .f32 a0),I a1]) (orc:=[.br false,.br false,.br false,.br false,.br true]) (r:=I 3) (ob:=[((FloatKind.format .f32).order a0 ((fop .sub .f32 0 (FloatKind.nearest .f32 a1)).getD 0) == some .lt)=true,(fop .sub .f32 0 (FloatKind.nearest .f32 a1)).isSome=true,((FloatKind.format .f32).order a0 (FloatKind.nearest .f32 a1) == some .gt)=false,((FloatKind.format .f32).order a0 4286578687 == some .lt)=false,((FloatKind.format .f32).order a0 2139095039 == some .gt)=false,((FloatKind.format .f32).order a0 a0 != some .eq)=false]) (by kernel_rfl) ⟨h6,h5,(QY h4),(QY h3),(QY h2),(QY h1),trivial⟩
     ·replace h:=Qk h h6
      obtain ⟨h7,h⟩:=Qg h
      obtain ⟨h8,h⟩:=Qg h
      obtain ⟨t9,h9,h⟩:=Qe h
      replace h:=Option.some.inj h
      subst h
      exact run (n:=100) (f:=94) (args:=[.v (.float .f32 a0),I a1]) (orc:=[.br false,.br false,.br false,.br false,.br false,.ret (I t9)]) (r:=I t9) (ob:=[Computes cx 93 [B ((FloatKind.format .f32).order (FloatKind.nearest .f32 ((f2i .f32 ((fop .mul .f32 1098907648 a0).getD 0) .i64).getD 0)) ((fop .mul .f32 1098907648 a0).getD 0) != some .eq),I 3] (I t9),(fop .mul .f32 1098907648 a0).isSome=true,(f2i .f32 ((fop .mul .f32 1098907648 a0).getD 0) .i64).isSome=true,(fop .mul .f32 1098907648 a0).isSome=true,((FloatKind.format .f32).order a0 ((fop .sub .f32 0 (FloatKind.nearest .f32 a1)).getD 0) == some .lt)=false,(fop .sub .f32 0 (FloatKind.nearest .f32 a1)).isSome=true,((FloatKind.format .f32).order a0 (FloatKind.nearest .f32 a1) == some .gt)=false,((FloatKind.format .f32).order a0 4286578687 == some .lt)=false,((FloatKind.format .f32).order a0 2139095039 == some .gt)=false,((FloatKind.format .f32).order a0 a0 != some .eq)=false]) (by kernel_rfl) ⟨(GI h9),h7,h8,h7,(QY h6),h5,(QY h4),(QY h3),(QY h2),(QY h1),trivial⟩
def Wb (n:Nat) (a0:Nat):Option (Int) :=
 (Zk n a0 1024).bind fun t1 =>
 some t1
theorem Y2 {n:Nat} {a0:Nat} {r:Int} (h:Wb n a0=some r):Computes cx 81 [.v (.float .f32 a0)] (I r):=by
 unfold Wb at h
 obtain ⟨t1,h1,h⟩:=Qe h
 replace h:=Option.some.inj h
 subst h
 exact run (n:=100) (f:=81) (args:=[.v (.float .f32 a0)]) (orc:=[.ret (I t1)]) (r:=I t1) (ob:=[Computes cx 94 [.v (.float .f32 a0),I 1024] (I t1)]) (by kernel_rfl) ⟨(E5 h1),trivial⟩
def QP (n:Nat) (a0:List D) (sa:(Int)):Option (((Int))⊕((Int)⊕(Unit))) :=
 if sa < ((a0).length:Int) then
  (el VQ a0 sa).bind fun ta2 =>
  (Wb n ta2).bind fun ta3 =>
  if ta3=0 then
   if Qb (sa+1) then
   some (.inl (sa+1))
   else none
  else
  some (.inr (.inl ta3))
 else
 some (.inr (.inr ()))
noncomputable def KS (a0:List D) (sa:(Int)):List (Nat×AV):=[(0,.d (.lst false 1 a0)),(3,.d (I sa))]
noncomputable def KX (a0:List D) (sa:(Int)):List (Nat×Blk):=[]
noncomputable def KO (a0:List D) (e:(Int)⊕(Unit)):Ex:=match e with
 | (.inl e)=>.ret
 | (.inr e)=>(.exit 0)
noncomputable def Kq (a0:List D) (e:(Int)⊕(Unit)):List (Nat×AV):=match e with
 | (.inl e)=>[(2,.d (I e))]
 | (.inr e)=>[]
noncomputable def Ks (a0:List D) (e:(Int)⊕(Unit)):List (Nat×Blk):=match e with
 | (.inl e)=>[]
 | (.inr e)=>[]
theorem V7 {n:Nat} {a0:List D} (sa:(Int)) (r) (h:QP n a0 sa=some r):Rd cx (Qp cx.P 56 0) 19 0 false (KS a0) (KX a0) (KO a0) (Kq a0) (Ks a0) sa r:=by
 unfold QP at h
 by_cases ha1:sa < ((a0).length:Int)
 ·replace h:=Qj h ha1
  obtain ⟨ta2,ha2,h⟩:=Qe h
  obtain ⟨ta3,ha3,h⟩:=Qe h
  by_cases ha4:ta3=0
  ·replace h:=Qj h ha4
   obtain ⟨ha5,h⟩:=Qg h
   replace h:=Option.some.inj h
   subst h
   exact ⟨100,2,[.br true,.el (.v (.float .f32 ta2)),.ret (I ta3),.br false],[],[0,3],[],Qh (ob:=[Qb (sa+1),(ta3 != 0)=false,Computes cx 81 [.v (.float .f32 ta2)] (I ta3),(0:Int)≤sa,nth (a0) (Int.toNat sa)=some (.v (.float .f32 ta2)),(decide (sa < ((a0).length:Int)))=true]) (by kernel_rfl) ⟨ha5,(nef ha4),(Y2 ha3),(Qm Qo ha2).1,(Qm Qo ha2).2,(decide_eq_true ha1),trivial⟩⟩
  ·replace h:=Qk h ha4
   replace h:=Option.some.inj h
   subst h
   exact ⟨⟨100,2,[.br true,.el (.v (.float .f32 ta2)),.ret (I ta3),.br true],[],[2],[],Qh (ob:=[(ta3 != 0)=true,Computes cx 81 [.v (.float .f32 ta2)] (I ta3),(0:Int)≤sa,nth (a0) (Int.toNat sa)=some (.v (.float .f32 ta2)),(decide (sa < ((a0).length:Int)))=true]) (by kernel_rfl) ⟨(net ha4),(Y2 ha3),(Qm Qo ha2).1,(Qm Qo ha2).2,(decide_eq_true ha1),trivial⟩⟩,nofun⟩
 ·replace h:=Qk h ha1
  replace h:=Option.some.inj h
  subst h
  exact ⟨⟨100,2,[.br false],[],[],[],Qh (ob:=[(decide (sa < ((a0).length:Int)))=false]) (by kernel_rfl) ⟨(decide_eq_false ha1),trivial⟩⟩,nofun⟩
def Z0 (n:Nat) (a0:List D):Option (Int) :=
 (QF (QP n a0) n 0).bind fun t1=>match t1 with
  | (.inl t1)=>(
   some t1)
  | (.inr t1)=>(
   some 0)
theorem GJ {n:Nat} {a0:List D} {r:Int} (h:Z0 n a0=some r):Computes cx 56 [.lst false 1 a0] (I r):=by
 unfold Z0 at h
 obtain ⟨t1,h1,h⟩:=Qe h
 rcases t1 with t1 | t1
 ·replace h:=Option.some.inj h
  subst h
  exact run (n:=100) (f:=56) (args:=[.lst false 1 a0]) (orc:=[.lp [] [0,3] [] .ret [(2,.d (I t1))] [] 28]) (r:=I t1) (ob:=[QX cx (Qp cx.P 56 0) 19 0 false [(0,.d (.lst false 1 a0)),(3,.d (I 0))] [] .ret [(2,.d (I t1))] []]) (by kernel_rfl) ⟨(Qt V7 h1),trivial⟩
 ·replace h:=Option.some.inj h
  subst h
  exact run (n:=100) (f:=56) (args:=[.lst false 1 a0]) (orc:=[.lp [] [0,3] [] (.exit 0) [] [] 28]) (r:=I 0) (ob:=[QX cx (Qp cx.P 56 0) 19 0 false [(0,.d (.lst false 1 a0)),(3,.d (I 0))] [] (.exit 0) [] []]) (by kernel_rfl) ⟨(Qt V7 h1),trivial⟩
def Zd (n:Nat) (a0 a1:Int) (a2:List D):Option (Int) :=
 (ZJ n a0).bind fun t1 =>
 (ZJ n a1).bind fun t2 =>
 (VM n ([I t1,I t2])).bind fun t3 =>
 if t3=0 then
  if Qb (a0 * a1) then
  if ((a2).length:Int)=(a0 * a1) then
   (Z0 n a2).bind fun t7 =>
   some t7
  else
  some 2
  else none
 else
 some t3
theorem YA {n:Nat} {a0 a1:Int} {a2:List D} {r:Int} (h:Zd n a0 a1 a2=some r):Computes cx 20 [.agg [I a0,I a1,.lst false 1 a2]] (I r):=by
 unfold Zd at h
 obtain ⟨t1,h1,h⟩:=Qe h
 obtain ⟨t2,h2,h⟩:=Qe h
 obtain ⟨t3,h3,h⟩:=Qe h
 by_cases h4:t3=0
 ·replace h:=Qj h h4
  obtain ⟨h5,h⟩:=Qg h
  by_cases h6:((a2).length:Int)=(a0 * a1)
  ·replace h:=Qj h h6
   obtain ⟨t7,h7,h⟩:=Qe h
   replace h:=Option.some.inj h
   subst h
   exact run (n:=100) (f:=20) (args:=[.agg [I a0,I a1,.lst false 1 a2]]) (orc:=[.ret (I t1),.ret (I t2),.ret (I t3),.br false,.br false,.ret (I t7)]) (r:=I t7) (ob:=[Computes cx 56 [.lst false 1 a2] (I t7),(((a2).length:Int) != (a0 * a1))=false,Qb (a0 * a1),(t3 != 0)=false,Computes cx 54 [.lst true 1 [I t1,I t2]] (I t3),Computes cx 55 [I a1] (I t2),Computes cx 55 [I a0] (I t1)]) (by kernel_rfl) ⟨(GJ h7),(nef h6),h5,(nef h4),((Kl h3).le (.cons (.full _ _ _) (.nil)) (.refl _)),(Z5 h2),(Z5 h1),trivial⟩
  ·replace h:=Qk h h6
   replace h:=Option.some.inj h
   subst h
   exact run (n:=100) (f:=20) (args:=[.agg [I a0,I a1,.lst false 1 a2]]) (orc:=[.ret (I t1),.ret (I t2),.ret (I t3),.br false,.br true]) (r:=I 2) (ob:=[(((a2).length:Int) != (a0 * a1))=true,Qb (a0 * a1),(t3 != 0)=false,Computes cx 54 [.lst true 1 [I t1,I t2]] (I t3),Computes cx 55 [I a1] (I t2),Computes cx 55 [I a0] (I t1)]) (by kernel_rfl) ⟨(net h6),h5,(nef h4),((Kl h3).le (.cons (.full _ _ _) (.nil)) (.refl _)),(Z5 h2),(Z5 h1),trivial⟩
 ·replace h:=Qk h h4
  replace h:=Option.some.inj h
  subst h
  exact run (n:=100) (f:=20) (args:=[.agg [I a0,I a1,.lst false 1 a2]]) (orc:=[.ret (I t1),.ret (I t2),.ret (I t3),.br true]) (r:=I t3) (ob:=[(t3 != 0)=true,Computes cx 54 [.lst true 1 [I t1,I t2]] (I t3),Computes cx 55 [I a1] (I t2),Computes cx 55 [I a0] (I t1)]) (by kernel_rfl) ⟨(net h4),((Kl h3).le (.cons (.full _ _ _) (.nil)) (.refl _)),(Z5 h2),(Z5 h1),trivial⟩
def QZ (n:Nat) (a0 a1:Int) (a2:List D) (sa:(Int)):Option (((Int))⊕((Unit)⊕(Unit))) :=
 if sa < ((a2).length:Int) then
  (el VQ a2 sa).bind fun ta2 =>
  if ((FloatKind.format .f32).order ta2 0 == some .lt)=true then
   some (.inr (.inl ()))
  else
  if Qb (sa+1) then
  some (.inl (sa+1))
  else none
 else
 some (.inr (.inr ()))
noncomputable def J9 (a0 a1:Int) (a2:List D) (sa:(Int)):List (Nat×AV):=[(1,.ptr 0 0 0 0 0),(4,.d (I sa))]
noncomputable def Gh (a0 a1:Int) (a2:List D) (sa:(Int)):List (Nat×Blk):=[(0,.box (.d (.agg [I a0,I a1,.lst false 1 a2])))]
noncomputable def JY (a0 a1:Int) (a2:List D) (e:(Unit)⊕(Unit)):Ex:=match e with
 | (.inl e)=>.ret
 | (.inr e)=>(.exit 0)
noncomputable def Jy (a0 a1:Int) (a2:List D) (e:(Unit)⊕(Unit)):List (Nat×AV):=match e with
 | (.inl e)=>[(2,.d (I 3))]
 | (.inr e)=>[]
noncomputable def JD (a0 a1:Int) (a2:List D) (e:(Unit)⊕(Unit)):List (Nat×Blk):=match e with
 | (.inl e)=>[]
 | (.inr e)=>[]
theorem Yr {n:Nat} {a0 a1:Int} {a2:List D} (sa:(Int)) (r) (h:QZ n a0 a1 a2 sa=some r):Rd cx (Qp cx.P 4 0) 23 0 false (J9 a0 a1 a2) (Gh a0 a1 a2) (JY a0 a1 a2) (Jy a0 a1 a2) (JD a0 a1 a2) sa r:=by
 unfold QZ at h
 by_cases ha1:sa < ((a2).length:Int)
 ·replace h:=Qj h ha1
  obtain ⟨ta2,ha2,h⟩:=Qe h
  by_cases ha3:((FloatKind.format .f32).order ta2 0 == some .lt)=true
  ·replace h:=Qj h ha3
   replace h:=Option.some.inj h
   subst h
   exact ⟨⟨100,8,[.br true,.el (.v (.float .f32 ta2)),.br true],[],[2],[],Qh (ob:=[((FloatKind.format .f32).order ta2 0 == some .lt)=true,(0:Int)≤sa,nth (a2) (Int.toNat sa)=some (.v (.float .f32 ta2)),(decide (sa < ((a2).length:Int)))=true]) (by kernel_rfl) ⟨ha3,(Qm Qo ha2).1,(Qm Qo ha2).2,(decide_eq_true ha1),trivial⟩⟩,nofun⟩
  ·replace h:=Qk h ha3
   obtain ⟨ha4,h⟩:=Qg h
   replace h:=Option.some.inj h
   subst h
   exact ⟨100,8,[.br true,.el (.v (.float .f32 ta2)),.br false],[],[1,4],[0],Qh (ob:=[Qb (sa+1),((FloatKind.format .f32).order ta2 0 == some .lt)=false,(0:Int)≤sa,nth (a2) (Int.toNat sa)=some (.v (.float .f32 ta2)),(decide (sa < ((a2).length:Int)))=true]) (by kernel_rfl) ⟨ha4,(QY ha3),(Qm Qo ha2).1,(Qm Qo ha2).2,(decide_eq_true ha1),trivial⟩⟩
 ·replace h:=Qk h ha1
  replace h:=Option.some.inj h
  subst h
  exact ⟨⟨100,8,[.br false],[],[],[],Qh (ob:=[(decide (sa < ((a2).length:Int)))=false]) (by kernel_rfl) ⟨(decide_eq_false ha1),trivial⟩⟩,nofun⟩
def QH (n:Nat) (a0 a1:Int) (a2:List D):Option (Int) :=
 (Zd n a0 a1 a2).bind fun t1 =>
 if t1=0 then
  (QF (QZ n a0 a1 a2) n 0).bind fun t3=>match t3 with
   | (.inl t3)=>(
    some 3)
   | (.inr t3)=>(
    some 0)
 else
 some t1
theorem QL {n:Nat} {a0 a1:Int} {a2:List D} {r:Int} (h:QH n a0 a1 a2=some r):Computes cx 4 [.agg [I a0,I a1,.lst false 1 a2]] (I r):=by
 unfold QH at h
 obtain ⟨t1,h1,h⟩:=Qe h
 by_cases h2:t1=0
 ·replace h:=Qj h h2
  obtain ⟨t3,h3,h⟩:=Qe h
  rcases t3 with t3 | t3
  ·replace h:=Option.some.inj h
   subst h
   exact run (n:=100) (f:=4) (args:=[.agg [I a0,I a1,.lst false 1 a2]]) (orc:=[.ret (I t1),.br false,.lp [] [1,4] [0] .ret [(2,.d (I 3))] [] 33]) (r:=I 3) (ob:=[QX cx (Qp cx.P 4 0) 23 0 false [(1,.ptr 0 0 0 0 0),(4,.d (I 0))] [(0,.box (.d (.agg [I a0,I a1,.lst false 1 a2])))] .ret [(2,.d (I 3))] [],(t1 != 0)=false,Computes cx 20 [.agg [I a0,I a1,.lst false 1 a2]] (I t1)]) (by kernel_rfl) ⟨(Qt Yr h3),(nef h2),(YA h1),trivial⟩
  ·replace h:=Option.some.inj h
   subst h
   exact run (n:=100) (f:=4) (args:=[.agg [I a0,I a1,.lst false 1 a2]]) (orc:=[.ret (I t1),.br false,.lp [] [1,4] [0] (.exit 0) [] [] 33]) (r:=I 0) (ob:=[QX cx (Qp cx.P 4 0) 23 0 false [(1,.ptr 0 0 0 0 0),(4,.d (I 0))] [(0,.box (.d (.agg [I a0,I a1,.lst false 1 a2])))] (.exit 0) [] [],(t1 != 0)=false,Computes cx 20 [.agg [I a0,I a1,.lst false 1 a2]] (I t1)]) (by kernel_rfl) ⟨(Qt Yr h3),(nef h2),(YA h1),trivial⟩
 ·replace h:=Qk h h2
  replace h:=Option.some.inj h
  subst h
  exact run (n:=100) (f:=4) (args:=[.agg [I a0,I a1,.lst false 1 a2]]) (orc:=[.ret (I t1),.br true]) (r:=I t1) (ob:=[(t1 != 0)=true,Computes cx 20 [.agg [I a0,I a1,.lst false 1 a2]] (I t1)]) (by kernel_rfl) ⟨(net h2),(YA h1),trivial⟩
def Zz (n:Nat) (a0 a1:Int):Option (Int) :=
 (QE n a0 (-100000) 100000).bind fun t1 =>
 (QE n a1 (-100000) 100000).bind fun t2 =>
 (QA n ([I t1,I t2])).bind fun t3 =>
 some t3
theorem Wo {n:Nat} {a0 a1:Int} {r:Int} (h:Zz n a0 a1=some r):Computes cx 32 [.agg [I a0,I a1]] (I r):=by
 unfold Zz at h
 obtain ⟨t1,h1,h⟩:=Qe h
 obtain ⟨t2,h2,h⟩:=Qe h
 obtain ⟨t3,h3,h⟩:=Qe h
 replace h:=Option.some.inj h
 subst h
 exact run (n:=100) (f:=32) (args:=[.agg [I a0,I a1]]) (orc:=[.ret (I t1),.ret (I t2),.ret (I t3)]) (r:=I t3) (ob:=[Computes cx 30 [.lst true 1 [I t1,I t2]] (I t3),Computes cx 39 [I a1,I (-100000),I 100000] (I t2),Computes cx 39 [I a0,I (-100000),I 100000] (I t1)]) (by kernel_rfl) ⟨((Qr h3).le (.cons (.full _ _ _) (.nil)) (.refl _)),(QD h2),(QD h1),trivial⟩
def Ww (n:Nat) (a0 a1:Int) (a2:List D) (a3 a4:Int) (a5:List D) (a6 a7:Int):Option (Int×Int×Int) :=
 (Zh n a0 a1 a2 a3 a4 a5).bind fun t1 =>
 (Zz n a6 a7).bind fun t2 =>
 (QA n ([I t1,I t2])).bind fun t3 =>
 if t3=0 then
  (V8 n a0 a1 a2 a3 a4 a5 a6 a7).bind fun t5 =>
  (Zu n (t5.2.2.2 == 0) 7).bind fun t6 =>
  some (t5.2.2.1,t5.2.2.2,t6)
 else
 some (0,0,t3)
theorem VW {n:Nat} {a0 a1:Int} {a2:List D} {a3 a4:Int} {a5:List D} {a6 a7:Int} {r:Int×Int×Int} (h:Ww n a0 a1 a2 a3 a4 a5 a6 a7=some r):Computes cx 8 [.agg [I a0,I a1,.lst false 1 a2],.agg [I a3,I a4,.lst false 1 a5],.agg [I a6,I a7]] (.tup [I r.1,I r.2.1,I r.2.2]):=by
 unfold Ww at h
 obtain ⟨t1,h1,h⟩:=Qe h
 obtain ⟨t2,h2,h⟩:=Qe h
 obtain ⟨t3,h3,h⟩:=Qe h
 by_cases h4:t3=0
 ·replace h:=Qj h h4
  obtain ⟨t5,h5,h⟩:=Qe h
  obtain ⟨t6,h6,h⟩:=Qe h
  replace h:=Option.some.inj h
  subst h
  exact run (n:=100) (f:=8) (args:=[.agg [I a0,I a1,.lst false 1 a2],.agg [I a3,I a4,.lst false 1 a5],.agg [I a6,I a7]]) (orc:=[.ret (I t1),.ret (I t2),.ret (I t3),.br false,.ret (.agg [I t5.1,I t5.2.1,I t5.2.2.1,I t5.2.2.2]),.ret (I t6)]) (r:=.tup [I t5.2.2.1,I t5.2.2.2,I t6]) (ob:=[Computes cx 34 [B (t5.2.2.2 == 0),I 7] (I t6),Computes cx 33 [.agg [I a0,I a1,.lst false 1 a2],.agg [I a3,I a4,.lst false 1 a5],.agg [I a6,I a7]] (.agg [I t5.1,I t5.2.1,I t5.2.2.1,I t5.2.2.2]),(t3 != 0)=false,Computes cx 30 [.lst true 1 [I t1,I t2]] (I t3),Computes cx 32 [.agg [I a6,I a7]] (I t2),Computes cx 31 [.agg [I a0,I a1,.lst false 1 a2],.agg [I a3,I a4,.lst false 1 a5]] (I t1)]) (by kernel_rfl) ⟨(Zt h6),(GK h5),(nef h4),((Qr h3).le (.cons (.full _ _ _) (.nil)) (.refl _)),(Wo h2),(VG h1),trivial⟩
 ·replace h:=Qk h h4
  replace h:=Option.some.inj h
  subst h
  exact run (n:=100) (f:=8) (args:=[.agg [I a0,I a1,.lst false 1 a2],.agg [I a3,I a4,.lst false 1 a5],.agg [I a6,I a7]]) (orc:=[.ret (I t1),.ret (I t2),.ret (I t3),.br true]) (r:=.tup [I 0,I 0,I t3]) (ob:=[(t3 != 0)=true,Computes cx 30 [.lst true 1 [I t1,I t2]] (I t3),Computes cx 32 [.agg [I a6,I a7]] (I t2),Computes cx 31 [.agg [I a0,I a1,.lst false 1 a2],.agg [I a3,I a4,.lst false 1 a5]] (I t1)]) (by kernel_rfl) ⟨(net h4),((Qr h3).le (.cons (.full _ _ _) (.nil)) (.refl _)),(Wo h2),(VG h1),trivial⟩
def Vp (n:Nat) (a0 a1:Int) (a2:List D) (a3 a4:Int) (a5:List D) (a6 a7:Int):Option (Int×Int×Int) :=
 (QV n a0 a1 a2 a3 a4 a5 a6 a7).bind fun t1 =>
 if t1=0 then
  (Zl n a0 a1 a2 a3 a4 a5 a6 a7).bind fun t3 =>
  if ((t3).length:Int) < 2 then
   some (0,0,18)
  else
  (el G8 t3 1).bind fun t5 =>
  (Zr n t5.2.2.1 t5.2.2.2).bind fun t6 =>
  some (t6.1,t6.2,0)
 else
 some (0,0,t1)
theorem UQ {n:Nat} {a0 a1:Int} {a2:List D} {a3 a4:Int} {a5:List D} {a6 a7:Int} {r:Int×Int×Int} (h:Vp n a0 a1 a2 a3 a4 a5 a6 a7=some r):Computes cx 11 [.agg [I a0,I a1,.lst false 1 a2],.agg [I a3,I a4,.lst false 1 a5],I a6,I a7] (.tup [.agg [I r.1,I r.2.1],I r.2.2]):=by
 unfold Vp at h
 obtain ⟨t1,h1,h⟩:=Qe h
 by_cases h2:t1=0
 ·replace h:=Qj h h2
  obtain ⟨t3,h3,h⟩:=Qe h
  by_cases h4:((t3).length:Int) < 2
  ·replace h:=Qj h h4
   replace h:=Option.some.inj h
   subst h
   exact run (n:=100) (f:=11) (args:=[.agg [I a0,I a1,.lst false 1 a2],.agg [I a3,I a4,.lst false 1 a5],I a6,I a7]) (orc:=[.ret (I t1),.br false,.ret (.lst false 4 t3),.br true]) (r:=.tup [.agg [I 0,I 0],I 18]) (ob:=[(decide (((t3).length:Int) < 2))=true,Computes cx 36 [.agg [I a0,I a1,.lst false 1 a2],.agg [I a3,I a4,.lst false 1 a5],I a6,I a7] (.lst false 4 t3),(t1 != 0)=false,Computes cx 35 [.agg [I a0,I a1,.lst false 1 a2],.agg [I a3,I a4,.lst false 1 a5],I a6,I a7] (I t1)]) (by kernel_rfl) ⟨(decide_eq_true h4),(Vd h3),(nef h2),(QU h1),trivial⟩
  ·replace h:=Qk h h4
   obtain ⟨t5,h5,h⟩:=Qe h
   obtain ⟨t6,h6,h⟩:=Qe h
   replace h:=Option.some.inj h
   subst h
   exact run (n:=100) (f:=11) (args:=[.agg [I a0,I a1,.lst false 1 a2],.agg [I a3,I a4,.lst false 1 a5],I a6,I a7]) (orc:=[.ret (I t1),.br false,.ret (.lst false 4 t3),.br false,.el (.agg [I t5.1,I t5.2.1,I t5.2.2.1,I t5.2.2.2]),.el (.agg [I t5.1,I t5.2.1,I t5.2.2.1,I t5.2.2.2]),.ret (.agg [I t6.1,I t6.2])]) (r:=.tup [.agg [I t6.1,I t6.2],I 0]) (ob:=[Computes cx 37 [I t5.2.2.1,I t5.2.2.2] (.agg [I t6.1,I t6.2]),(0:Int)≤1,nth (t3) (Int.toNat 1)=some (.agg [I t5.1,I t5.2.1,I t5.2.2.1,I t5.2.2.2]),(0:Int)≤1,nth (t3) (Int.toNat 1)=some (.agg [I t5.1,I t5.2.1,I t5.2.2.1,I t5.2.2.2]),(decide (((t3).length:Int) < 2))=false,Computes cx 36 [.agg [I a0,I a1,.lst false 1 a2],.agg [I a3,I a4,.lst false 1 a5],I a6,I a7] (.lst false 4 t3),(t1 != 0)=false,Computes cx 35 [.agg [I a0,I a1,.lst false 1 a2],.agg [I a3,I a4,.lst false 1 a5],I a6,I a7] (I t1)]) (by kernel_rfl) ⟨(GL h6),(Qm WG h5).1,(Qm WG h5).2,(Qm WG h5).1,(Qm WG h5).2,(decide_eq_false h4),(Vd h3),(nef h2),(QU h1),trivial⟩
 ·replace h:=Qk h h2
  replace h:=Option.some.inj h
  subst h
  exact run (n:=100) (f:=11) (args:=[.agg [I a0,I a1,.lst false 1 a2],.agg [I a3,I a4,.lst false 1 a5],I a6,I a7]) (orc:=[.ret (I t1),.br true]) (r:=.tup [.agg [I 0,I 0],I t1]) (ob:=[(t1 != 0)=true,Computes cx 35 [.agg [I a0,I a1,.lst false 1 a2],.agg [I a3,I a4,.lst false 1 a5],I a6,I a7] (I t1)]) (by kernel_rfl) ⟨(net h2),(QU h1),trivial⟩
def Q9 (n:Nat) (a0:Int):Option (Int) :=
 (QE n a0 1 1000).bind fun t1 =>
 some t1
theorem Wn {n:Nat} {a0:Int} {r:Int} (h:Q9 n a0=some r):Computes cx 38 [I a0] (I r):=by
 unfold Q9 at h
 obtain ⟨t1,h1,h⟩:=Qe h
 replace h:=Option.some.inj h
 subst h
 exact run (n:=100) (f:=38) (args:=[I a0]) (orc:=[.ret (I t1)]) (r:=I t1) (ob:=[Computes cx 39 [I a0,I 1,I 1000] (I t1)]) (by kernel_rfl) ⟨(QD h1),trivial⟩
def Vn (n:Nat) (a0 a1:Int):Option (Int×Int) :=
 if Qb (a0 - a1) then
 if Qb (a0+a1) then
 some ((a0 - a1),(a0+a1))
 else none
 else none
theorem GM {n:Nat} {a0 a1:Int} {r:Int×Int} (h:Vn n a0 a1=some r):Computes cx 40 [I a0,I a1] (.agg [I r.1,I r.2]):=by
 unfold Vn at h
 obtain ⟨h1,h⟩:=Qg h
 obtain ⟨h2,h⟩:=Qg h
 replace h:=Option.some.inj h
 subst h
 exact run (n:=100) (f:=40) (args:=[I a0,I a1]) (orc:=[]) (r:=.agg [I (a0 - a1),I (a0+a1)]) (ob:=[Qb (a0+a1),Qb (a0 - a1)]) (by kernel_rfl) ⟨h2,h1,trivial⟩
def Yl (n:Nat) (a0 a1:Int) (a2:List D) (a3 a4:Int) (a5:List D) (a6 a7 a8 a9:Int):Option (Int×Int×Int×Int×Int×Int) :=
 (QV n a0 a1 a2 a3 a4 a5 a6 a7).bind fun t1 =>
 (Q9 n a8).bind fun t2 =>
 (QE n a9 0 4).bind fun t3 =>
 (QA n ([I t1,I t2,I t3])).bind fun t4 =>
 if t4=0 then
  (Zs n a0 a1 a2 a3 a4 a5 a6 a7).bind fun t6 =>
  if t6.2.2.2.2=0 then
   (Vn n t6.1 a9).bind fun t8 =>
   (Vn n t6.2.1 a9).bind fun t9 =>
   some (a8,t8.1,t8.2,t9.1,t9.2,0)
  else
  some (0,0,0,0,0,t6.2.2.2.2)
 else
 some (0,0,0,0,0,t4)
theorem Ju {n:Nat} {a0 a1:Int} {a2:List D} {a3 a4:Int} {a5:List D} {a6 a7 a8 a9:Int} {r:Int×Int×Int×Int×Int×Int} (h:Yl n a0 a1 a2 a3 a4 a5 a6 a7 a8 a9=some r):Computes cx 12 [.agg [I a0,I a1,.lst false 1 a2],.agg [I a3,I a4,.lst false 1 a5],I a6,I a7,I a8,I a9] (.tup [.agg [I r.1,I r.2.1,I r.2.2.1,I r.2.2.2.1,I r.2.2.2.2.1],I r.2.2.2.2.2]):=by
 unfold Yl at h
 obtain ⟨t1,h1,h⟩:=Qe h
 obtain ⟨t2,h2,h⟩:=Qe h
 obtain ⟨t3,h3,h⟩:=Qe h
 obtain ⟨t4,h4,h⟩:=Qe h
 by_cases h5:t4=0
 ·replace h:=Qj h h5
  obtain ⟨t6,h6,h⟩:=Qe h
  by_cases h7:t6.2.2.2.2=0
  ·replace h:=Qj h h7
   obtain ⟨t8,h8,h⟩:=Qe h
   obtain ⟨t9,h9,h⟩:=Qe h
   replace h:=Option.some.inj h
   subst h
   exact run (n:=100) (f:=12) (args:=[.agg [I a0,I a1,.lst false 1 a2],.agg [I a3,I a4,.lst false 1 a5],I a6,I a7,I a8,I a9]) (orc:=[.ret (I t1),.ret (I t2),.ret (I t3),.ret (I t4),.br false,.ret (.tup [.agg [I t6.1,I t6.2.1],.agg [I t6.2.2.1,I t6.2.2.2.1],I t6.2.2.2.2]),.br false,.ret (.agg [I t8.1,I t8.2]),.ret (.agg [I t9.1,I t9.2])]) (r:=.tup [.agg [I a8,I t8.1,I t8.2,I t9.1,I t9.2],I 0]) (ob:=[Computes cx 40 [I t6.2.1,I a9] (.agg [I t9.1,I t9.2]),Computes cx 40 [I t6.1,I a9] (.agg [I t8.1,I t8.2]),(t6.2.2.2.2 != 0)=false,Computes cx 10 [.agg [I a0,I a1,.lst false 1 a2],.agg [I a3,I a4,.lst false 1 a5],I a6,I a7] (.tup [.agg [I t6.1,I t6.2.1],.agg [I t6.2.2.1,I t6.2.2.2.1],I t6.2.2.2.2]),(t4 != 0)=false,Computes cx 30 [.lst true 1 [I t1,I t2,I t3]] (I t4),Computes cx 39 [I a9,I 0,I 4] (I t3),Computes cx 38 [I a8] (I t2),Computes cx 35 [.agg [I a0,I a1,.lst false 1 a2],.agg [I a3,I a4,.lst false 1 a5],I a6,I a7] (I t1)]) (by kernel_rfl) ⟨(GM h9),(GM h8),(nef h7),(WH h6),(nef h5),((Qr h4).le (.cons (.full _ _ _) (.nil)) (.refl _)),(QD h3),(Wn h2),(QU h1),trivial⟩
  ·replace h:=Qk h h7
   replace h:=Option.some.inj h
   subst h
   exact run (n:=100) (f:=12) (args:=[.agg [I a0,I a1,.lst false 1 a2],.agg [I a3,I a4,.lst false 1 a5],I a6,I a7,I a8,I a9]) (orc:=[.ret (I t1),.ret (I t2),.ret (I t3),.ret (I t4),.br false,.ret (.tup [.agg [I t6.1,I t6.2.1],.agg [I t6.2.2.1,I t6.2.2.2.1],I t6.2.2.2.2]),.br true]) (r:=.tup [.agg [I 0,I 0,I 0,I 0,I 0],I t6.2.2.2.2]) (ob:=[(t6.2.2.2.2 != 0)=true,Computes cx 10 [.agg [I a0,I a1,.lst false 1 a2],.agg [I a3,I a4,.lst false 1 a5],I a6,I a7] (.tup [.agg [I t6.1,I t6.2.1],.agg [I t6.2.2.1,I t6.2.2.2.1],I t6.2.2.2.2]),(t4 != 0)=false,Computes cx 30 [.lst true 1 [I t1,I t2,I t3]] (I t4),Computes cx 39 [I a9,I 0,I 4] (I t3),Computes cx 38 [I a8] (I t2),Computes cx 35 [.agg [I a0,I a1,.lst false 1 a2],.agg [I a3,I a4,.lst false 1 a5],I a6,I a7] (I t1)]) (by kernel_rfl) ⟨(net h7),(WH h6),(nef h5),((Qr h4).le (.cons (.full _ _ _) (.nil)) (.refl _)),(QD h3),(Wn h2),(QU h1),trivial⟩
 ·replace h:=Qk h h5
  replace h:=Option.some.inj h
  subst h
  exact run (n:=100) (f:=12) (args:=[.agg [I a0,I a1,.lst false 1 a2],.agg [I a3,I a4,.lst false 1 a5],I a6,I a7,I a8,I a9]) (orc:=[.ret (I t1),.ret (I t2),.ret (I t3),.ret (I t4),.br true]) (r:=.tup [.agg [I 0,I 0,I 0,I 0,I 0],I t4]) (ob:=[(t4 != 0)=true,Computes cx 30 [.lst true 1 [I t1,I t2,I t3]] (I t4),Computes cx 39 [I a9,I 0,I 4] (I t3),Computes cx 38 [I a8] (I t2),Computes cx 35 [.agg [I a0,I a1,.lst false 1 a2],.agg [I a3,I a4,.lst false 1 a5],I a6,I a7] (I t1)]) (by kernel_rfl) ⟨(net h5),((Qr h4).le (.cons (.full _ _ _) (.nil)) (.refl _)),(QD h3),(Wn h2),(QU h1),trivial⟩
def Wv (n:Nat) (a0:Nat):Option (Int) :=
 (Zg n a0).bind fun t1 =>
 (Zu n ((FloatKind.format .f32).order a0 0 == some .lt || (FloatKind.format .f32).order a0 0 == some .eq) 3).bind fun t2 =>
 (QA n ([I t1,I t2])).bind fun t3 =>
 some t3
theorem Eg {n:Nat} {a0:Nat} {r:Int} (h:Wv n a0=some r):Computes cx 73 [.v (.float .f32 a0)] (I r):=by
 unfold Wv at h
 obtain ⟨t1,h1,h⟩:=Qe h
 obtain ⟨t2,h2,h⟩:=Qe h
 obtain ⟨t3,h3,h⟩:=Qe h
 replace h:=Option.some.inj h
 subst h
 exact run (n:=100) (f:=73) (args:=[.v (.float .f32 a0)]) (orc:=[.ret (I t1),.ret (I t2),.ret (I t3)]) (r:=I t3) (ob:=[Computes cx 30 [.lst true 1 [I t1,I t2]] (I t3),Computes cx 34 [B ((FloatKind.format .f32).order a0 0 == some .lt || (FloatKind.format .f32).order a0 0 == some .eq),I 3] (I t2),Computes cx 60 [.v (.float .f32 a0)] (I t1)]) (by kernel_rfl) ⟨((Qr h3).le (.cons (.full _ _ _) (.nil)) (.refl _)),(Zt h2),(Y3 h1),trivial⟩
def QG (n:Nat) (a0 a1:Int) (a2:List D) (a3:Nat):Option (Int) :=
 (ZB n a0 a1 a2).bind fun t1 =>
 (Wv n a3).bind fun t2 =>
 (QA n ([I t1,I t2])).bind fun t3 =>
 some t3
theorem Q2 {n:Nat} {a0 a1:Int} {a2:List D} {a3:Nat} {r:Int} (h:QG n a0 a1 a2 a3=some r):Computes cx 41 [.agg [I a0,I a1,.lst false 1 a2],.v (.float .f32 a3)] (I r):=by
 unfold QG at h
 obtain ⟨t1,h1,h⟩:=Qe h
 obtain ⟨t2,h2,h⟩:=Qe h
 obtain ⟨t3,h3,h⟩:=Qe h
 replace h:=Option.some.inj h
 subst h
 exact run (n:=100) (f:=41) (args:=[.agg [I a0,I a1,.lst false 1 a2],.v (.float .f32 a3)]) (orc:=[.ret (I t1),.ret (I t2),.ret (I t3)]) (r:=I t3) (ob:=[Computes cx 30 [.lst true 1 [I t1,I t2]] (I t3),Computes cx 73 [.v (.float .f32 a3)] (I t2),Computes cx 67 [.agg [I a0,I a1,.lst false 1 a2]] (I t1)]) (by kernel_rfl) ⟨((Qr h3).le (.cons (.full _ _ _) (.nil)) (.refl _)),(Eg h2),(Wp h1),trivial⟩
def Zv (n:Nat) (a0 a1:Int) (a2:List D) (a3:Nat) (sa:(Int)⊕(Int×List D)):Option (((Int)⊕(Int×List D))⊕((Unit)⊕(List D))):=match sa with
 | (.inl sa)=>(
  if sa < ((a2).length:Int) then
   (el VQ a2 sa).bind fun ta2 =>
   if a0≠0 then
   if Qb (Int.tdiv sa a0) then
   (ZH n ta2).bind fun ta5 =>
   (ZH n a3).bind fun ta6 =>
   if ta5 ≥ ta6 then
    if Qb (sa+1) then
    some (.inl (.inr ((sa+1),[.agg [I (Int.tmod sa a0),I (Int.tdiv sa a0)]])))
    else none
   else
   if Qb (sa+1) then
   some (.inl (.inl (sa+1)))
   else none
   else none
   else none
  else
  some (.inr (.inl ())))
 | (.inr sa)=>(
  if sa.1 < ((a2).length:Int) then
   (el VQ a2 sa.1).bind fun ta2 =>
   if a0≠0 then
   if Qb (Int.tdiv sa.1 a0) then
   (ZH n ta2).bind fun ta5 =>
   (ZH n a3).bind fun ta6 =>
   if ta5 ≥ ta6 then
    if Wm 16 ((sa.2).length+1) then
    if Qb (sa.1+1) then
    some (.inl (.inr ((sa.1+1),(sa.2++([.agg [I (Int.tmod sa.1 a0),I (Int.tdiv sa.1 a0)]]:List D)))))
    else none
    else none
   else
   if Qb (sa.1+1) then
   some (.inl (.inr ((sa.1+1),sa.2)))
   else none
   else none
   else none
  else
  some (.inr (.inr sa.2)))
noncomputable def wo (a0 a1:Int) (a2:List D) (a3:Nat) (sa:(Int)⊕(Int×List D)):List (Nat×AV):=match sa with
 | (.inl sa)=>[(0,.own 10 0),(1,.ptr 6 0 0 0 0),(6,.d (.lst false 1 a2)),(7,.d (I ((a2).length:Int))),(8,.d (I sa))]
 | (.inr sa)=>[(0,.own 10 0),(1,.ptr 6 0 0 0 0),(6,.d (.lst false 1 a2)),(7,.d (I ((a2).length:Int))),(8,.d (I sa.1))]
noncomputable def wr (a0 a1:Int) (a2:List D) (a3:Nat) (sa:(Int)⊕(Int×List D)):List (Nat×Blk):=match sa with
 | (.inl sa)=>[(0,.box (.d (.agg [I a0,I a1,.lst false 1 a2]))),(1,.box (.d (.v (.float .f32 a3)))),(3,.box (.d (.lst true 0 []))),(6,.box (.d (.agg [I a0,I a1,.lst false 1 a2]))),(10,.loop true [(9,.fn (.func 86) [] [.ptr 6 0 0 0 0]),(8,.d (.agg [I a0,I a1,.lst false 1 a2])),(5,.ptr 3 0 0 0 0),(4,.d (.lst true 0 [])),(3,.ptr 1 0 0 0 0),(2,.ptr 0 0 0 0 0),(1,.d (.v (.float .f32 a3))),(0,.d (.agg [I a0,I a1,.lst false 1 a2]))] [10,11] (Qu cx.P 42 0).1 (Qu cx.P 42 0).2 21)]
 | (.inr sa)=>[(0,.box (.d (.agg [I a0,I a1,.lst false 1 a2]))),(1,.box (.d (.v (.float .f32 a3)))),(3,.box (.own 45 0)),(6,.box (.d (.agg [I a0,I a1,.lst false 1 a2]))),(10,.loop true [(9,.fn (.func 86) [] [.ptr 6 0 0 0 0]),(8,.d (.agg [I a0,I a1,.lst false 1 a2])),(5,.ptr 3 0 0 0 0),(4,.d (.lst true 0 [])),(3,.ptr 1 0 0 0 0),(2,.ptr 0 0 0 0 0),(1,.d (.v (.float .f32 a3))),(0,.d (.agg [I a0,I a1,.lst false 1 a2]))] [10,11] (Qu cx.P 42 0).1 (Qu cx.P 42 0).2 21),(45,.row 0 2 sa.2)]
noncomputable def wi (a0 a1:Int) (a2:List D) (a3:Nat) (e:(Unit)⊕(List D)):Ex:=match e with
 | (.inl e)=>(.exit 0)
 | (.inr e)=>(.exit 0)
noncomputable def zq (a0 a1:Int) (a2:List D) (a3:Nat) (e:(Unit)⊕(List D)):List (Nat×AV):=match e with
 | (.inl e)=>[]
 | (.inr e)=>[]
noncomputable def zt (a0 a1:Int) (a2:List D) (a3:Nat) (e:(Unit)⊕(List D)):List (Nat×Blk):=match e with
 | (.inl e)=>[(0,.box (.d (.agg [I a0,I a1,.lst false 1 a2]))),(1,.box (.d (.v (.float .f32 a3)))),(3,.box (.d (.lst true 0 []))),(6,.box (.d (.agg [I a0,I a1,.lst false 1 a2]))),(10,.loop true [(9,.fn (.func 86) [] [.ptr 6 0 0 0 0]),(8,.d (.agg [I a0,I a1,.lst false 1 a2])),(5,.ptr 3 0 0 0 0),(4,.d (.lst true 0 [])),(3,.ptr 1 0 0 0 0),(2,.ptr 0 0 0 0 0),(1,.d (.v (.float .f32 a3))),(0,.d (.agg [I a0,I a1,.lst false 1 a2]))] [10,11] (Qu cx.P 42 0).1 (Qu cx.P 42 0).2 21)]
 | (.inr e)=>[(0,.box (.d (.agg [I a0,I a1,.lst false 1 a2]))),(1,.box (.d (.v (.float .f32 a3)))),(3,.box (.own 45 0)),(6,.box (.d (.agg [I a0,I a1,.lst false 1 a2]))),(10,.loop true [(9,.fn (.func 86) [] [.ptr 6 0 0 0 0]),(8,.d (.agg [I a0,I a1,.lst false 1 a2])),(5,.ptr 3 0 0 0 0),(4,.d (.lst true 0 [])),(3,.ptr 1 0 0 0 0),(2,.ptr 0 0 0 0 0),(1,.d (.v (.float .f32 a3))),(0,.d (.agg [I a0,I a1,.lst false 1 a2]))] [10,11] (Qu cx.P 42 0).1 (Qu cx.P 42 0).2 21),(45,.row 0 2 e)]
theorem JS {n:Nat} {a0 a1:Int} {a2:List D} {a3:Nat} (sa:(Int)⊕(Int×List D)) (r) (h:Zv n a0 a1 a2 a3 sa=some r):Rd cx (Qp cx.P 86 0) 28 11 false (wo a0 a1 a2 a3) (wr a0 a1 a2 a3) (wi a0 a1 a2 a3) (zq a0 a1 a2 a3) (zt a0 a1 a2 a3) sa r:=by
 unfold Zv at h
 rcases sa with sa | sa
 ·by_cases ha1:sa < ((a2).length:Int)
  ·replace h:=Qj h ha1
   obtain ⟨ta2,ha2,h⟩:=Qe h
   obtain ⟨ha3,h⟩:=Qg h
   obtain ⟨ha4,h⟩:=Qg h
   obtain ⟨ta5,ha5,h⟩:=Qe h
   obtain ⟨ta6,ha6,h⟩:=Qe h
   by_cases ha7:ta5 ≥ ta6
   ·replace h:=Qj h ha7
    obtain ⟨ha8,h⟩:=Qg h
    replace h:=Option.some.inj h
    subst h
    exact ⟨100,15,[.br true,.el (.v (.float .f32 ta2)),.ret (I ta5),.ret (I ta6),.br true,.no,.no,.no],[],[0,1,6,7,8],[0,1,3,6,10,45],Qh (ob:=[Qb (sa+1),(decide (ta5 ≥ ta6))=true,Computes cx 69 [.v (.float .f32 a3)] (I ta6),Computes cx 69 [.v (.float .f32 ta2)] (I ta5),a0≠0,Qb (Int.tdiv sa a0),a0≠0,(0:Int)≤sa,nth (a2) (Int.toNat sa)=some (.v (.float .f32 ta2)),(decide (sa < ((a2).length:Int)))=true]) (by kernel_rfl) ⟨ha8,(decide_eq_true ha7),(QQ ha6),(QQ ha5),ha3,ha4,ha3,(Qm Qo ha2).1,(Qm Qo ha2).2,(decide_eq_true ha1),trivial⟩⟩
   ·replace h:=Qk h ha7
    obtain ⟨ha8,h⟩:=Qg h
    replace h:=Option.some.inj h
    subst h
    exact ⟨100,15,[.br true,.el (.v (.float .f32 ta2)),.ret (I ta5),.ret (I ta6),.br false,.no],[],[0,1,6,7,8],[0,1,3,6,10],Qh (ob:=[Qb (sa+1),(decide (ta5 ≥ ta6))=false,Computes cx 69 [.v (.float .f32 a3)] (I ta6),Computes cx 69 [.v (.float .f32 ta2)] (I ta5),a0≠0,Qb (Int.tdiv sa a0),a0≠0,(0:Int)≤sa,nth (a2) (Int.toNat sa)=some (.v (.float .f32 ta2)),(decide (sa < ((a2).length:Int)))=true]) (by kernel_rfl) ⟨ha8,(decide_eq_false ha7),(QQ ha6),(QQ ha5),ha3,ha4,ha3,(Qm Qo ha2).1,(Qm Qo ha2).2,(decide_eq_true ha1),trivial⟩⟩
  ·replace h:=Qk h ha1
   replace h:=Option.some.inj h
   subst h
   exact ⟨⟨100,15,[.br false],[],[],[0,1,3,6,10],Qh (ob:=[(decide (sa < ((a2).length:Int)))=false]) (by kernel_rfl) ⟨(decide_eq_false ha1),trivial⟩⟩,nofun⟩
 ·by_cases ha1:sa.1 < ((a2).length:Int)
  ·replace h:=Qj h ha1
   obtain ⟨ta2,ha2,h⟩:=Qe h
   obtain ⟨ha3,h⟩:=Qg h
   obtain ⟨ha4,h⟩:=Qg h
   obtain ⟨ta5,ha5,h⟩:=Qe h
   obtain ⟨ta6,ha6,h⟩:=Qe h
   by_cases ha7:ta5 ≥ ta6
   ·replace h:=Qj h ha7
    obtain ⟨ha8,h⟩:=Qg h
    obtain ⟨ha9,h⟩:=Qg h
    replace h:=Option.some.inj h
    subst h
    exact ⟨100,46,[.br true,.el (.v (.float .f32 ta2)),.ret (I ta5),.ret (I ta6),.br true,.br true,.no],[],[0,1,6,7,8],[0,1,3,6,10,45],Qh (ob:=[Qb (sa.1+1),room cx 30 ((sa.2).length+1),(decide (ta5 ≥ ta6))=true,Computes cx 69 [.v (.float .f32 a3)] (I ta6),Computes cx 69 [.v (.float .f32 ta2)] (I ta5),a0≠0,Qb (Int.tdiv sa.1 a0),a0≠0,(0:Int)≤sa.1,nth (a2) (Int.toNat sa.1)=some (.v (.float .f32 ta2)),(decide (sa.1 < ((a2).length:Int)))=true]) (by kernel_rfl) ⟨ha9,(Qv (b:=16) (by kernel_rfl) (by decide) ha8),(decide_eq_true ha7),(QQ ha6),(QQ ha5),ha3,ha4,ha3,(Qm Qo ha2).1,(Qm Qo ha2).2,(decide_eq_true ha1),trivial⟩⟩
   ·replace h:=Qk h ha7
    obtain ⟨ha8,h⟩:=Qg h
    replace h:=Option.some.inj h
    subst h
    exact ⟨100,46,[.br true,.el (.v (.float .f32 ta2)),.ret (I ta5),.ret (I ta6),.br false,.no],[],[0,1,6,7,8],[0,1,3,6,10,45],Qh (ob:=[Qb (sa.1+1),(decide (ta5 ≥ ta6))=false,Computes cx 69 [.v (.float .f32 a3)] (I ta6),Computes cx 69 [.v (.float .f32 ta2)] (I ta5),a0≠0,Qb (Int.tdiv sa.1 a0),a0≠0,(0:Int)≤sa.1,nth (a2) (Int.toNat sa.1)=some (.v (.float .f32 ta2)),(decide (sa.1 < ((a2).length:Int)))=true]) (by kernel_rfl) ⟨ha8,(decide_eq_false ha7),(QQ ha6),(QQ ha5),ha3,ha4,ha3,(Qm Qo ha2).1,(Qm Qo ha2).2,(decide_eq_true ha1),trivial⟩⟩
  ·replace h:=Qk h ha1
   replace h:=Option.some.inj h
   subst h
   exact ⟨⟨100,46,[.br false],[],[],[0,1,3,6,10,45],Qh (ob:=[(decide (sa.1 < ((a2).length:Int)))=false]) (by kernel_rfl) ⟨(decide_eq_false ha1),trivial⟩⟩,nofun⟩
def W2 (n:Nat) (a0 a1:Int) (a2:List D) (a3:Nat):Option (List D) :=
 (QF (Zv n a0 a1 a2 a3) n (.inl 0)).bind fun t1=>match t1 with
  | (.inl t1)=>(
   some [])
  | (.inr t1)=>(
   some t1)
theorem Jt {n:Nat} {a0 a1:Int} {a2:List D} {a3:Nat} {r:List D} (h:W2 n a0 a1 a2 a3=some r):Computes cx 42 [.agg [I a0,I a1,.lst false 1 a2],.v (.float .f32 a3)] (.lst false 2 r):=by
 unfold W2 at h
 obtain ⟨t1,h1,h⟩:=Qe h
 rcases t1 with t1 | t1
 ·replace h:=Option.some.inj h
  subst h
  exact (run (n:=100) (f:=42) (args:=[.agg [I a0,I a1,.lst false 1 a2],.v (.float .f32 a3)]) (orc:=[.br true,.lp [] [0,1,6,7,8] [0,1,3,6,10] (.exit 0) [] [(0,.box (.d (.agg [I a0,I a1,.lst false 1 a2]))),(1,.box (.d (.v (.float .f32 a3)))),(3,.box (.d (.lst true 0 []))),(6,.box (.d (.agg [I a0,I a1,.lst false 1 a2]))),(10,.loop true [(9,.fn (.func 86) [] [.ptr 6 0 0 0 0]),(8,.d (.agg [I a0,I a1,.lst false 1 a2])),(5,.ptr 3 0 0 0 0),(4,.d (.lst true 0 [])),(3,.ptr 1 0 0 0 0),(2,.ptr 0 0 0 0 0),(1,.d (.v (.float .f32 a3))),(0,.d (.agg [I a0,I a1,.lst false 1 a2]))] [10,11] (Qu cx.P 42 0).1 (Qu cx.P 42 0).2 21)] 91]) (r:=.lst true 0 []) (ob:=[QX cx (Qp cx.P 86 0) 28 11 false [(0,.own 10 0),(1,.ptr 6 0 0 0 0),(6,.d (.lst false 1 a2)),(7,.d (I ((a2).length:Int))),(8,.d (I 0))] [(0,.box (.d (.agg [I a0,I a1,.lst false 1 a2]))),(1,.box (.d (.v (.float .f32 a3)))),(3,.box (.d (.lst true 0 []))),(6,.box (.d (.agg [I a0,I a1,.lst false 1 a2]))),(10,.loop true [(9,.fn (.func 86) [] [.ptr 6 0 0 0 0]),(8,.d (.agg [I a0,I a1,.lst false 1 a2])),(5,.ptr 3 0 0 0 0),(4,.d (.lst true 0 [])),(3,.ptr 1 0 0 0 0),(2,.ptr 0 0 0 0 0),(1,.d (.v (.float .f32 a3))),(0,.d (.agg [I a0,I a1,.lst false 1 a2]))] [10,11] (Qu cx.P 42 0).1 (Qu cx.P 42 0).2 21)] (.exit 0) [] [(0,.box (.d (.agg [I a0,I a1,.lst false 1 a2]))),(1,.box (.d (.v (.float .f32 a3)))),(3,.box (.d (.lst true 0 []))),(6,.box (.d (.agg [I a0,I a1,.lst false 1 a2]))),(10,.loop true [(9,.fn (.func 86) [] [.ptr 6 0 0 0 0]),(8,.d (.agg [I a0,I a1,.lst false 1 a2])),(5,.ptr 3 0 0 0 0),(4,.d (.lst true 0 [])),(3,.ptr 1 0 0 0 0),(2,.ptr 0 0 0 0 0),(1,.d (.v (.float .f32 a3))),(0,.d (.agg [I a0,I a1,.lst false 1 a2]))] [10,11] (Qu cx.P 42 0).1 (Qu cx.P 42 0).2 21)]]) (by kernel_rfl) ⟨(Qt JS h1),trivial⟩).le (LEs.refl _) (.nilF)
 ·replace h:=Option.some.inj h
  subst h
  exact run (n:=100) (f:=42) (args:=[.agg [I a0,I a1,.lst false 1 a2],.v (.float .f32 a3)]) (orc:=[.br true,.lp [] [0,1,6,7,8] [0,1,3,6,10] (.exit 0) [] [(0,.box (.d (.agg [I a0,I a1,.lst false 1 a2]))),(1,.box (.d (.v (.float .f32 a3)))),(3,.box (.own 45 0)),(6,.box (.d (.agg [I a0,I a1,.lst false 1 a2]))),(10,.loop true [(9,.fn (.func 86) [] [.ptr 6 0 0 0 0]),(8,.d (.agg [I a0,I a1,.lst false 1 a2])),(5,.ptr 3 0 0 0 0),(4,.d (.lst true 0 [])),(3,.ptr 1 0 0 0 0),(2,.ptr 0 0 0 0 0),(1,.d (.v (.float .f32 a3))),(0,.d (.agg [I a0,I a1,.lst false 1 a2]))] [10,11] (Qu cx.P 42 0).1 (Qu cx.P 42 0).2 21),(45,.row 0 2 t1)] 91]) (r:=.lst false 2 t1) (ob:=[QX cx (Qp cx.P 86 0) 28 11 false [(0,.own 10 0),(1,.ptr 6 0 0 0 0),(6,.d (.lst false 1 a2)),(7,.d (I ((a2).length:Int))),(8,.d (I 0))] [(0,.box (.d (.agg [I a0,I a1,.lst false 1 a2]))),(1,.box (.d (.v (.float .f32 a3)))),(3,.box (.d (.lst true 0 []))),(6,.box (.d (.agg [I a0,I a1,.lst false 1 a2]))),(10,.loop true [(9,.fn (.func 86) [] [.ptr 6 0 0 0 0]),(8,.d (.agg [I a0,I a1,.lst false 1 a2])),(5,.ptr 3 0 0 0 0),(4,.d (.lst true 0 [])),(3,.ptr 1 0 0 0 0),(2,.ptr 0 0 0 0 0),(1,.d (.v (.float .f32 a3))),(0,.d (.agg [I a0,I a1,.lst false 1 a2]))] [10,11] (Qu cx.P 42 0).1 (Qu cx.P 42 0).2 21)] (.exit 0) [] [(0,.box (.d (.agg [I a0,I a1,.lst false 1 a2]))),(1,.box (.d (.v (.float .f32 a3)))),(3,.box (.own 45 0)),(6,.box (.d (.agg [I a0,I a1,.lst false 1 a2]))),(10,.loop true [(9,.fn (.func 86) [] [.ptr 6 0 0 0 0]),(8,.d (.agg [I a0,I a1,.lst false 1 a2])),(5,.ptr 3 0 0 0 0),(4,.d (.lst true 0 [])),(3,.ptr 1 0 0 0 0),(2,.ptr 0 0 0 0 0),(1,.d (.v (.float .f32 a3))),(0,.d (.agg [I a0,I a1,.lst false 1 a2]))] [10,11] (Qu cx.P 42 0).1 (Qu cx.P 42 0).2 21),(45,.row 0 2 t1)]]) (by kernel_rfl) ⟨(Qt JS h1),trivial⟩
def Yn (n:Nat) (a0 a1:Int) (a2:List D) (a3:Nat):Option (List D×Int) :=
 (QG n a0 a1 a2 a3).bind fun t1 =>
 if t1=0 then
  (W2 n a0 a1 a2 a3).bind fun t3 =>
  some (t3,0)
 else
 some ([],t1)
theorem Jv {n:Nat} {a0 a1:Int} {a2:List D} {a3:Nat} {r:List D×Int} (h:Yn n a0 a1 a2 a3=some r):Computes cx 13 [.agg [I a0,I a1,.lst false 1 a2],.v (.float .f32 a3)] (.tup [.lst false 2 r.1,I r.2]):=by
 unfold Yn at h
 obtain ⟨t1,h1,h⟩:=Qe h
 by_cases h2:t1=0
 ·replace h:=Qj h h2
  obtain ⟨t3,h3,h⟩:=Qe h
  replace h:=Option.some.inj h
  subst h
  exact run (n:=100) (f:=13) (args:=[.agg [I a0,I a1,.lst false 1 a2],.v (.float .f32 a3)]) (orc:=[.ret (I t1),.br false,.ret (.lst false 2 t3)]) (r:=.tup [.lst false 2 t3,I 0]) (ob:=[Computes cx 42 [.agg [I a0,I a1,.lst false 1 a2],.v (.float .f32 a3)] (.lst false 2 t3),(t1 != 0)=false,Computes cx 41 [.agg [I a0,I a1,.lst false 1 a2],.v (.float .f32 a3)] (I t1)]) (by kernel_rfl) ⟨(Jt h3),(nef h2),(Q2 h1),trivial⟩
 ·replace h:=Qk h h2
  replace h:=Option.some.inj h
  subst h
  exact (run (n:=100) (f:=13) (args:=[.agg [I a0,I a1,.lst false 1 a2],.v (.float .f32 a3)]) (orc:=[.ret (I t1),.br true]) (r:=.tup [.lst true 0 [],I t1]) (ob:=[(t1 != 0)=true,Computes cx 41 [.agg [I a0,I a1,.lst false 1 a2],.v (.float .f32 a3)] (I t1)]) (by kernel_rfl) ⟨(net h2),(Q2 h1),trivial⟩).le (LEs.refl _) (.tups (.cons (.nilF) (.cons (.refl _) (.nil))))
def ZS (n:Nat) (a0 a1:Int):Option (Int) :=
 (QE n a0 (-1000) 1000).bind fun t1 =>
 (QE n a1 (-1000) 1000).bind fun t2 =>
 (Zu n (decide (a0 > a1)) 11).bind fun t3 =>
 (QA n ([I t1,I t2,I t3])).bind fun t4 =>
 if t4=0 then
  if Qb (a1 - a0) then
  (Zu n (decide ((a1 - a0) ≥ 9)) 5).bind fun t7 =>
  some t7
  else none
 else
 some t4
theorem UP {n:Nat} {a0 a1:Int} {r:Int} (h:ZS n a0 a1=some r):Computes cx 74 [.agg [I a0,I a1]] (I r):=by
 unfold ZS at h
 obtain ⟨t1,h1,h⟩:=Qe h
 obtain ⟨t2,h2,h⟩:=Qe h
 obtain ⟨t3,h3,h⟩:=Qe h
 obtain ⟨t4,h4,h⟩:=Qe h
 by_cases h5:t4=0
 ·replace h:=Qj h h5
  obtain ⟨h6,h⟩:=Qg h
  obtain ⟨t7,h7,h⟩:=Qe h
  replace h:=Option.some.inj h
  subst h
  exact run (n:=100) (f:=74) (args:=[.agg [I a0,I a1]]) (orc:=[.ret (I t1),.ret (I t2),.ret (I t3),.ret (I t4),.br false,.ret (I t7)]) (r:=I t7) (ob:=[Computes cx 34 [B (decide ((a1 - a0) ≥ 9)),I 5] (I t7),Qb (a1 - a0),(t4 != 0)=false,Computes cx 30 [.lst true 1 [I t1,I t2,I t3]] (I t4),Computes cx 34 [B (decide (a0 > a1)),I 11] (I t3),Computes cx 39 [I a1,I (-1000),I 1000] (I t2),Computes cx 39 [I a0,I (-1000),I 1000] (I t1)]) (by kernel_rfl) ⟨(Zt h7),h6,(nef h5),((Qr h4).le (.cons (.full _ _ _) (.nil)) (.refl _)),(Zt h3),(QD h2),(QD h1),trivial⟩
 ·replace h:=Qk h h5
  replace h:=Option.some.inj h
  subst h
  exact run (n:=100) (f:=74) (args:=[.agg [I a0,I a1]]) (orc:=[.ret (I t1),.ret (I t2),.ret (I t3),.ret (I t4),.br true]) (r:=I t4) (ob:=[(t4 != 0)=true,Computes cx 30 [.lst true 1 [I t1,I t2,I t3]] (I t4),Computes cx 34 [B (decide (a0 > a1)),I 11] (I t3),Computes cx 39 [I a1,I (-1000),I 1000] (I t2),Computes cx 39 [I a0,I (-1000),I 1000] (I t1)]) (by kernel_rfl) ⟨(net h5),((Qr h4).le (.cons (.full _ _ _) (.nil)) (.refl _)),(Zt h3),(QD h2),(QD h1),trivial⟩
def ZC (n:Nat) (a0 a1 a2 a3 a4:Int):Option (Int) :=
 (Q9 n a0).bind fun t1 =>
 (ZS n a1 a2).bind fun t2 =>
 (ZS n a3 a4).bind fun t3 =>
 (QA n ([I t1,I t2,I t3])).bind fun t4 =>
 some t4
theorem Zx {n:Nat} {a0 a1 a2 a3 a4:Int} {r:Int} (h:ZC n a0 a1 a2 a3 a4=some r):Computes cx 43 [.agg [I a0,I a1,I a2,I a3,I a4]] (I r):=by
 unfold ZC at h
 obtain ⟨t1,h1,h⟩:=Qe h
 obtain ⟨t2,h2,h⟩:=Qe h
 obtain ⟨t3,h3,h⟩:=Qe h
 obtain ⟨t4,h4,h⟩:=Qe h
 replace h:=Option.some.inj h
 subst h
 exact run (n:=100) (f:=43) (args:=[.agg [I a0,I a1,I a2,I a3,I a4]]) (orc:=[.ret (I t1),.ret (I t2),.ret (I t3),.ret (I t4)]) (r:=I t4) (ob:=[Computes cx 30 [.lst true 1 [I t1,I t2,I t3]] (I t4),Computes cx 74 [.agg [I a3,I a4]] (I t3),Computes cx 74 [.agg [I a1,I a2]] (I t2),Computes cx 38 [I a0] (I t1)]) (by kernel_rfl) ⟨((Qr h4).le (.cons (.full _ _ _) (.nil)) (.refl _)),(UP h3),(UP h2),(Wn h1),trivial⟩
def QN (n:Nat) (a0 a1 a2 a3 a4:Int) (sa:Int×List D) (sb:(Int×List D)):Option (((Int×List D))⊕((List D))) :=
 if sb.1 < ((a2 - a1)+1) then
  if Qb (a1+sb.1) then
  if Qb (a3+sa.1) then
  if Wm 16 ((sb.2).length+1) then
  if Qb (sb.1+1) then
  some (.inl ((sb.1+1),(sb.2++([.agg [I (a1+sb.1),I (a3+sa.1)]]:List D))))
  else none
  else none
  else none
  else none
 else
 some (.inr sb.2)
noncomputable def Ku (a0 a1 a2 a3 a4:Int) (sa:Int×List D) (sb:(Int×List D)):List (Nat×AV):=[(1,.ptr 0 0 0 0 0),(3,.own 12 0),(4,.d (I sa.1)),(13,.d (I ((a4 - a3)+1))),(14,.d (I sa.1)),(24,.d (I ((a2 - a1)+1))),(25,.d (I sb.1))]
noncomputable def Ky (a0 a1 a2 a3 a4:Int) (sa:Int×List D) (sb:(Int×List D)):List (Nat×Blk):=[(0,.box (.d (.agg [I a0,I a1,I a2,I a3,I a4]))),(12,.row 0 2 sb.2)]
noncomputable def Ko (a0 a1 a2 a3 a4:Int) (sa:Int×List D) (e:(List D)):Ex:=(.exit 2)
noncomputable def UT (a0 a1 a2 a3 a4:Int) (sa:Int×List D) (e:(List D)):List (Nat×AV):=[(1,.ptr 0 0 0 0 0),(3,.own 12 0),(13,.d (I ((a4 - a3)+1))),(14,.d (I sa.1))]
noncomputable def UV (a0 a1 a2 a3 a4:Int) (sa:Int×List D) (e:(List D)):List (Nat×Blk):=[(0,.box (.d (.agg [I a0,I a1,I a2,I a3,I a4]))),(12,.row 0 2 e)]
theorem Kw {n:Nat} {a0 a1 a2 a3 a4:Int} {sa:Int×List D} (sb:(Int×List D)) (r) (h:QN n a0 a1 a2 a3 a4 sa sb=some r):Rd cx (Qp cx.P 44 1) 45 0 false (Ku a0 a1 a2 a3 a4 sa) (Ky a0 a1 a2 a3 a4 sa) (Ko a0 a1 a2 a3 a4 sa) (UT a0 a1 a2 a3 a4 sa) (UV a0 a1 a2 a3 a4 sa) sb r:=by
 unfold QN at h
 by_cases hb1:sb.1 < ((a2 - a1)+1)
 ·replace h:=Qj h hb1
  obtain ⟨hb2,h⟩:=Qg h
  obtain ⟨hb3,h⟩:=Qg h
  obtain ⟨hb4,h⟩:=Qg h
  obtain ⟨hb5,h⟩:=Qg h
  replace h:=Option.some.inj h
  subst h
  exact ⟨100,25,[.br true,.br true],[],[1,3,4,13,14,24,25],[0,12],Qh (ob:=[Qb (sb.1+1),room cx 30 ((sb.2).length+1),Qb (a3+sa.1),Qb (a1+sb.1),(decide (sb.1 < ((a2 - a1)+1)))=true]) (by kernel_rfl) ⟨hb5,(Qv (b:=16) (by kernel_rfl) (by decide) hb4),hb3,hb2,(decide_eq_true hb1),trivial⟩⟩
 ·replace h:=Qk h hb1
  replace h:=Option.some.inj h
  subst h
  exact ⟨⟨100,25,[.br false],[],[1,3,13,14],[0,12],Qh (ob:=[(decide (sb.1 < ((a2 - a1)+1)))=false]) (by kernel_rfl) ⟨(decide_eq_false hb1),trivial⟩⟩,nofun⟩
def QM (n:Nat) (a0 a1 a2 a3 a4:Int) (sa:(Int×List D)):Option (((Int×List D))⊕((List D))) :=
 if sa.1 < ((a4 - a3)+1) then
  if Qb (a2 - a1) then
  if Qb ((a2 - a1)+1) then
  (QF (QN n a0 a1 a2 a3 a4 sa) n (0,sa.2)).bind fun ta4 =>
  if Qb (sa.1+1) then
  some (.inl ((sa.1+1),ta4))
  else none
  else none
  else none
 else
 some (.inr sa.2)
noncomputable def Kt (a0 a1 a2 a3 a4:Int) (sa:(Int×List D)):List (Nat×AV):=[(1,.ptr 0 0 0 0 0),(3,.own 12 0),(13,.d (I ((a4 - a3)+1))),(14,.d (I sa.1))]
noncomputable def Kx (a0 a1 a2 a3 a4:Int) (sa:(Int×List D)):List (Nat×Blk):=[(0,.box (.d (.agg [I a0,I a1,I a2,I a3,I a4]))),(12,.row 0 2 sa.2)]
noncomputable def Kn (a0 a1 a2 a3 a4:Int) (e:(List D)):Ex:=(.exit 0)
noncomputable def US (a0 a1 a2 a3 a4:Int) (e:(List D)):List (Nat×AV):=[(3,.own 12 0)]
noncomputable def UU (a0 a1 a2 a3 a4:Int) (e:(List D)):List (Nat×Blk):=[(12,.row 0 2 e)]
theorem Kv {n:Nat} {a0 a1 a2 a3 a4:Int} (sa:(Int×List D)) (r) (h:QM n a0 a1 a2 a3 a4 sa=some r):Rd cx (Qp cx.P 44 0) 45 0 false (Kt a0 a1 a2 a3 a4) (Kx a0 a1 a2 a3 a4) (Kn a0 a1 a2 a3 a4) (US a0 a1 a2 a3 a4) (UU a0 a1 a2 a3 a4) sa r:=by
 unfold QM at h
 by_cases ha1:sa.1 < ((a4 - a3)+1)
 ·replace h:=Qj h ha1
  obtain ⟨ha2,h⟩:=Qg h
  obtain ⟨ha3,h⟩:=Qg h
  obtain ⟨ta4,ha4,h⟩:=Qe h
  obtain ⟨ha5,h⟩:=Qg h
  replace h:=Option.some.inj h
  subst h
  exact ⟨100,13,[.br true,.lp [] [1,3,4,13,14,24,25] [0,12] (.exit 2) [(1,.ptr 0 0 0 0 0),(3,.own 12 0),(13,.d (I ((a4 - a3)+1))),(14,.d (I sa.1))] [(0,.box (.d (.agg [I a0,I a1,I a2,I a3,I a4]))),(12,.row 0 2 ta4)] 56],[],[1,3,13,14],[0,12],Qh (ob:=[Qb (sa.1+1),QX cx (Qp cx.P 44 1) 45 0 false [(1,.ptr 0 0 0 0 0),(3,.own 12 0),(4,.d (I sa.1)),(13,.d (I ((a4 - a3)+1))),(14,.d (I sa.1)),(24,.d (I ((a2 - a1)+1))),(25,.d (I 0))] [(0,.box (.d (.agg [I a0,I a1,I a2,I a3,I a4]))),(12,.row 0 2 sa.2)] (.exit 2) [(1,.ptr 0 0 0 0 0),(3,.own 12 0),(13,.d (I ((a4 - a3)+1))),(14,.d (I sa.1))] [(0,.box (.d (.agg [I a0,I a1,I a2,I a3,I a4]))),(12,.row 0 2 ta4)],Qb ((a2 - a1)+1),Qb (a2 - a1),(decide (sa.1 < ((a4 - a3)+1)))=true]) (by kernel_rfl) ⟨ha5,(Qt Kw ha4),ha3,ha2,(decide_eq_true ha1),trivial⟩⟩
 ·replace h:=Qk h ha1
  replace h:=Option.some.inj h
  subst h
  exact ⟨⟨100,13,[.br false],[],[3],[12],Qh (ob:=[(decide (sa.1 < ((a4 - a3)+1)))=false]) (by kernel_rfl) ⟨(decide_eq_false ha1),trivial⟩⟩,nofun⟩
def Zp (n:Nat) (a0 a1 a2 a3 a4:Int):Option (List D) :=
 if Qb (a4 - a3) then
 if Qb ((a4 - a3)+1) then
 (QF (QM n a0 a1 a2 a3 a4) n (0,[])).bind fun t3 =>
 some t3
 else none
 else none
theorem Yp {n:Nat} {a0 a1 a2 a3 a4:Int} {r:List D} (h:Zp n a0 a1 a2 a3 a4=some r):Computes cx 44 [.agg [I a0,I a1,I a2,I a3,I a4]] (.lst false 2 r):=by
 unfold Zp at h
 obtain ⟨h1,h⟩:=Qg h
 obtain ⟨h2,h⟩:=Qg h
 obtain ⟨t3,h3,h⟩:=Qe h
 replace h:=Option.some.inj h
 subst h
 exact run (n:=100) (f:=44) (args:=[.agg [I a0,I a1,I a2,I a3,I a4]]) (orc:=[.lp [3,2] [1,3,13,14] [0,12] (.exit 0) [(3,.own 12 0)] [(12,.row 0 2 t3)] 69]) (r:=.lst false 2 t3) (ob:=[QX cx (Qp cx.P 44 0) 45 0 false [(1,.ptr 0 0 0 0 0),(3,.own 12 0),(13,.d (I ((a4 - a3)+1))),(14,.d (I 0))] [(0,.box (.d (.agg [I a0,I a1,I a2,I a3,I a4]))),(12,.row 0 2 [])] (.exit 0) [(3,.own 12 0)] [(12,.row 0 2 t3)],Qb ((a4 - a3)+1),Qb (a4 - a3)]) (by kernel_rfl) ⟨(Qt Kv h3),h2,h1,trivial⟩
def W5 (n:Nat) (a0 a1 a2 a3 a4:Int):Option (List D×Int) :=
 (ZC n a0 a1 a2 a3 a4).bind fun t1 =>
 if t1=0 then
  (Zp n a0 a1 a2 a3 a4).bind fun t3 =>
  some (t3,0)
 else
 some ([],t1)
theorem JP {n:Nat} {a0 a1 a2 a3 a4:Int} {r:List D×Int} (h:W5 n a0 a1 a2 a3 a4=some r):Computes cx 14 [.agg [I a0,I a1,I a2,I a3,I a4]] (.tup [.lst false 2 r.1,I r.2]):=by
 unfold W5 at h
 obtain ⟨t1,h1,h⟩:=Qe h
 by_cases h2:t1=0
 ·replace h:=Qj h h2
  obtain ⟨t3,h3,h⟩:=Qe h
  replace h:=Option.some.inj h
  subst h
  exact run (n:=100) (f:=14) (args:=[.agg [I a0,I a1,I a2,I a3,I a4]]) (orc:=[.ret (I t1),.br false,.ret (.lst false 2 t3)]) (r:=.tup [.lst false 2 t3,I 0]) (ob:=[Computes cx 44 [.agg [I a0,I a1,I a2,I a3,I a4]] (.lst false 2 t3),(t1 != 0)=false,Computes cx 43 [.agg [I a0,I a1,I a2,I a3,I a4]] (I t1)]) (by kernel_rfl) ⟨(Yp h3),(nef h2),(Zx h1),trivial⟩
 ·replace h:=Qk h h2
  replace h:=Option.some.inj h
  subst h
  exact (run (n:=100) (f:=14) (args:=[.agg [I a0,I a1,I a2,I a3,I a4]]) (orc:=[.ret (I t1),.br true]) (r:=.tup [.lst true 0 [],I t1]) (ob:=[(t1 != 0)=true,Computes cx 43 [.agg [I a0,I a1,I a2,I a3,I a4]] (I t1)]) (by kernel_rfl) ⟨(net h2),(Zx h1),trivial⟩).le (LEs.refl _) (.tups (.cons (.nilF) (.cons (.refl _) (.nil))))
def Qn (x:Int×Int):D:=.agg [I x.1,I x.2]
def VS:D→Option (Int×Int)
 | .agg [c0,c1]=>(Kg .i64 c0).bind fun y0=>(Kg .i64 c1).bind fun y1=>some (y0,y1)
 | _=>none
theorem Qx {d:D} {x:Int×Int} (h:VS d=some x):d=Qn x:=by
 unfold VS at h
 split at h
 case h_2=>cases h
 obtain ⟨y0,h0,h⟩:=Qe h
 obtain ⟨y1,h1,h⟩:=Qe h
 cases h
 have e0:=V1 h0
 have e1:=V1 h1
 rw [e0,e1];rfl
def Wq (n:Nat) (a0:List D) (a1 a2:Int) (sa:(Int)):Option (((Int))⊕((Unit)⊕(Unit))) :=
 if sa < ((a0).length:Int) then
  (el VS a0 sa).bind fun ta2 =>
  if ((ta2.1 == a1) && ((ta2.2 == a2) && true))=true then
   some (.inr (.inl ()))
  else
  if Qb (sa+1) then
  some (.inl (sa+1))
  else none
 else
 some (.inr (.inr ()))
noncomputable def jU (a0:List D) (a1 a2:Int) (sa:(Int)):List (Nat×AV):=[(0,.d (.lst false 2 a0)),(3,.ptr 0 0 0 0 0),(5,.d (I sa))]
noncomputable def jX (a0:List D) (a1 a2:Int) (sa:(Int)):List (Nat×Blk):=[(0,.box (.d (.agg [I a1,I a2])))]
noncomputable def jQ (a0:List D) (a1 a2:Int) (e:(Unit)⊕(Unit)):Ex:=match e with
 | (.inl e)=>.ret
 | (.inr e)=>(.exit 0)
noncomputable def wj (a0:List D) (a1 a2:Int) (e:(Unit)⊕(Unit)):List (Nat×AV):=match e with
 | (.inl e)=>[(4,.d (B true))]
 | (.inr e)=>[]
noncomputable def wl (a0:List D) (a1 a2:Int) (e:(Unit)⊕(Unit)):List (Nat×Blk):=match e with
 | (.inl e)=>[]
 | (.inr e)=>[]
theorem G0 {n:Nat} {a0:List D} {a1 a2:Int} (sa:(Int)) (r) (h:Wq n a0 a1 a2 sa=some r):Rd cx (Qp cx.P 15 0) 18 0 false (jU a0 a1 a2) (jX a0 a1 a2) (jQ a0 a1 a2) (wj a0 a1 a2) (wl a0 a1 a2) sa r:=by
 unfold Wq at h
 by_cases ha1:sa < ((a0).length:Int)
 ·replace h:=Qj h ha1
  obtain ⟨ta2,ha2,h⟩:=Qe h
  by_cases ha3:((ta2.1 == a1) && ((ta2.2 == a2) && true))=true
  ·replace h:=Qj h ha3
   replace h:=Option.some.inj h
   subst h
   exact ⟨⟨100,3,[.br true,.el (.agg [I ta2.1,I ta2.2]),.br true],[],[4],[],Qh (ob:=[((ta2.1 == a1) && ((ta2.2 == a2) && true))=true,(0:Int)≤sa,nth (a0) (Int.toNat sa)=some (.agg [I ta2.1,I ta2.2]),(decide (sa < ((a0).length:Int)))=true]) (by kernel_rfl) ⟨ha3,(Qm Qx ha2).1,(Qm Qx ha2).2,(decide_eq_true ha1),trivial⟩⟩,nofun⟩
  ·replace h:=Qk h ha3
   obtain ⟨ha4,h⟩:=Qg h
   replace h:=Option.some.inj h
   subst h
   exact ⟨100,3,[.br true,.el (.agg [I ta2.1,I ta2.2]),.br false],[],[0,3,5],[0],Qh (ob:=[Qb (sa+1),((ta2.1 == a1) && ((ta2.2 == a2) && true))=false,(0:Int)≤sa,nth (a0) (Int.toNat sa)=some (.agg [I ta2.1,I ta2.2]),(decide (sa < ((a0).length:Int)))=true]) (by kernel_rfl) ⟨ha4,(QY ha3),(Qm Qx ha2).1,(Qm Qx ha2).2,(decide_eq_true ha1),trivial⟩⟩
 ·replace h:=Qk h ha1
  replace h:=Option.some.inj h
  subst h
  exact ⟨⟨100,3,[.br false],[],[],[],Qh (ob:=[(decide (sa < ((a0).length:Int)))=false]) (by kernel_rfl) ⟨(decide_eq_false ha1),trivial⟩⟩,nofun⟩
def YV (n:Nat) (a0:List D) (a1 a2:Int):Option (Bool) :=
 (QF (Wq n a0 a1 a2) n 0).bind fun t1=>match t1 with
  | (.inl t1)=>(
   some true)
  | (.inr t1)=>(
   some false)
theorem zV {n:Nat} {a0:List D} {a1 a2:Int} {r:Bool} (h:YV n a0 a1 a2=some r):Computes cx 15 [.lst false 2 a0,.agg [I a1,I a2]] (B r):=by
 unfold YV at h
 obtain ⟨t1,h1,h⟩:=Qe h
 rcases t1 with t1 | t1
 ·replace h:=Option.some.inj h
  subst h
  exact run (n:=100) (f:=15) (args:=[.lst false 2 a0,.agg [I a1,I a2]]) (orc:=[.lp [] [0,3,5] [0] .ret [(4,.d (B true))] [] 27]) (r:=B true) (ob:=[QX cx (Qp cx.P 15 0) 18 0 false [(0,.d (.lst false 2 a0)),(3,.ptr 0 0 0 0 0),(5,.d (I 0))] [(0,.box (.d (.agg [I a1,I a2])))] .ret [(4,.d (B true))] []]) (by kernel_rfl) ⟨(Qt G0 h1),trivial⟩
 ·replace h:=Option.some.inj h
  subst h
  exact run (n:=100) (f:=15) (args:=[.lst false 2 a0,.agg [I a1,I a2]]) (orc:=[.lp [] [0,3,5] [0] (.exit 0) [] [] 27]) (r:=B false) (ob:=[QX cx (Qp cx.P 15 0) 18 0 false [(0,.d (.lst false 2 a0)),(3,.ptr 0 0 0 0 0),(5,.d (I 0))] [(0,.box (.d (.agg [I a1,I a2])))] (.exit 0) [] []]) (by kernel_rfl) ⟨(Qt G0 h1),trivial⟩
def ZA (n:Nat) (a0:Int):Option (Int) :=
 (QE n a0 0 1000).bind fun t1 =>
 some t1
theorem WY {n:Nat} {a0:Int} {r:Int} (h:ZA n a0=some r):Computes cx 75 [I a0] (I r):=by
 unfold ZA at h
 obtain ⟨t1,h1,h⟩:=Qe h
 replace h:=Option.some.inj h
 subst h
 exact run (n:=100) (f:=75) (args:=[I a0]) (orc:=[.ret (I t1)]) (r:=I t1) (ob:=[Computes cx 39 [I a0,I 0,I 1000] (I t1)]) (by kernel_rfl) ⟨(QD h1),trivial⟩
def ZN (n:Nat) (a0:List D) (sa:(Int×List D)):Option (((Int×List D))⊕((List D))) :=
 if sa.1 < ((a0).length:Int) then
  (el VS a0 sa.1).bind fun ta2 =>
  (Zz n ta2.1 ta2.2).bind fun ta3 =>
  if Wm 8 ((sa.2).length+1) then
  if Qb (sa.1+1) then
  some (.inl ((sa.1+1),(sa.2++([I ta3]:List D))))
  else none
  else none
 else
 some (.inr sa.2)
noncomputable def XA (a0:List D) (sa:(Int×List D)):List (Nat×AV):=[(1,.d (.fn (.func 32) [] [])),(5,.own 5 0),(8,.d (.lst false 2 a0)),(9,.d (I ((a0).length:Int))),(10,.d (I sa.1))]
noncomputable def XE (a0:List D) (sa:(Int×List D)):List (Nat×Blk):=[(5,.row 0 1 sa.2)]
noncomputable def Xu (a0:List D) (e:(List D)):Ex:=(.exit 0)
noncomputable def GU (a0:List D) (e:(List D)):List (Nat×AV):=[(5,.own 5 0)]
noncomputable def GW (a0:List D) (e:(List D)):List (Nat×Blk):=[(5,.row 0 1 e)]
theorem XC {n:Nat} {a0:List D} (sa:(Int×List D)) (r) (h:ZN n a0 sa=some r):Rd cx (Qp cx.P 76 0) 22 0 false (XA a0) (XE a0) (Xu a0) (GU a0) (GW a0) sa r:=by
 unfold ZN at h
 by_cases ha1:sa.1 < ((a0).length:Int)
 ·replace h:=Qj h ha1
  obtain ⟨ta2,ha2,h⟩:=Qe h
  obtain ⟨ta3,ha3,h⟩:=Qe h
  obtain ⟨ha4,h⟩:=Qg h
  obtain ⟨ha5,h⟩:=Qg h
  replace h:=Option.some.inj h
  subst h
  exact ⟨100,6,[.br true,.el (.agg [I ta2.1,I ta2.2]),.ret (I ta3),.br true],[],[1,5,8,9,10],[5],Qh (ob:=[Qb (sa.1+1),room cx 32 ((sa.2).length+1),Computes cx 32 [.agg [I ta2.1,I ta2.2]] (I ta3),(0:Int)≤sa.1,nth (a0) (Int.toNat sa.1)=some (.agg [I ta2.1,I ta2.2]),(decide (sa.1 < ((a0).length:Int)))=true]) (by kernel_rfl) ⟨ha5,(Qv (b:=8) (by kernel_rfl) (by decide) ha4),(Wo ha3),(Qm Qx ha2).1,(Qm Qx ha2).2,(decide_eq_true ha1),trivial⟩⟩
 ·replace h:=Qk h ha1
  replace h:=Option.some.inj h
  subst h
  exact ⟨⟨100,6,[.br false],[],[5],[5],Qh (ob:=[(decide (sa.1 < ((a0).length:Int)))=false]) (by kernel_rfl) ⟨(decide_eq_false ha1),trivial⟩⟩,nofun⟩
def VC (n:Nat) (a0:List D):Option (List D) :=
 (QF (ZN n a0) n (0,[])).bind fun t1 =>
 some t1
theorem KJ {n:Nat} {a0:List D} {r:List D} (h:VC n a0=some r):Computes cx 76 [.lst false 2 a0,.fn (.func 32) [] []] (.lst false 1 r):=by
 unfold VC at h
 obtain ⟨t1,h1,h⟩:=Qe h
 replace h:=Option.some.inj h
 subst h
 exact run (n:=100) (f:=76) (args:=[.lst false 2 a0,.fn (.func 32) [] []]) (orc:=[.lp [5,1] [1,5,8,9,10] [5] (.exit 0) [(5,.own 5 0)] [(5,.row 0 1 t1)] 31]) (r:=.lst false 1 t1) (ob:=[QX cx (Qp cx.P 76 0) 22 0 false [(1,.d (.fn (.func 32) [] [])),(5,.own 5 0),(8,.d (.lst false 2 a0)),(9,.d (I ((a0).length:Int))),(10,.d (I 0))] [(5,.row 0 1 [])] (.exit 0) [(5,.own 5 0)] [(5,.row 0 1 t1)]]) (by kernel_rfl) ⟨(Qt XC h1),trivial⟩
def Z8 (n:Nat) (a4:Int) (t1 t2:List D) (sa:(Int×List D)):Option (((Int×List D))⊕((List D))) :=
 if sa.1 < ((t2).length:Int) then
  (el VS t2 sa.1).bind fun ta2 =>
  if mok (.agg #[.int .i64 ta2.1,.int .i64 ta2.2]) (sa.2:List D)=true then
  if Qb (sa.1+1) then
  some (.inl ((sa.1+1),(X2 (.agg #[.int .i64 ta2.1,.int .i64 ta2.2]) (B true) (sa.2:List D))))
  else none
  else none
 else
 some (.inr sa.2)
noncomputable def wn (a4:Int) (t1 t2:List D) (sa:(Int×List D)):List (Nat×AV):=[(6,.ptr 2 0 0 0 0),(7,.ptr 9 0 0 0 0),(18,.d (.lst false 2 t2)),(19,.d (I ((t2).length:Int))),(20,.d (I sa.1))]
noncomputable def wq (a4:Int) (t1 t2:List D) (sa:(Int×List D)):List (Nat×Blk):=[(2,.box (.d (.agg [.v (.map none),.lst true 0 [],I 0]))),(3,.mp sa.2),(9,.box (.agg [.own 3 0,.d (.lst false 2 t1),.d (I a4)]))]
noncomputable def wh (a4:Int) (t1 t2:List D) (e:(List D)):Ex:=(.exit 0)
noncomputable def zp (a4:Int) (t1 t2:List D) (e:(List D)):List (Nat×AV):=[(6,.ptr 2 0 0 0 0),(7,.ptr 9 0 0 0 0)]
noncomputable def zr (a4:Int) (t1 t2:List D) (e:(List D)):List (Nat×Blk):=[(2,.box (.d (.agg [.v (.map none),.lst true 0 [],I 0]))),(3,.mp e),(9,.box (.agg [.own 3 0,.d (.lst false 2 t1),.d (I a4)]))]
theorem wp {n:Nat} {a4:Int} {t1 t2:List D} (sa:(Int×List D)) (r) (h:Z8 n a4 t1 t2 sa=some r):Rd cx (Qp cx.P 52 0) 29 0 false (wn a4 t1 t2) (wq a4 t1 t2) (wh a4 t1 t2) (zp a4 t1 t2) (zr a4 t1 t2) sa r:=by
 unfold Z8 at h
 by_cases ha1:sa.1 < ((t2).length:Int)
 ·replace h:=Qj h ha1
  obtain ⟨ta2,ha2,h⟩:=Qe h
  obtain ⟨ha3,h⟩:=Qg h
  obtain ⟨ha4,h⟩:=Qg h
  replace h:=Option.some.inj h
  subst h
  exact ⟨100,16,[.br true,.el (.agg [I ta2.1,I ta2.2]),.br true],[],[6,7,18,19,20],[2,3,9],Qh (ob:=[Qb (sa.1+1),mok (.agg #[.int .i64 ta2.1,.int .i64 ta2.2]) (sa.2:List D)=true,(0:Int)≤sa.1,nth (t2) (Int.toNat sa.1)=some (.agg [I ta2.1,I ta2.2]),(decide (sa.1 < ((t2).length:Int)))=true]) (by kernel_rfl) ⟨ha4,ha3,(Qm Qx ha2).1,(Qm Qx ha2).2,(decide_eq_true ha1),trivial⟩⟩
 ·replace h:=Qk h ha1
  replace h:=Option.some.inj h
  subst h
  exact ⟨⟨100,16,[.br false],[],[6,7],[2,3,9],Qh (ob:=[(decide (sa.1 < ((t2).length:Int)))=false]) (by kernel_rfl) ⟨(decide_eq_false ha1),trivial⟩⟩,nofun⟩
def VD (n:Nat) (a0 a1:Int) (a2:List D) (a3:Nat) (a4 a5 a6 a7 a8:Int):Option (List D×List D×Int) :=
 (Zp n a4 a5 a6 a7 a8).bind fun t1 =>
 (W2 n a0 a1 a2 a3).bind fun t2 =>
 (QF (Z8 n a4 t1 t2) n (0,[])).bind fun t3 =>
 some (t3,t1,a4)
theorem E7 {n:Nat} {a0 a1:Int} {a2:List D} {a3:Nat} {a4 a5 a6 a7 a8:Int} {r:List D×List D×Int} (h:VD n a0 a1 a2 a3 a4 a5 a6 a7 a8=some r):Computes cx 52 [.agg [I a0,I a1,.lst false 1 a2],.v (.float .f32 a3),.agg [I a4,I a5,I a6,I a7,I a8]] (.agg [.mp r.1,.lst false 2 r.2.1,I r.2.2]):=by
 unfold VD at h
 obtain ⟨t1,h1,h⟩:=Qe h
 obtain ⟨t2,h2,h⟩:=Qe h
 obtain ⟨t3,h3,h⟩:=Qe h
 replace h:=Option.some.inj h
 subst h
 exact run (n:=100) (f:=52) (args:=[.agg [I a0,I a1,.lst false 1 a2],.v (.float .f32 a3),.agg [I a4,I a5,I a6,I a7,I a8]]) (orc:=[.ret (.lst false 2 t1),.ret (.lst false 2 t2),.lp [] [6,7,18,19,20] [2,3,9] (.exit 0) [(6,.ptr 2 0 0 0 0),(7,.ptr 9 0 0 0 0)] [(2,.box (.d (.agg [.v (.map none),.lst true 0 [],I 0]))),(3,.mp t3),(9,.box (.agg [.own 3 0,.d (.lst false 2 t1),.d (I a4)]))] 38]) (r:=.agg [.mp t3,.lst false 2 t1,I a4]) (ob:=[QX cx (Qp cx.P 52 0) 29 0 false [(6,.ptr 2 0 0 0 0),(7,.ptr 9 0 0 0 0),(18,.d (.lst false 2 t2)),(19,.d (I ((t2).length:Int))),(20,.d (I 0))] [(2,.box (.d (.agg [.v (.map none),.lst true 0 [],I 0]))),(3,.mp []),(9,.box (.agg [.own 3 0,.d (.lst false 2 t1),.d (I a4)]))] (.exit 0) [(6,.ptr 2 0 0 0 0),(7,.ptr 9 0 0 0 0)] [(2,.box (.d (.agg [.v (.map none),.lst true 0 [],I 0]))),(3,.mp t3),(9,.box (.agg [.own 3 0,.d (.lst false 2 t1),.d (I a4)]))],Computes cx 42 [.agg [I a0,I a1,.lst false 1 a2],.v (.float .f32 a3)] (.lst false 2 t2),Computes cx 44 [.agg [I a4,I a5,I a6,I a7,I a8]] (.lst false 2 t1)]) (by kernel_rfl) ⟨(Qt wp h3),(Jt h2),(Yp h1),trivial⟩
def VO (n:Nat) (a0 a1:Int):Option (Int) :=
 if a1≠0 then
 if Qb (Int.tdiv a0 a1) then
 if Qb ((Int.tdiv a0 a1) * a1) then
 if ((Int.tdiv a0 a1) * a1) > a0 then
  if Qb ((Int.tdiv a0 a1) - 1) then
  some ((Int.tdiv a0 a1) - 1)
  else none
 else
 some (Int.tdiv a0 a1)
 else none
 else none
 else none
theorem kC {n:Nat} {a0 a1:Int} {r:Int} (h:VO n a0 a1=some r):Computes cx 92 [I a0,I a1] (I r):=by
 unfold VO at h
 obtain ⟨h1,h⟩:=Qg h
 obtain ⟨h2,h⟩:=Qg h
 obtain ⟨h3,h⟩:=Qg h
 by_cases h4:((Int.tdiv a0 a1) * a1) > a0
 ·replace h:=Qj h h4
  obtain ⟨h5,h⟩:=Qg h
  replace h:=Option.some.inj h
  subst h
  exact run (n:=100) (f:=92) (args:=[I a0,I a1]) (orc:=[.br true]) (r:=I ((Int.tdiv a0 a1) - 1)) (ob:=[Qb ((Int.tdiv a0 a1) - 1),(decide (((Int.tdiv a0 a1) * a1) > a0))=true,Qb ((Int.tdiv a0 a1) * a1),a1≠0,Qb (Int.tdiv a0 a1)]) (by kernel_rfl) ⟨h5,(decide_eq_true h4),h3,h1,h2,trivial⟩
 ·replace h:=Qk h h4
  replace h:=Option.some.inj h
  subst h
  exact run (n:=100) (f:=92) (args:=[I a0,I a1]) (orc:=[.br false]) (r:=I (Int.tdiv a0 a1)) (ob:=[(decide (((Int.tdiv a0 a1) * a1) > a0))=false,Qb ((Int.tdiv a0 a1) * a1),a1≠0,Qb (Int.tdiv a0 a1)]) (by kernel_rfl) ⟨(decide_eq_false h4),h3,h1,h2,trivial⟩
def Wz (n:Nat) (a0 a1:Int):Option (Int) :=
 if Qb (2 * a0) then
 if Qb ((2 * a0)+a1) then
 if Qb (2 * a1) then
 (VO n ((2 * a0)+a1) (2 * a1)).bind fun t4 =>
 some t4
 else none
 else none
 else none
theorem JO {n:Nat} {a0 a1:Int} {r:Int} (h:Wz n a0 a1=some r):Computes cx 79 [I a0,I a1] (I r):=by
 unfold Wz at h
 obtain ⟨h1,h⟩:=Qg h
 obtain ⟨h2,h⟩:=Qg h
 obtain ⟨h3,h⟩:=Qg h
 obtain ⟨t4,h4,h⟩:=Qe h
 replace h:=Option.some.inj h
 subst h
 exact run (n:=100) (f:=79) (args:=[I a0,I a1]) (orc:=[.ret (I t4)]) (r:=I t4) (ob:=[Computes cx 92 [I ((2 * a0)+a1),I (2 * a1)] (I t4),Qb (2 * a1),Qb ((2 * a0)+a1),Qb (2 * a0)]) (by kernel_rfl) ⟨(kC h4),h3,h2,h1,trivial⟩
def W9 (n:Nat) (a0 a1 a2 a3:Int):Option (Int×Int) :=
 if Qb (a0 * a3) then
 (Wz n (a0 * a3) a2).bind fun t2 =>
 if Qb (a1 * a3) then
 (Wz n (a1 * a3) a2).bind fun t4 =>
 some (t2,t4)
 else none
 else none
theorem YI {n:Nat} {a0 a1 a2 a3:Int} {r:Int×Int} (h:W9 n a0 a1 a2 a3=some r):Computes cx 48 [.agg [I a0,I a1],I a2,I a3] (.agg [I r.1,I r.2]):=by
 unfold W9 at h
 obtain ⟨h1,h⟩:=Qg h
 obtain ⟨t2,h2,h⟩:=Qe h
 obtain ⟨h3,h⟩:=Qg h
 obtain ⟨t4,h4,h⟩:=Qe h
 replace h:=Option.some.inj h
 subst h
 exact run (n:=100) (f:=48) (args:=[.agg [I a0,I a1],I a2,I a3]) (orc:=[.ret (I t2),.ret (I t4)]) (r:=.agg [I t2,I t4]) (ob:=[Computes cx 79 [I (a1 * a3),I a2] (I t4),Qb (a1 * a3),Computes cx 79 [I (a0 * a3),I a2] (I t2),Qb (a0 * a3)]) (by kernel_rfl) ⟨(JO h4),h3,(JO h2),h1,trivial⟩
def jq (x:Bool):D:=B x
def un_b (d:D):Option (Bool):=yP d
theorem wu {d:D} {x:Bool} (h:un_b d=some x):d=jq x:=Qbd h
def Q0 (n:Nat) (a0 a1:List D) (a2 a3 a4 a5:Int) (sa:(Int×Int)):Option (((Int×Int))⊕((Int))) :=
 if sa.2 < ((a1).length:Int) then
  (el VS a1 sa.2).bind fun ta2 =>
  (W9 n ta2.1 ta2.2 a2 a5).bind fun ta3 =>
  if Qb (a3 - ta3.1) then
  if Qb (a4 - ta3.2) then
  if mok (.agg #[.int .i64 (a3 - ta3.1),.int .i64 (a4 - ta3.2)]) (a0:List D)=true then
  if (VL (.agg #[.int .i64 (a3 - ta3.1),.int .i64 (a4 - ta3.2)]) (a0:List D)).isSome=true then
   ((VL (.agg #[.int .i64 (a3 - ta3.1),.int .i64 (a4 - ta3.2)]) (a0:List D)).bind un_b).bind fun ta8 =>
   if ta8=true then
    if Qb (sa.1+1) then
    if Qb (sa.2+1) then
    some (.inl ((sa.1+1),(sa.2+1)))
    else none
    else none
   else
   if Qb (sa.2+1) then
   some (.inl (sa.1,(sa.2+1)))
   else none
  else
  if Qb (sa.2+1) then
  some (.inl (sa.1,(sa.2+1)))
  else none
  else none
  else none
  else none
 else
 some (.inr sa.1)
noncomputable def Gd (a0 a1:List D) (a2 a3 a4 a5:Int) (sa:(Int×Int)):List (Nat×AV):=[(2,.d (I a5)),(3,.ptr 0 0 0 0 0),(4,.ptr 1 0 0 0 0),(7,.d (I sa.1)),(12,.d (.lst false 2 a1)),(13,.d (I ((a1).length:Int))),(14,.d (I sa.2))]
noncomputable def Gl (a0 a1:List D) (a2 a3 a4 a5:Int) (sa:(Int×Int)):List (Nat×Blk):=[(0,.box (.d (.agg [.mp a0,.lst false 2 a1,I a2]))),(1,.box (.d (.agg [I a3,I a4])))]
noncomputable def J2 (a0 a1:List D) (a2 a3 a4 a5:Int) (e:(Int)):Ex:=(.exit 0)
noncomputable def JC (a0 a1:List D) (a2 a3 a4 a5:Int) (e:(Int)):List (Nat×AV):=[(7,.d (I e))]
noncomputable def JH (a0 a1:List D) (a2 a3 a4 a5:Int) (e:(Int)):List (Nat×Blk):=[]
theorem Gg {n:Nat} {a0 a1:List D} {a2 a3 a4 a5:Int} (sa:(Int×Int)) (r) (h:Q0 n a0 a1 a2 a3 a4 a5 sa=some r):Rd cx (Qp cx.P 53 0) 41 0 false (Gd a0 a1 a2 a3 a4 a5) (Gl a0 a1 a2 a3 a4 a5) (J2 a0 a1 a2 a3 a4 a5) (JC a0 a1 a2 a3 a4 a5) (JH a0 a1 a2 a3 a4 a5) sa r:=by
 unfold Q0 at h
 by_cases ha1:sa.2 < ((a1).length:Int)
 ·replace h:=Qj h ha1
  obtain ⟨ta2,ha2,h⟩:=Qe h
  obtain ⟨ta3,ha3,h⟩:=Qe h
  obtain ⟨ha4,h⟩:=Qg h
  obtain ⟨ha5,h⟩:=Qg h
  obtain ⟨ha6,h⟩:=Qg h
  by_cases ha7:(VL (.agg #[.int .i64 (a3 - ta3.1),.int .i64 (a4 - ta3.2)]) (a0:List D)).isSome=true
  ·replace h:=Qj h ha7
   obtain ⟨ta8,ha8,h⟩:=Qe h
   by_cases ha9:ta8=true
   ·replace h:=Qj h ha9
    obtain ⟨ha10,h⟩:=Qg h
    obtain ⟨ha11,h⟩:=Qg h
    replace h:=Option.some.inj h
    subst h
    exact ⟨100,8,[.br true,.el (.agg [I ta2.1,I ta2.2]),.ret (.agg [I ta3.1,I ta3.2]),.el (B ta8),.br true],[],[2,3,4,7,12,13,14],[0,1],Qh (ob:=[Qb (sa.2+1),Qb (sa.1+1),ta8=true,JL false (.agg #[.int .i64 (a3 - ta3.1),.int .i64 (a4 - ta3.2)]) (B false) (a0:List D)=some (B ta8),Qb (a4 - ta3.2),Qb (a3 - ta3.1),Computes cx 48 [.agg [I ta2.1,I ta2.2],I a2,I a5] (.agg [I ta3.1,I ta3.2]),(0:Int)≤sa.2,nth (a1) (Int.toNat sa.2)=some (.agg [I ta2.1,I ta2.2]),(decide (sa.2 < ((a1).length:Int)))=true]) (by kernel_rfl) ⟨ha11,ha10,ha9,(wV ha6 (QdS wu ha8)),ha5,ha4,(YI ha3),(Qm Qx ha2).1,(Qm Qx ha2).2,(decide_eq_true ha1),trivial⟩⟩
   ·replace h:=Qk h ha9
    obtain ⟨ha10,h⟩:=Qg h
    replace h:=Option.some.inj h
    subst h
    exact ⟨100,8,[.br true,.el (.agg [I ta2.1,I ta2.2]),.ret (.agg [I ta3.1,I ta3.2]),.el (B ta8),.br false],[],[2,3,4,7,12,13,14],[0,1],Qh (ob:=[Qb (sa.2+1),ta8=false,JL false (.agg #[.int .i64 (a3 - ta3.1),.int .i64 (a4 - ta3.2)]) (B false) (a0:List D)=some (B ta8),Qb (a4 - ta3.2),Qb (a3 - ta3.1),Computes cx 48 [.agg [I ta2.1,I ta2.2],I a2,I a5] (.agg [I ta3.1,I ta3.2]),(0:Int)≤sa.2,nth (a1) (Int.toNat sa.2)=some (.agg [I ta2.1,I ta2.2]),(decide (sa.2 < ((a1).length:Int)))=true]) (by kernel_rfl) ⟨ha10,(QY ha9),(wV ha6 (QdS wu ha8)),ha5,ha4,(YI ha3),(Qm Qx ha2).1,(Qm Qx ha2).2,(decide_eq_true ha1),trivial⟩⟩
  ·replace h:=Qk h ha7
   obtain ⟨ha8,h⟩:=Qg h
   replace h:=Option.some.inj h
   subst h
   exact ⟨100,8,[.br true,.el (.agg [I ta2.1,I ta2.2]),.ret (.agg [I ta3.1,I ta3.2]),.el (B false),.no],[],[2,3,4,7,12,13,14],[0,1],Qh (ob:=[Qb (sa.2+1),JL false (.agg #[.int .i64 (a3 - ta3.1),.int .i64 (a4 - ta3.2)]) (B false) (a0:List D)=some (B false),Qb (a4 - ta3.2),Qb (a3 - ta3.1),Computes cx 48 [.agg [I ta2.1,I ta2.2],I a2,I a5] (.agg [I ta3.1,I ta3.2]),(0:Int)≤sa.2,nth (a1) (Int.toNat sa.2)=some (.agg [I ta2.1,I ta2.2]),(decide (sa.2 < ((a1).length:Int)))=true]) (by kernel_rfl) ⟨ha8,(QaF ha6 (mno ha7)),ha5,ha4,(YI ha3),(Qm Qx ha2).1,(Qm Qx ha2).2,(decide_eq_true ha1),trivial⟩⟩
 ·replace h:=Qk h ha1
  replace h:=Option.some.inj h
  subst h
  exact ⟨⟨100,8,[.br false],[],[7],[],Qh (ob:=[(decide (sa.2 < ((a1).length:Int)))=false]) (by kernel_rfl) ⟨(decide_eq_false ha1),trivial⟩⟩,nofun⟩
def Zy (n:Nat) (a0 a1:List D) (a2 a3 a4 a5:Int):Option (Int) :=
 (QF (Q0 n a0 a1 a2 a3 a4 a5) n (0,0)).bind fun t1 =>
 some t1
theorem WX {n:Nat} {a0 a1:List D} {a2 a3 a4 a5:Int} {r:Int} (h:Zy n a0 a1 a2 a3 a4 a5=some r):Computes cx 53 [.agg [.mp a0,.lst false 2 a1,I a2],.agg [I a3,I a4],I a5] (I r):=by
 unfold Zy at h
 obtain ⟨t1,h1,h⟩:=Qe h
 replace h:=Option.some.inj h
 subst h
 exact run (n:=100) (f:=53) (args:=[.agg [.mp a0,.lst false 2 a1,I a2],.agg [I a3,I a4],I a5]) (orc:=[.lp [] [2,3,4,7,12,13,14] [0,1] (.exit 0) [(7,.d (I t1))] [] 50]) (r:=I t1) (ob:=[QX cx (Qp cx.P 53 0) 41 0 false [(2,.d (I a5)),(3,.ptr 0 0 0 0 0),(4,.ptr 1 0 0 0 0),(7,.d (I 0)),(12,.d (.lst false 2 a1)),(13,.d (I ((a1).length:Int))),(14,.d (I 0))] [(0,.box (.d (.agg [.mp a0,.lst false 2 a1,I a2]))),(1,.box (.d (.agg [I a3,I a4])))] (.exit 0) [(7,.d (I t1))] []]) (by kernel_rfl) ⟨(Qt Gg h1),trivial⟩
def Ym (n:Nat) (a0 a1:Int):Option (Bool) :=
 some (decide (a0 > 0))
theorem jF {n:Nat} {a0 a1:Int} {r:Bool} (h:Ym n a0 a1=some r):Computes cx 46 [I a0,I a1] (B r):=by
 unfold Ym at h
 replace h:=Option.some.inj h
 subst h
 exact run (n:=100) (f:=46) (args:=[I a0,I a1]) (orc:=[]) (r:=B (decide (a0 > 0))) (ob:=[]) (by kernel_rfl) trivial
def Wk (n:Nat) (a0 a1:Int) (a2:List D) (a4 a5 a6 a7 a8 a9:Int) (a10:List D) (t10:List D×List D×Int) (sa:(Int×List D)):Option (((Int×List D))⊕((List D))) :=
 if sa.1 < ((a10).length:Int) then
  (el VS a10 sa.1).bind fun ta2 =>
  (Zy n t10.1 t10.2.1 t10.2.2 ta2.1 ta2.2 a9).bind fun ta3 =>
  (Ym n ta3 ((t10.2.1).length:Int)).bind fun ta4 =>
  if Wm 1 ((sa.2).length+1) then
  if Qb (sa.1+1) then
  some (.inl ((sa.1+1),(sa.2++([B ta4]:List D))))
  else none
  else none
 else
 some (.inr sa.2)
noncomputable def zy (a0 a1:Int) (a2:List D) (a4 a5 a6 a7 a8 a9:Int) (a10:List D) (t10:List D×List D×Int) (sa:(Int×List D)):List (Nat×AV):=[(1,.fn (.func 78) [] [.ptr 3 0 0 0 0,.ptr 32 0 0 0 0,.ptr 2 0 0 0 0]),(5,.own 44 0),(8,.d (.lst false 2 a10)),(9,.d (I ((a10).length:Int))),(10,.d (I sa.1))]
noncomputable def zD (a0 a1:Int) (a2:List D) (a4 a5 a6 a7 a8 a9:Int) (a10:List D) (t10:List D×List D×Int) (sa:(Int×List D)):List (Nat×Blk):=[(0,.box (.d (.agg [I a0,I a1,.lst false 1 a2]))),(1,.box (.d (.agg [I a4,I a5,I a6,I a7,I a8]))),(2,.box (.d (I a9))),(3,.box (.d (.fn (.func 46) [] []))),(32,.box (.d (.agg [.mp t10.1,.lst false 2 t10.2.1,I t10.2.2]))),(44,.row 0 1 sa.2)]
noncomputable def zo (a0 a1:Int) (a2:List D) (a4 a5 a6 a7 a8 a9:Int) (a10:List D) (t10:List D×List D×Int) (e:(List D)):Ex:=(.exit 0)
noncomputable def qi (a0 a1:Int) (a2:List D) (a4 a5 a6 a7 a8 a9:Int) (a10:List D) (t10:List D×List D×Int) (e:(List D)):List (Nat×AV):=[(5,.own 44 0)]
noncomputable def qm (a0 a1:Int) (a2:List D) (a4 a5 a6 a7 a8 a9:Int) (a10:List D) (t10:List D×List D×Int) (e:(List D)):List (Nat×Blk):=[(0,.box (.d (.agg [I a0,I a1,.lst false 1 a2]))),(1,.box (.d (.agg [I a4,I a5,I a6,I a7,I a8]))),(2,.box (.d (I a9))),(3,.box (.d (.fn (.func 46) [] []))),(32,.box (.d (.agg [.mp t10.1,.lst false 2 t10.2.1,I t10.2.2]))),(44,.row 0 1 e)]
theorem zz {n:Nat} {a0 a1:Int} {a2:List D} {a4 a5 a6 a7 a8 a9:Int} {a10:List D} {t10:List D×List D×Int} (sa:(Int×List D)) (r) (h:Wk n a0 a1 a2 a4 a5 a6 a7 a8 a9 a10 t10 sa=some r):Rd cx (Qp cx.P 77 0) 22 39 false (zy a0 a1 a2 a4 a5 a6 a7 a8 a9 a10 t10) (zD a0 a1 a2 a4 a5 a6 a7 a8 a9 a10 t10) (zo a0 a1 a2 a4 a5 a6 a7 a8 a9 a10 t10) (qi a0 a1 a2 a4 a5 a6 a7 a8 a9 a10 t10) (qm a0 a1 a2 a4 a5 a6 a7 a8 a9 a10 t10) sa r:=by
 unfold Wk at h
 by_cases ha1:sa.1 < ((a10).length:Int)
 ·replace h:=Qj h ha1
  obtain ⟨ta2,ha2,h⟩:=Qe h
  obtain ⟨ta3,ha3,h⟩:=Qe h
  obtain ⟨ta4,ha4,h⟩:=Qe h
  obtain ⟨ha5,h⟩:=Qg h
  obtain ⟨ha6,h⟩:=Qg h
  replace h:=Option.some.inj h
  subst h
  exact ⟨100,45,[.br true,.el (.agg [I ta2.1,I ta2.2]),.br true,.ret (I ta3),.ret (B ta4),.br true],[],[1,5,8,9,10],[0,1,2,3,32,44],Qh (ob:=[Qb (sa.1+1),room cx 4 ((sa.2).length+1),Computes cx 46 [I ta3,I ((t10.2.1).length:Int)] (B ta4),Computes cx 53 [.agg [.mp t10.1,.lst false 2 t10.2.1,I t10.2.2],.agg [I ta2.1,I ta2.2],I a9] (I ta3),(0:Int)≤sa.1,nth (a10) (Int.toNat sa.1)=some (.agg [I ta2.1,I ta2.2]),(decide (sa.1 < ((a10).length:Int)))=true]) (by kernel_rfl) ⟨ha6,(Qv (b:=1) (by kernel_rfl) (by decide) ha5),(jF ha4),(WX ha3),(Qm Qx ha2).1,(Qm Qx ha2).2,(decide_eq_true ha1),trivial⟩⟩
 ·replace h:=Qk h ha1
  replace h:=Option.some.inj h
  subst h
  exact ⟨⟨100,45,[.br false],[],[5],[0,1,2,3,32,44],Qh (ob:=[(decide (sa.1 < ((a10).length:Int)))=false]) (by kernel_rfl) ⟨(decide_eq_false ha1),trivial⟩⟩,nofun⟩
def YK (n:Nat) (a0 a1:Int) (a2:List D) (a3:Nat) (a4 a5 a6 a7 a8 a9:Int) (a10:List D):Option (List D×Int) :=
 (QG n a0 a1 a2 a3).bind fun t1 =>
 (ZC n a4 a5 a6 a7 a8).bind fun t2 =>
 (ZA n a9).bind fun t3 =>
 (Zu n (decide (((a10).length:Int) > 256)) 5).bind fun t4 =>
 (QA n ([I t1,I t2,I t3,I t4])).bind fun t5 =>
 if t5=0 then
  (VC n a10).bind fun t7 =>
  (QA n t7).bind fun t8 =>
  if t8=0 then
   (VD n a0 a1 a2 a3 a4 a5 a6 a7 a8).bind fun t10 =>
   (QF (Wk n a0 a1 a2 a4 a5 a6 a7 a8 a9 a10 t10) n (0,[])).bind fun t11 =>
   some (t11,0)
  else
  some ([],t8)
 else
 some ([],t5)
theorem kD {n:Nat} {a0 a1:Int} {a2:List D} {a3:Nat} {a4 a5 a6 a7 a8 a9:Int} {a10:List D} {r:List D×Int} (h:YK n a0 a1 a2 a3 a4 a5 a6 a7 a8 a9 a10=some r):Computes cx 45 [.agg [I a0,I a1,.lst false 1 a2],.v (.float .f32 a3),.agg [I a4,I a5,I a6,I a7,I a8],I a9,.lst false 2 a10,.fn (.func 46) [] []] (.tup [.lst false 1 r.1,I r.2]):=by
 unfold YK at h
 obtain ⟨t1,h1,h⟩:=Qe h
 obtain ⟨t2,h2,h⟩:=Qe h
 obtain ⟨t3,h3,h⟩:=Qe h
 obtain ⟨t4,h4,h⟩:=Qe h
 obtain ⟨t5,h5,h⟩:=Qe h
 by_cases h6:t5=0
 ·replace h:=Qj h h6
  obtain ⟨t7,h7,h⟩:=Qe h
  obtain ⟨t8,h8,h⟩:=Qe h
  by_cases h9:t8=0
  ·replace h:=Qj h h9
   obtain ⟨t10,h10,h⟩:=Qe h
   obtain ⟨t11,h11,h⟩:=Qe h
   replace h:=Option.some.inj h
   subst h
   exact run (n:=100) (f:=45) (args:=[.agg [I a0,I a1,.lst false 1 a2],.v (.float .f32 a3),.agg [I a4,I a5,I a6,I a7,I a8],I a9,.lst false 2 a10,.fn (.func 46) [] []]) (orc:=[.ret (I t1),.ret (I t2),.ret (I t3),.ret (I t4),.ret (I t5),.br false,.ret (.lst false 1 t7),.ret (I t8),.br false,.ret (.agg [.mp t10.1,.lst false 2 t10.2.1,I t10.2.2]),.br true,.lp [5,1] [1,5,8,9,10] [0,1,2,3,32,44] (.exit 0) [(5,.own 44 0)] [(0,.box (.d (.agg [I a0,I a1,.lst false 1 a2]))),(1,.box (.d (.agg [I a4,I a5,I a6,I a7,I a8]))),(2,.box (.d (I a9))),(3,.box (.d (.fn (.func 46) [] []))),(32,.box (.d (.agg [.mp t10.1,.lst false 2 t10.2.1,I t10.2.2]))),(44,.row 0 1 t11)] 82]) (r:=.tup [.lst false 1 t11,I 0]) (ob:=[QX cx (Qp cx.P 77 0) 22 39 false [(1,.fn (.func 78) [] [.ptr 3 0 0 0 0,.ptr 32 0 0 0 0,.ptr 2 0 0 0 0]),(5,.own 44 0),(8,.d (.lst false 2 a10)),(9,.d (I ((a10).length:Int))),(10,.d (I 0))] [(0,.box (.d (.agg [I a0,I a1,.lst false 1 a2]))),(1,.box (.d (.agg [I a4,I a5,I a6,I a7,I a8]))),(2,.box (.d (I a9))),(3,.box (.d (.fn (.func 46) [] []))),(32,.box (.d (.agg [.mp t10.1,.lst false 2 t10.2.1,I t10.2.2]))),(44,.row 0 1 [])] (.exit 0) [(5,.own 44 0)] [(0,.box (.d (.agg [I a0,I a1,.lst false 1 a2]))),(1,.box (.d (.agg [I a4,I a5,I a6,I a7,I a8]))),(2,.box (.d (I a9))),(3,.box (.d (.fn (.func 46) [] []))),(32,.box (.d (.agg [.mp t10.1,.lst false 2 t10.2.1,I t10.2.2]))),(44,.row 0 1 t11)],Computes cx 52 [.agg [I a0,I a1,.lst false 1 a2],.v (.float .f32 a3),.agg [I a4,I a5,I a6,I a7,I a8]] (.agg [.mp t10.1,.lst false 2 t10.2.1,I t10.2.2]),(t8 != 0)=false,Computes cx 30 [.lst false 1 t7] (I t8),Computes cx 76 [.lst false 2 a10,.fn (.func 32) [] []] (.lst false 1 t7),(t5 != 0)=false,Computes cx 30 [.lst true 1 [I t1,I t2,I t3,I t4]] (I t5),Computes cx 34 [B (decide (((a10).length:Int) > 256)),I 5] (I t4),Computes cx 75 [I a9] (I t3),Computes cx 43 [.agg [I a4,I a5,I a6,I a7,I a8]] (I t2),Computes cx 41 [.agg [I a0,I a1,.lst false 1 a2],.v (.float .f32 a3)] (I t1)]) (by kernel_rfl) ⟨(Qt zz h11),(E7 h10),(nef h9),(Qr h8),(KJ h7),(nef h6),((Qr h5).le (.cons (.full _ _ _) (.nil)) (.refl _)),(Zt h4),(WY h3),(Zx h2),(Q2 h1),trivial⟩
  ·replace h:=Qk h h9
   replace h:=Option.some.inj h
   subst h
   exact (run (n:=100) (f:=45) (args:=[.agg [I a0,I a1,.lst false 1 a2],.v (.float .f32 a3),.agg [I a4,I a5,I a6,I a7,I a8],I a9,.lst false 2 a10,.fn (.func 46) [] []]) (orc:=[.ret (I t1),.ret (I t2),.ret (I t3),.ret (I t4),.ret (I t5),.br false,.ret (.lst false 1 t7),.ret (I t8),.br true]) (r:=.tup [.lst true 0 [],I t8]) (ob:=[(t8 != 0)=true,Computes cx 30 [.lst false 1 t7] (I t8),Computes cx 76 [.lst false 2 a10,.fn (.func 32) [] []] (.lst false 1 t7),(t5 != 0)=false,Computes cx 30 [.lst true 1 [I t1,I t2,I t3,I t4]] (I t5),Computes cx 34 [B (decide (((a10).length:Int) > 256)),I 5] (I t4),Computes cx 75 [I a9] (I t3),Computes cx 43 [.agg [I a4,I a5,I a6,I a7,I a8]] (I t2),Computes cx 41 [.agg [I a0,I a1,.lst false 1 a2],.v (.float .f32 a3)] (I t1)]) (by kernel_rfl) ⟨(net h9),(Qr h8),(KJ h7),(nef h6),((Qr h5).le (.cons (.full _ _ _) (.nil)) (.refl _)),(Zt h4),(WY h3),(Zx h2),(Q2 h1),trivial⟩).le (LEs.refl _) (.tups (.cons (.nilF) (.cons (.refl _) (.nil))))
 ·replace h:=Qk h h6
  replace h:=Option.some.inj h
  subst h
  exact (run (n:=100) (f:=45) (args:=[.agg [I a0,I a1,.lst false 1 a2],.v (.float .f32 a3),.agg [I a4,I a5,I a6,I a7,I a8],I a9,.lst false 2 a10,.fn (.func 46) [] []]) (orc:=[.ret (I t1),.ret (I t2),.ret (I t3),.ret (I t4),.ret (I t5),.br true]) (r:=.tup [.lst true 0 [],I t5]) (ob:=[(t5 != 0)=true,Computes cx 30 [.lst true 1 [I t1,I t2,I t3,I t4]] (I t5),Computes cx 34 [B (decide (((a10).length:Int) > 256)),I 5] (I t4),Computes cx 75 [I a9] (I t3),Computes cx 43 [.agg [I a4,I a5,I a6,I a7,I a8]] (I t2),Computes cx 41 [.agg [I a0,I a1,.lst false 1 a2],.v (.float .f32 a3)] (I t1)]) (by kernel_rfl) ⟨(net h6),((Qr h5).le (.cons (.full _ _ _) (.nil)) (.refl _)),(Zt h4),(WY h3),(Zx h2),(Q2 h1),trivial⟩).le (LEs.refl _) (.tups (.cons (.nilF) (.cons (.refl _) (.nil))))
def WT (n:Nat) (a0 a1:Int) (a2:List D) (a3:Nat) (a4 a5 a6 a7 a8 a9:Int) (a10:List D):Option (List D×Int) :=
 (YK n a0 a1 a2 a3 a4 a5 a6 a7 a8 a9 a10).bind fun t1 =>
 some (t1.1,t1.2)
theorem zW {n:Nat} {a0 a1:Int} {a2:List D} {a3:Nat} {a4 a5 a6 a7 a8 a9:Int} {a10:List D} {r:List D×Int} (h:WT n a0 a1 a2 a3 a4 a5 a6 a7 a8 a9 a10=some r):Computes cx 16 [.agg [I a0,I a1,.lst false 1 a2],.v (.float .f32 a3),.agg [I a4,I a5,I a6,I a7,I a8],I a9,.lst false 2 a10] (.tup [.lst false 1 r.1,I r.2]):=by
 unfold WT at h
 obtain ⟨t1,h1,h⟩:=Qe h
 replace h:=Option.some.inj h
 subst h
 exact run (n:=100) (f:=16) (args:=[.agg [I a0,I a1,.lst false 1 a2],.v (.float .f32 a3),.agg [I a4,I a5,I a6,I a7,I a8],I a9,.lst false 2 a10]) (orc:=[.ret (.tup [.lst false 1 t1.1,I t1.2])]) (r:=.tup [.lst false 1 t1.1,I t1.2]) (ob:=[Computes cx 45 [.agg [I a0,I a1,.lst false 1 a2],.v (.float .f32 a3),.agg [I a4,I a5,I a6,I a7,I a8],I a9,.lst false 2 a10,.fn (.func 46) [] []] (.tup [.lst false 1 t1.1,I t1.2])]) (by kernel_rfl) ⟨(kD h1),trivial⟩
def Wc (n:Nat) (a0 a1 a2 a3:Int):Option (Int) :=
 (QE n a0 (-1000) 1000).bind fun t1 =>
 (QE n a1 (-1000) 1000).bind fun t2 =>
 (Q9 n a2).bind fun t3 =>
 (ZA n a3).bind fun t4 =>
 (QA n ([I t1,I t2,I t3,I t4])).bind fun t5 =>
 some t5
theorem Y4 {n:Nat} {a0 a1 a2 a3:Int} {r:Int} (h:Wc n a0 a1 a2 a3=some r):Computes cx 47 [.agg [I a0,I a1],I a2,I a3] (I r):=by
 unfold Wc at h
 obtain ⟨t1,h1,h⟩:=Qe h
 obtain ⟨t2,h2,h⟩:=Qe h
 obtain ⟨t3,h3,h⟩:=Qe h
 obtain ⟨t4,h4,h⟩:=Qe h
 obtain ⟨t5,h5,h⟩:=Qe h
 replace h:=Option.some.inj h
 subst h
 exact run (n:=100) (f:=47) (args:=[.agg [I a0,I a1],I a2,I a3]) (orc:=[.ret (I t1),.ret (I t2),.ret (I t3),.ret (I t4),.ret (I t5)]) (r:=I t5) (ob:=[Computes cx 30 [.lst true 1 [I t1,I t2,I t3,I t4]] (I t5),Computes cx 75 [I a3] (I t4),Computes cx 38 [I a2] (I t3),Computes cx 39 [I a1,I (-1000),I 1000] (I t2),Computes cx 39 [I a0,I (-1000),I 1000] (I t1)]) (by kernel_rfl) ⟨((Qr h5).le (.cons (.full _ _ _) (.nil)) (.refl _)),(WY h4),(Wn h3),(QD h2),(QD h1),trivial⟩
end Go.Proofs.YtfiigcbhiopagaaGreat
