/- Own texts. -/
import Derived.Test.YtfiigcbhiopagaaGreatDoorQMap
set_option linter.unusedVariables false
set_option linter.unusedSimpArgs false
set_option linter.unnecessarySimpa false
set_option maxRecDepth 20000
namespace Go.Proofs.YtfiigcbhiopagaaGreatDoor
open Go Go.SX
theorem WY {S E:Type} {L:S→Option (S⊕E)} (st:Nat→S) (m:Nat) {e:E} (h1:∀ i,i < m→L (st i)=some (.inl (st (i+1)))) (h2:L (st m)=some (.inr e)) {n:Nat} (hn:m < n):Qz L n (st 0)=some e:=by
 have key:∀ (d k i:Nat),d < k→i+d=m→Qz L k (st i)=some e:=by
  intro d
  induction d with
  | zero =>
   intro k i hk hi
   obtain ⟨k,rfl⟩:∃ k',k=k'+1:=⟨k - 1,by omega⟩
   have:i=m:=by omega
   subst this
   exact XA h2
  | succ d ih =>
   intro k i hk hi
   obtain ⟨k,rfl⟩:∃ k',k=k'+1:=⟨k - 1,by omega⟩
   rw [jh (h1 i (by omega))]
   exact ih k (i+1) (by omega) (by omega)
 exact key m n 0 hn (by omega)
theorem QdZ {n:Nat} (hn:300≤n) (ms:List Int) (hm:ms.length≤101):Zk n (ms.map I)=some (Zn ms):=by
 unfold Zk
 exact zP (L:=fun a s=>W5 n a s) (fun a s=>by unfold W5;rfl) hn hm
theorem Va {n:Nat} (hn:300≤n) (k:Nat) (hk:k≤101):Zk n (List.replicate k (I 0))=some 0:=by
 have h:=QdZ hn (List.replicate k (0:Int)) (by rw [List.length_replicate];exact hk)
 rw [List.map_replicate] at h
 rw [h]
 congr 1
 have:∀ k,Zn (List.replicate k (0:Int))=0:=by
  intro k
  induction k with
  | zero=>rfl
  | succ k ih=>rw [List.replicate_succ];unfold Zn;rw [if_pos rfl];exact ih
 exact this k
theorem jm (n:Nat) (k:Int):Ws n false k=some 0:=rfl
theorem J5 (n:Nat) {x lo hi:Int} (h:lo≤x∧x≤hi):Wf n x lo hi=some 0:=by
 unfold Wf
 rw [if_neg (by omega),decide_eq_false (by omega),jm,Option.bind_some]
theorem zV {b:Nat} (h:Proofs.YtfiigcbhiopagaaGreatDoor.chk b=0) (n:Nat):ZO n b=some (lev b):=Qbt h n
def neg (b:Nat):Bool:=(FloatKind.format .f32).order b 0 == some .lt
theorem QfJ {b:Nat} (h:chk b=0) (hb:neg b=false):0≤lev b:=by
 have h1:=ji h Xs.1
 unfold neg at hb
 rw [show (FloatKind.format .f32).order b 0=some (compare (lev b) (lev 0)) from h1,Xs.2] at hb
 by_cases hc:0≤lev b
 ·exact hc
 ·rw [Int.compare_eq_lt.2 (show lev b < 0 by omega)] at hb;cases hb
theorem Qc6 {b:Nat} (h:chk b=0) (hb:0≤lev b):neg b=false:=by
 have h1:=ji h Xs.1
 unfold neg
 rw [show (FloatKind.format .f32).order b 0=some (compare (lev b) (lev 0)) from h1,Xs.2]
 rcases Int.lt_or_eq_of_le hb with hc | hc
 ·rw [Int.compare_eq_gt.2 hc];rfl
 ·rw [← hc,Int.compare_eq_eq.2 rfl];rfl
def nG (s:Nat) (b:Nat):Nat⊕(Unit⊕Unit):=if neg b=true then .inr (.inl ()) else .inl (s+1)
theorem QeK:∀ (bs:List Nat) (s:Nat),K4 nG (fun _=>(.inr ():Unit⊕Unit)) bs s=(if bs.any neg=true then .inl () else .inr ())
 | [],s=>rfl
 | b::l,s=>by
  unfold K4 nG
  rw [List.any_cons]
  cases h:neg b with
  | true=>simp
  | false=>simp only [Bool.false_or,Bool.false_eq_true,if_false];exact QeK l (s+1)
theorem jI {n:Nat} (hn:300≤n) (W H:Int) (bs:List Nat) (hb:bs.length≤101):Qz (Q8 n W H (bs.map Qm)) n 0=some (if bs.any neg=true then .inl () else .inr ()):=by
 have h:=Vw (step:=Q8 n W H (bs.map Qm)) nG (fun _=>(.inr ():Unit⊕Unit)) (fun i _=>(i:Int)) bs (fun i s=>True)
  (fun i s x hx _=>by
   have hi:=(List.getElem?_eq_some_iff.1 hx).1
   unfold nG Q8
   rw [if_pos (YB hx),Vo unff hx,Option.bind_some]
   by_cases h0:neg x=true
   ·rw [if_pos h0]
    exact if_pos h0
   ·rw [if_neg h0]
    refine ⟨(if_neg h0).trans ?_,trivial⟩
    rw [if_pos (by unfold Qb;omega)]
    rfl)
  (fun s _=>by unfold Q8;rw [if_neg (by simp)]) (k:=n) (s:=0) trivial (by omega)
 rw [QeK] at h
 exact h
theorem Qdw {n:Nat} (hn:300≤n) {W H:Int} {bs:List Nat} (h:MapOk W H bs):Zp n W H (bs.map Qm)=some 0:=by
 have hc:kA bs=0:=by
  have:∀ l:List Nat,(∀ b,b∈l→chk b=0)→kA l=0:=by
   intro l
   induction l with
   | nil=>intro _;rfl
   | cons b l ih =>
    intro hl
    unfold kA
    rw [if_pos (hl b List.mem_cons_self)]
    exact ih fun c hc=>hl c (List.mem_cons_of_mem _ hc)
  exact this bs h.chk
 unfold Zp ZR
 rw [Jo,Option.bind_some,Option.bind_some,Jo,Option.bind_some,Option.bind_some,jj h.w,jj h.h,show ([I 0,I 0]:List D)=[0,0].map I from rfl,Jm hn _ (by simp),Option.bind_some,if_pos (by rfl),if_pos (jn h.w h.h),if_pos (by rw [List.length_map];exact h.len),jD hn bs h.few,hc,Option.bind_some]
structure ImgOk (W H:Int) (bs:List Nat):Prop where
 map:MapOk W H bs
 pos:∀ b,b∈bs→0≤lev b
theorem ImgOk.noneg {W H:Int} {bs:List Nat} (h:ImgOk W H bs):¬ bs.any neg=true:=by
 rw [List.any_eq_true]
 rintro ⟨b,hb,hn⟩
 rw [Qc6 (h.map.chk b hb) (h.pos b hb)] at hn
 cases hn
theorem jH {n:Nat} (hn:300≤n) {W H:Int} {bs:List Nat} (h:ImgOk W H bs):Q5 n W H (bs.map Qm)=some 0:=by
 unfold Q5
 rw [Qdw hn h.map,Option.bind_some,if_pos rfl,jI hn W H bs h.map.few,if_neg h.noneg,Option.bind_some]
theorem Qa5 {n:Nat} (hn:300≤n) (W H:Int) (hW:W≤8) (hH:H≤8) (bs:List Nat):∃ e,Q5 n W H (bs.map Qm)=some e∧(e=0→ImgOk W H bs):=by
 unfold Q5
 by_cases hb:bs.length≤101
 ·obtain ⟨e,h1,h2⟩:=Qdx hn W H bs hb
  rw [h1,Option.bind_some]
  by_cases h0:e=0
  ·rw [if_pos h0,jI hn W H bs hb,Option.bind_some]
   by_cases ha:bs.any neg=true
   ·rw [if_pos ha]
    exact ⟨3,rfl,fun h=>by cases h⟩
   ·rw [if_neg ha]
    refine ⟨0,rfl,fun _=>⟨h2 h0,fun b hb=>QfJ ((h2 h0).chk b hb) ?_⟩⟩
    cases hq:neg b with
    | false=>rfl
    | true=>exact absurd (List.any_eq_true.2 ⟨b,hb,hq⟩) ha
  ·rw [if_neg h0]
   exact ⟨e,rfl,fun h=>absurd h h0⟩
 ·have:∃ e,Zp n W H (bs.map Qm)=some e∧e≠0:=by
   unfold Zp ZR
   rw [Jo,Option.bind_some,Option.bind_some,Jo,Option.bind_some,Option.bind_some,show ([I (inR W 1 64),I (inR H 1 64)]:List D)=[inR W 1 64,inR H 1 64].map I from rfl,Jm hn _ (by simp),Option.bind_some]
   by_cases h0:Zn [inR W 1 64,inR H 1 64]=0
   ·obtain ⟨h1,h2⟩:=wI h0
    have hw:=qm h1
    have hh:=qm h2
    have hle:W * H≤8 * 8:=Int.mul_le_mul hW hH (by omega) (by omega)
    rw [if_pos h0,if_pos (jn hw hh),if_neg (by rw [List.length_map];omega)]
    exact ⟨2,rfl,by decide⟩
   ·rw [if_neg h0]
    exact ⟨_,rfl,h0⟩
  obtain ⟨e,h1,h2⟩:=this
  rw [h1,Option.bind_some,if_neg h2]
  exact ⟨e,rfl,fun h=>absurd h h2⟩
theorem QeU {n:Nat} (hn:300≤n) {W H:Int} {bs:List Nat} (h:ImgOk W H bs):ZK n (bs.map Qm)=some false:=by
 unfold ZK WP
 have hf:=h.map.few
 rw [kM (L:=Zc n (bs.map Qm)) bs ?_ ?_ (by omega),Option.bind_some]
 ·rfl
 ·intro i x hx
  have hi:=(List.getElem?_eq_some_iff.1 hx).1
  have hm:=List.mem_of_getElem? hx
  unfold Zc WH
  rw [if_pos (YB hx),Vo unff hx,Option.bind_some,Option.bind_some,if_neg (by rw [show ((FloatKind.format .f32).order x 0 == some .lt)=neg x from rfl,Qc6 (h.map.chk x hm) (h.pos x hm)];decide),if_pos (by unfold Qb;omega)]
 ·unfold Zc
  rw [if_neg (by simp)]
theorem Qar {n:Nat} (hn:300≤n) {W H:Int} {bs:List Nat} (h:ImgOk W H bs):ZI n W H (bs.map Qm)=some 0:=by
 unfold ZI
 rw [KQ hn h.map,Option.bind_some,QeU hn h,Option.bind_some,jm,Option.bind_some,show ([I 0,I 0]:List D)=List.replicate 2 (I 0) from rfl,Va hn 2 (by omega),Option.bind_some]
theorem QbN {n:Nat} (hn:300≤n) {W H:Int} {bs cs:List Nat} (h:ImgOk W H bs) (h2:ImgOk W H cs):ZX n W H (bs.map Qm) W H (cs.map Qm)=some 0:=by
 unfold ZX
 rw [Qar hn h,Option.bind_some,Qar hn h2,Option.bind_some,show ([I 0,I 0]:List D)=List.replicate 2 (I 0) from rfl,Va hn 2 (by omega),Option.bind_some,if_pos rfl]
 have e:(!((W == W) && ((H == H) && true)))=false:=by simp
 rw [e,jm,Option.bind_some]
theorem QdX {n:Nat} (hn:300≤n) {W H:Int} {bs cs:List Nat} (h:ImgOk W H bs) (h2:ImgOk W H cs):ZG n W H (bs.map Qm) W H (cs.map Qm) 2 1=some 0:=by
 unfold ZG
 rw [QbN hn h h2,Option.bind_some,J5 n ⟨by omega,by omega⟩,Option.bind_some,J5 n ⟨by omega,by omega⟩,Option.bind_some,show ([I 0,I 0,I 0]:List D)=List.replicate 3 (I 0) from rfl,Va hn 3 (by omega),Option.bind_some]
theorem Vi {α:Type} [DecidableEq α]:∀ {l m:List α},l.Nodup→(∀ x,x∈l→x∈m)→l.length≤m.length
 | [],m,_,_=>Nat.zero_le _
 | a::l,m,hn,hs=>by
  obtain ⟨h1,h2⟩:=List.nodup_cons.1 hn
  have ha:=hs a List.mem_cons_self
  have ih:=Vi (l:=l) (m:=m.erase a) h2 (fun x hx=>(List.mem_erase_of_ne (fun e=>h1 (by rw [← e];exact hx))).2 (hs x (List.mem_cons_of_mem _ hx)))
  rw [List.length_erase_of_mem ha] at ih
  have:=List.length_pos_of_mem ha
  rw [List.length_cons];omega
theorem YK {α β:Type} {f:α→β} {l:List α} (hi:∀ x,x∈l→∀ y,y∈l→f x=f y→x=y) (hn:l.Nodup):(l.map f).Nodup:=by
 unfold List.Nodup at *
 rw [List.pairwise_map]
 exact hn.imp_of_mem fun {a b} ha hb hab e=>hab (hi a ha b hb e)
theorem ky {α:Type} [DecidableEq α] {a:α}:∀ {l:List α},l.Nodup→a∈l→l.count a=1
 | [],_,h=>by cases h
 | b::l,hn,h=>by
  obtain ⟨h1,h2⟩:=List.nodup_cons.1 hn
  by_cases e:b=a
  ·subst e
   rw [List.count_cons_self,List.count_eq_zero_of_not_mem h1]
  ·rw [List.count_cons_of_ne e]
   exact ky h2 ((List.mem_cons.1 h).resolve_left fun q=>e q.symm)
theorem Qcg {α:Type} [DecidableEq α] {l m:List α} (hl:l.Nodup) (hm:m.Nodup) (h:∀ x,x∈l↔x∈m):l.Perm m:=by
 rw [List.perm_iff_count]
 intro a
 by_cases ha:a∈l
 ·rw [ky hl ha,ky hm ((h a).1 ha)]
 ·rw [List.count_eq_zero_of_not_mem ha,List.count_eq_zero_of_not_mem (fun hh=>ha ((h a).2 hh))]
theorem GZ {S E:Type} {L:S→Option (S⊕E)} (Inv:Nat→S→Prop) (Post:E→Prop) (m:Nat) (h:∀ i s,Inv i s→(i < m∧∃ s',L s=some (.inl s')∧Inv (i+1) s') ∨ ∃ e,L s=some (.inr e)∧Post e) {n:Nat} (hn:m < n) {s:S} (h0:Inv 0 s):∃ e,Qz L n s=some e∧Post e:=by
 have key:∀ (d k i:Nat) (s:S),d < k→i+d=m→Inv i s→∃ e,Qz L k s=some e∧Post e:=by
  intro d
  induction d with
  | zero =>
   intro k i s hk hi hs
   obtain ⟨k,rfl⟩:∃ k',k=k'+1:=⟨k - 1,by omega⟩
   rcases h i s hs with ⟨hlt,_⟩ | ⟨e,he,hp⟩
   ·omega
   ·exact ⟨e,XA he,hp⟩
  | succ d ih =>
   intro k i s hk hi hs
   obtain ⟨k,rfl⟩:∃ k',k=k'+1:=⟨k - 1,by omega⟩
   rcases h i s hs with ⟨hlt,s',hs',hi'⟩ | ⟨e,he,hp⟩
   ·rw [jh hs']
    exact ih k (i+1) s' (by omega) (by omega) hi'
   ·exact ⟨e,XA he,hp⟩
 exact key m n 0 s hn (by omega) h0
theorem YU {W x y:Nat} (hx:x < W):(y * W+x) % W=x:=by rw [Nat.mul_comm,Nat.mul_add_mod,Nat.mod_eq_of_lt hx]
theorem YV {W x y:Nat} (hx:x < W):(y * W+x) / W=y:=by rw [Nat.mul_comm,Nat.mul_add_div (by omega),Nat.div_eq_of_lt hx,Nat.add_zero]
theorem V5 {W H x y:Nat} (hx:x < W) (hy:y < H):y * W+x < W * H:=by
 have h:=Nat.mul_le_mul_right W (show y+1≤H from hy)
 rw [Nat.add_mul,Nat.one_mul] at h
 rw [Nat.mul_comm W H];omega
theorem jX (W k:Nat):(k / W) * W+k % W=k:=by rw [Nat.mul_comm];exact Nat.div_add_mod k W
theorem js {W H k:Nat} (hk:k < W * H):k % W < W:=Nat.mod_lt _ (by
 rcases Nat.eq_zero_or_pos W with h | h
 ·subst h;simp at hk
 ·exact h)
theorem y_lt {W H k:Nat} (hk:k < W * H):k / W < H:=Nat.div_lt_of_lt_mul hk
structure Im (W H:Nat) (bs:List Nat):Prop where
 ok:ImgOk (W:Int) (H:Int) bs
 w:1≤W∧W≤8
 h:1≤H∧H≤8
def lv (bs:List Nat) (k:Nat):Int:=(bs.map lev).getD k 0
section
variable {W H:Nat} {bs:List Nat}
theorem Im.len (h:Im W H bs):bs.length=W * H:=by
 have:=h.ok.map.len
 rw [← Int.natCast_mul] at this
 omega
theorem Im.few (h:Im W H bs):W * H≤64:=Nat.mul_le_mul h.w.2 h.h.2
theorem QgQ {k b:Nat} (hb:bs[k]?=some b):lv bs k=lev b:=by
 unfold lv
 rw [List.getD_eq_getElem?_getD,List.getElem?_map,hb];rfl
theorem Im.at (h:Im W H bs) {k:Nat} (hk:k < W * H):∃ b,bs[k]?=some b∧chk b=0∧lv bs k=lev b∧0≤lev b∧lev b≤16384:=by
 have hlt:k < bs.length:=by rw [h.len];exact hk
 have hb:bs[k]?=some bs[k]:=List.getElem?_eq_getElem hlt
 have hm:=List.mem_of_getElem? hb
 exact ⟨_,hb,h.ok.map.chk _ hm,QgQ hb,h.ok.pos _ hm,(QdJ (h.ok.map.chk _ hm)).2⟩
theorem Im.lv_in (h:Im W H bs) (k:Nat):0≤lv bs k∧lv bs k≤16384:=by
 by_cases hk:k < W * H
 ·obtain ⟨b,_,_,e,h1,h2⟩:=h.at hk
  rw [e];exact ⟨h1,h2⟩
 ·unfold lv
  rw [List.getD_eq_getElem?_getD,List.getElem?_eq_none (by rw [List.length_map,h.len];omega)]
  exact ⟨Int.le_refl _,by decide⟩
theorem Qf8 (hw:1≤W∧W≤8) (hh:1≤H∧H≤8) {ls:List Int} (hl:ls.length=W * H) (hb:∀ k,k∈ls→0≤k∧k≤16384):Im W H (ls.map smp) where
 w:=hw
 h:=hh
 ok:={
  map:={
   w:=⟨by omega,by omega⟩
   h:=⟨by omega,by omega⟩
   len:=by rw [List.length_map,hl,Int.natCast_mul]
   few:=by
    have:W * H≤8 * 8:=Nat.mul_le_mul hw.2 hh.2
    rw [List.length_map,hl];omega
   chk:=fun b hm=>by
    obtain ⟨k,hk,rfl⟩:=List.mem_map.1 hm
    have:=hb k hk
    exact (jz ⟨by omega,by omega⟩).1 }
  pos:=fun b hm=>by
   obtain ⟨k,hk,rfl⟩:=List.mem_map.1 hm
   have:=hb k hk
   rw [(jz ⟨by omega,by omega⟩).2.1];omega }
theorem Qf7 {ls:List Int} (hb:∀ k,k∈ls→0≤k∧k≤16384) (k:Nat):lv (ls.map smp) k=ls.getD k 0:=by
 unfold lv
 rw [List.getD_eq_getElem?_getD,List.getD_eq_getElem?_getD,List.getElem?_map,List.getElem?_map]
 cases hq:ls[k]? with
 | none=>rfl
 | some x =>
  have:=hb x (List.mem_of_getElem? hq)
  exact (jz (k:=x) ⟨by omega,by omega⟩).2.1
end
abbrev Pt:=Int×Int
def nb (u:Pt):Nat→Pt
 | 0=>(u.1+(-1),u.2+0)
 | 1=>(u.1+1,u.2+0)
 | 2=>(u.1+0,u.2+(-1))
 | _=>(u.1+0,u.2+1)
def adj (u v:Pt):Prop:=∃ j:Nat,j < 4∧v=nb u j
theorem Y3 {u v:Pt}:adj u v↔(v.2=u.2∧(v.1=u.1 - 1 ∨ v.1=u.1+1)) ∨ (v.1=u.1∧(v.2=u.2 - 1 ∨ v.2=u.2+1)):=by
 obtain ⟨a,b⟩:=u
 obtain ⟨c,d⟩:=v
 constructor
 ·rintro ⟨j,hj,h⟩
  match j,hj with
  | 0,_=>cases h;dsimp only;omega
  | 1,_=>cases h;dsimp only;omega
  | 2,_=>cases h;dsimp only;omega
  | 3,_=>cases h;dsimp only;omega
 ·dsimp only
  intro h
  rcases h with ⟨h1,h2 | h2⟩ | ⟨h1,h2 | h2⟩
  ·exact ⟨0,by omega,Prod.ext (show c=a+(-1) by omega) (show d=b+0 by omega)⟩
  ·exact ⟨1,by omega,Prod.ext (show c=a+1 by omega) (show d=b+0 by omega)⟩
  ·exact ⟨2,by omega,Prod.ext (show c=a+0 by omega) (show d=b+(-1) by omega)⟩
  ·exact ⟨3,by omega,Prod.ext (show c=a+0 by omega) (show d=b+1 by omega)⟩
theorem QbV {u v:Pt} (h:adj u v):adj v u:=by
 have h:=Y3.1 h
 exact Y3.2 (by omega)
def Closed (all:List Pt) (S:Pt→Prop):Prop:=∀ u v,u∈all→v∈all→adj u v→S u→S v
theorem Closed.compl {all:List Pt} {S:Pt→Prop} (h:Closed all S):Closed all fun u=>¬ S u:=fun u v hu hv ha hn hs=>hn (h v u hv hu (QbV ha) hs)
structure IsCom (all c:List Pt):Prop where
 ne:c≠[]
 nd:c.Nodup
 sub:∀ q,q∈c→q∈all
 cl:Closed all fun q=>q∈c
 con:∀ S:Pt→Prop,Closed all S→∀ p q,p∈c→q∈c→S p→S q
theorem IsCom.perm {all c d:List Pt} (h:IsCom all c) (hp:d.Perm c):IsCom all d where
 ne:=fun e=>by subst e;exact h.ne hp.symm.eq_nil
 nd:=hp.symm.nodup h.nd
 sub:=fun q hq=>h.sub q (hp.mem_iff.1 hq)
 cl:=fun u v hu hv ha hm=>hp.mem_iff.2 (h.cl u v hu hv ha (hp.mem_iff.1 hm))
 con:=fun S hS p q hp' hq=>h.con S hS p q (hp.mem_iff.1 hp') (hp.mem_iff.1 hq)
structure Coms (all:List Pt) (cs:List (List Pt)):Prop where
 com:∀ c,c∈cs→IsCom all c
 nd:cs.flatten.Nodup
 cov:∀ p,p∈all→p∈cs.flatten
structure GI (all:List Pt) (L:Pt→Bool) (p:Pt) (g:List Pt):Prop where
 mem:p∈g
 nd:g.Nodup
 sub:∀ q,q∈g→q∈all∧L q=true
 con:∀ S:Pt→Prop,Closed all S→S p→∀ q,q∈g→S q
theorem GI.init {all:List Pt} {L:Pt→Bool} {p:Pt} (hp:p∈all) (hL:L p=true):GI all L p [p] where
 mem:=List.mem_cons_self
 nd:=by simp
 sub:=fun q hq=>by
  rcases List.mem_cons.1 hq with rfl | hq
  ·exact ⟨hp,hL⟩
  ·cases hq
 con:=fun S _ h q hq=>by
  rcases List.mem_cons.1 hq with rfl | hq
  ·exact h
  ·cases hq
theorem GI.push {all:List Pt} {L:Pt→Bool} {p:Pt} {g:List Pt} (h:GI all L p g) {u v:Pt} (hu:u∈g) (ha:adj u v) (hv:v∈all) (hL:L v=true) (hn:v ∉ g):GI all L p (g++[v]) where
 mem:=List.mem_append_left _ h.mem
 nd:=by
  rw [List.nodup_append]
  refine ⟨h.nd,by simp,fun a ha b hb hab=>?_⟩
  rcases List.mem_cons.1 hb with e | hb
  ·exact hn (by rw [← e,← hab];exact ha)
  ·cases hb
 sub:=fun q hq=>by
  rcases List.mem_append.1 hq with hq | hq
  ·exact h.sub q hq
  ·rcases List.mem_cons.1 hq with rfl | hq
   ·exact ⟨hv,hL⟩
   ·cases hq
 con:=fun S hS hp q hq=>by
  rcases List.mem_append.1 hq with hq | hq
  ·exact h.con S hS hp q hq
  ·rcases List.mem_cons.1 hq with rfl | hq
   ·exact hS u _ (h.sub u hu).1 hv ha (h.con S hS hp u hu)
   ·cases hq
theorem GI.com {all:List Pt} {L:Pt→Bool} {p:Pt} {g:List Pt} (h:GI all L p g) (hc:Closed all fun q=>L q=true) (hd:∀ u,u∈g→∀ j,j < 4→nb u j∈all→L (nb u j)=true→nb u j∈g):IsCom all g where
 ne:=fun e=>by have:=h.mem;rw [e] at this;cases this
 nd:=h.nd
 sub:=fun q hq=>(h.sub q hq).1
 cl:=fun u v hu hv ha hm=>by
  have hL:=hc u v hu hv ha (h.sub u hm).2
  obtain ⟨j,hj,rfl⟩:=ha
  exact hd u hm j hj hv hL
 con:=fun S hS x y hx hy hs=>by
  refine h.con S hS ?_ y hy
  rcases Classical.em (S p) with hp | hp
  ·exact hp
  ·exact absurd hs (h.con _ hS.compl hp x hx)
theorem qg {cs:List (List Pt)} {p:Pt}:p∈cs.flatten↔∃ c,c∈cs∧p∈c:=List.mem_flatten
structure Iso (all all' : List Pt) (f g:Pt→Pt):Prop where
 to:∀ p,p∈all→f p∈all'
 fro:∀ p,p∈all'→g p∈all
 gf:∀ p,p∈all→g (f p)=p
 fg:∀ p,p∈all'→f (g p)=p
 af:∀ u v,adj u v→adj (f u) (f v)
 ag:∀ u v,adj u v→adj (g u) (g v)
theorem Iso.symm {all all' : List Pt} {f g:Pt→Pt} (h:Iso all all' f g):Iso all' all g f:=⟨h.fro,h.to,h.fg,h.gf,h.ag,h.af⟩
theorem Iso.inj {all all' : List Pt} {f g:Pt→Pt} (h:Iso all all' f g) {x y:Pt} (hx:x∈all) (hy:y∈all) (e:f x=f y):x=y:=by
 rw [← h.gf x hx,← h.gf y hy,e]
theorem Coms.mate {all all' : List Pt} {cs cs' : List (List Pt)} {f g:Pt→Pt} (i:Iso all all' f g) (h:Coms all cs) (h' : Coms all' cs') {c:List Pt} (hc:c∈cs) :
  ∃ c',c'∈cs'∧c'.length=c.length∧∀ q,q∈c→f q∈c':=by
 have hC:=h.com c hc
 obtain ⟨p,hp⟩:∃ p,p∈c:=by
  cases hcc:c with
  | nil=>exact absurd hcc hC.ne
  | cons a l=>exact ⟨a,List.mem_cons_self⟩
 have hpa:=hC.sub p hp
 obtain ⟨c',hc',hpc⟩:=qg.1 (h'.cov _ (i.to p hpa))
 have hC':=h'.com c' hc'
 have A:∀ q,q∈c→f q∈c':=fun q hq=>hC.con (fun q=>f q∈c') (fun u v hu hv ha hm=>hC'.cl (f u) (f v) (i.to u hu) (i.to v hv) (i.af u v ha) hm) p q hp hq hpc
 have B:∀ q,q∈c'→g q∈c:=fun q hq=>hC'.con (fun q=>g q∈c) (fun u v hu hv ha hm=>hC.cl (g u) (g v) (i.fro u hu) (i.fro v hv) (i.ag u v ha) hm) (f p) q hpc hq (by rw [i.gf p hpa];exact hp)
 refine ⟨c',hc',Nat.le_antisymm ?_ ?_,A⟩
 ·have:=Vi (YK (f:=g) (l:=c') (fun x hx y hy e=>i.symm.inj (hC'.sub x hx) (hC'.sub y hy) e) hC'.nd) (m:=c) (fun x hx=>by
   obtain ⟨q,hq,rfl⟩:=List.mem_map.1 hx
   exact B q hq)
  rw [List.length_map] at this;exact this
 ·have:=Vi (YK (f:=f) (l:=c) (fun x hx y hy e=>i.inj (hC.sub x hx) (hC.sub y hy) e) hC.nd) (m:=c') (fun x hx=>by
   obtain ⟨q,hq,rfl⟩:=List.mem_map.1 hx
   exact A q hq)
  rw [List.length_map] at this;exact this
def Gn (cs:List (List Pt)) (k:Nat):List Pt:=(cs.filter fun c=>c.length == k).flatten
theorem Xx {cs:List (List Pt)} {k:Nat} {p:Pt}:p∈Gn cs k↔∃ c,c∈cs∧c.length=k∧p∈c:=by
 unfold Gn
 rw [qg]
 constructor
 ·rintro ⟨c,h1,h2⟩
  obtain ⟨h3,h4⟩:=List.mem_filter.1 h1
  exact ⟨c,h3,by simpa using h4,h2⟩
 ·rintro ⟨c,h1,h2,h3⟩
  exact ⟨c,List.mem_filter.2 ⟨h1,by simpa using h2⟩,h3⟩
theorem zy (k:Nat):∀ cs:List (List Pt),(Gn cs k).length=k * cs.countP fun c=>c.length == k
 | []=>rfl
 | c::cs=>by
  have ih:=zy k cs
  unfold Gn at ih ⊢
  by_cases h:c.length=k
  ·rw [List.filter_cons_of_pos (by simpa using h),List.flatten_cons,List.length_append,ih,List.countP_cons_of_pos (by simpa using h),h,Nat.mul_add,Nat.mul_one,Nat.add_comm]
  ·rw [List.filter_cons_of_neg (by simpa using h),ih,List.countP_cons_of_neg (by simpa using h)]
theorem QaV (k:Nat):∀ {cs:List (List Pt)},cs.flatten.Nodup→(Gn cs k).Nodup
 | [],_=>List.nodup_nil
 | c::cs,h=>by
  rw [List.flatten_cons,List.nodup_append] at h
  obtain ⟨h1,h2,h3⟩:=h
  have ih:=QaV k h2
  have hsub:∀ x,x∈Gn cs k→x∈cs.flatten:=fun x hx=>by
   obtain ⟨c,a,_,b⟩:=Xx.1 hx
   exact qg.2 ⟨c,a,b⟩
  unfold Gn at ih hsub ⊢
  by_cases hk:c.length=k
  ·rw [List.filter_cons_of_pos (by simpa using hk),List.flatten_cons,List.nodup_append]
   exact ⟨h1,ih,fun a ha b hb=>h3 a ha b (hsub b hb)⟩
  ·rw [List.filter_cons_of_neg (by simpa using hk)];exact ih
theorem QaW {all all' : List Pt} {cs cs' : List (List Pt)} {f g:Pt→Pt} (i:Iso all all' f g) (h:Coms all cs) (h' : Coms all' cs') (k:Nat):(Gn cs k).length≤(Gn cs' k).length:=by
 have hall:∀ x,x∈Gn cs k→x∈all:=fun x hx=>by
  obtain ⟨c,a,_,b⟩:=Xx.1 hx
  exact (h.com c a).sub x b
 have:=Vi (YK (f:=f) (l:=Gn cs k) (fun x hx y hy e=>i.inj (hall x hx) (hall y hy) e) (QaV k h.nd)) (m:=Gn cs' k) (fun x hx=>by
  obtain ⟨q,hq,rfl⟩:=List.mem_map.1 hx
  obtain ⟨c,a,b,d⟩:=Xx.1 hq
  obtain ⟨c',a',b',d'⟩:=Coms.mate i h h' a
  exact Xx.2 ⟨c',a',b'.trans b,d' q d⟩)
 rw [List.length_map] at this;exact this
theorem Coms.sizes {all all' : List Pt} {cs cs' : List (List Pt)} {f g:Pt→Pt} (i:Iso all all' f g) (h:Coms all cs) (h' : Coms all' cs'):(cs.map List.length).Perm (cs'.map List.length):=by
 rw [List.perm_iff_count]
 intro k
 have e:∀ cs:List (List Pt),(cs.map List.length).count k=cs.countP fun c=>c.length == k:=fun cs=>by
  unfold List.count
  rw [List.countP_map];rfl
 rw [e,e]
 have h1:=QaW i h h' k
 have h2:=QaW i.symm h' h k
 rw [zy,zy] at h1 h2
 by_cases hk:k=0
 ·subst hk
  have z:∀ {all:List Pt} {cs:List (List Pt)},Coms all cs→(cs.countP fun c=>c.length == 0)=0:=fun {all cs} h=>by
   rw [List.countP_eq_zero]
   intro c hc hl
   exact (h.com c hc).ne (List.length_eq_zero_iff.1 (by simpa using hl))
  rw [z h,z h']
 ·exact Nat.eq_of_mul_eq_mul_left (Nat.pos_of_ne_zero hk) (Nat.le_antisymm h1 h2)
def par (f:Nat→Int) (N i:Nat):List Int:=(List.range N).map fun k=>if k < i then f k else 0
theorem Xy (f:Nat→Int) (N i:Nat):(par f N i).length=N:=by unfold par;rw [List.length_map,List.length_range]
theorem uX (f:Nat→Int) {N i k:Nat} (hk:k < N):(par f N i)[k]?=some (if k < i then f k else 0):=by
 unfold par;rw [List.getElem?_map,List.getElem?_range hk];rfl
theorem Qbf (f:Nat→Int) (N:Nat):par f N 0=List.replicate N 0:=by
 apply List.ext_getElem?
 intro k
 by_cases hk:k < N
 ·rw [uX f hk,List.getElem?_replicate,if_pos hk,if_neg (by omega)]
 ·rw [List.getElem?_eq_none (by rw [Xy];omega),List.getElem?_eq_none (by rw [List.length_replicate];omega)]
theorem Qbg (f:Nat→Int) {N i:Nat} (hi:i < N):par f N (i+1)=(par f N i).set i (f i):=by
 apply List.ext_getElem?
 intro k
 rw [List.getElem?_set,Xy]
 by_cases hk:k < N
 ·rw [uX f hk,uX f hk]
  by_cases he:i=k
  ·subst he;rw [if_pos rfl,if_pos hi,if_pos (by omega)]
  ·rw [if_neg he]
   by_cases hlt:k < i
   ·rw [if_pos (by omega),if_pos hlt]
   ·rw [if_neg (by omega),if_neg hlt]
 ·rw [List.getElem?_eq_none (by rw [Xy];omega),List.getElem?_eq_none (by rw [Xy];omega)]
  by_cases he:i=k
  ·omega
  ·rw [if_neg he]
theorem QcZ (f:Nat→Int) (N:Nat):par f N N=(List.range N).map f:=by
 unfold par
 exact List.map_congr_left fun k hk=>if_pos (List.mem_range.1 hk)
section
variable {W H:Nat} {bs:List Nat}
def flx (W k:Nat):Nat:=(k / W) * W+(W - 1 - k % W)
def tux (W H k:Nat):Nat:=(H - 1 - k % H) * W+k / H
def fl (W H:Nat) (bs:List Nat):List Int:=(List.range (W * H)).map fun k=>lv bs (flx W k)
def tu (W H:Nat) (bs:List Nat):List Int:=(List.range (H * W)).map fun k=>lv bs (tux W H k)
theorem Qao {k:Nat} (hk:k < W * H):flx W k < W * H:=by
 have h1:=js hk
 exact V5 (by omega) (y_lt hk)
theorem uF {k:Nat} (hk:k < H * W):tux W H k < W * H:=by
 have h1:=js hk
 exact V5 (y_lt hk) (by omega)
theorem Im.fl_in (h:Im W H bs):∀ k,k∈fl W H bs→0≤k∧k≤16384:=fun k hk=>by
 obtain ⟨j,_,rfl⟩:=List.mem_map.1 hk
 exact h.lv_in _
theorem Im.tu_in (h:Im W H bs):∀ k,k∈tu W H bs→0≤k∧k≤16384:=fun k hk=>by
 obtain ⟨j,_,rfl⟩:=List.mem_map.1 hk
 exact h.lv_in _
theorem Im.fl (h:Im W H bs):Im W H ((YtfiigcbhiopagaaGreatDoor.fl W H bs).map smp):=Qf8 h.w h.h (by unfold YtfiigcbhiopagaaGreatDoor.fl;rw [List.length_map,List.length_range]) h.fl_in
theorem Im.tu (h:Im W H bs):Im H W ((YtfiigcbhiopagaaGreatDoor.tu W H bs).map smp):=Qf8 h.h h.w (by unfold YtfiigcbhiopagaaGreatDoor.tu;rw [List.length_map,List.length_range]) h.tu_in
theorem Im.fl_lv (h:Im W H bs) {k:Nat} (hk:k < W * H):lv ((YtfiigcbhiopagaaGreatDoor.fl W H bs).map smp) k=lv bs (flx W k):=by
 rw [Qf7 h.fl_in]
 unfold YtfiigcbhiopagaaGreatDoor.fl
 rw [List.getD_eq_getElem?_getD,List.getElem?_map,List.getElem?_range hk];rfl
theorem Im.tu_lv (h:Im W H bs) {k:Nat} (hk:k < H * W):lv ((YtfiigcbhiopagaaGreatDoor.tu W H bs).map smp) k=lv bs (tux W H k):=by
 rw [Qf7 h.tu_in]
 unfold YtfiigcbhiopagaaGreatDoor.tu
 rw [List.getD_eq_getElem?_getD,List.getElem?_map,List.getElem?_range hk];rfl
theorem QbR (n:Nat) (hN:W * H≤64):WU n (W:Int) (H:Int)=some ((W:Int),(H:Int),List.replicate (W * H) (I 0)):=by
 have e:((W:Int) * (H:Int))=((W * H:Nat):Int):=(Int.natCast_mul W H).symm
 unfold WU
 rw [e,if_pos (by unfold Qb;omega),if_pos ⟨by omega,by omega,by omega,by omega⟩,Int.toNat_natCast]
theorem Qcr (h:Im W H bs) {j:Nat} (hj:j < W * H):(nth (bs.map levD) (Int.toNat (j:Int))).bind un_i=some (lv bs j):=by
 obtain ⟨b,hb,_,e,_⟩:=h.at hj
 rw [qb hb,e];rfl
theorem Qbv (n:Nat) {X Y:Nat} (ls:List D) (hX:X < 64) (hY:Y < 64) (hW:W < 64):ZE n (W:Int) (H:Int) ls (X:Int) (Y:Int)=some ((Y * W+X:Nat):Int):=by
 have h1:Y * W≤64 * 64:=Nat.mul_le_mul (by omega) (by omega)
 have e:(Y:Int) * (W:Int)=((Y * W:Nat):Int):=(Int.natCast_mul Y W).symm
 unfold ZE
 rw [e,if_pos (by unfold Qb;omega),if_pos (by unfold Qb;omega)]
 congr 1
theorem ki {n:Nat} (hn:300≤n) (h:Im W H bs):WL n (W:Int) (H:Int) (bs.map Qm)=some ((W:Int),(H:Int),((fl W H bs).map smp).map Qm,0):=by
 have hN:=h.few
 have hw:=h.w
 have hh:=h.h
 have e:((W:Int) * (H:Int))=((W * H:Nat):Int):=(Int.natCast_mul W H).symm
 unfold WL
 rw [KQ hn h.ok.map,Option.bind_some,if_pos rfl,zJ hn h.ok.map,Option.bind_some,QbR n hN,Option.bind_some]
 dsimp only
 rw [e,if_pos (by unfold Qb;omega)]
 have hl:=WY (L:=ZF n (W:Int) (H:Int) (bs.map Qm) ((W:Int),(H:Int),bs.map levD) ((W:Int),(H:Int),List.replicate (W * H) (I 0))) (fun i=>((i:Int),(par (fun k=>lv bs (flx W k)) (W * H) i).map I)) (W * H) (e:=(fl W H bs).map I)
  (fun i hi=>by
   have hx:=js hi
   have hy:=y_lt hi
   have hj:=Qao hi
   have e1:Int.tmod (i:Int) (W:Int)=((i % W:Nat):Int):=by rw [Int.tmod_eq_emod_of_nonneg (by omega)];rfl
   have e2:Int.tdiv (i:Int) (W:Int)=((i / W:Nat):Int):=by rw [Int.tdiv_eq_ediv_of_nonneg (by omega)];rfl
   have e3:(W:Int) - 1 - ((i % W:Nat):Int)=((W - 1 - i % W:Nat):Int):=by omega
   have hb:((i / W) * W+(W - 1 - i % W):Nat)=flx W i:=rfl
   unfold ZF
   dsimp only
   rw [e,if_pos (by omega),if_pos (by omega),e1,e2,e3]
   rw [if_pos (show Qb ((i / W:Nat):Int) by generalize i / W=q at *;unfold Qb;omega),if_pos (by unfold Qb;omega),if_pos (show Qb ((W - 1 - i % W:Nat):Int) by generalize i % W=q at *;unfold Qb;omega),Qbv n _ (by omega) (by omega) (by omega),Option.bind_some,hb,List.length_map,h.len,if_pos ⟨by omega,by omega⟩,Qcr h hj,Option.bind_some,List.length_map,Xy,if_pos ⟨by omega,by omega⟩,Int.toNat_natCast,if_pos hi,if_pos (by unfold Qb;omega),
    Qbg _ hi,List.map_set]
   rfl)
  (by
   unfold ZF
   dsimp only
   rw [e,if_neg (by omega),QcZ];rfl) (n:=n) (by omega)
 rw [Qbf,List.map_replicate] at hl
 have hl' : Qz (ZF n (W:Int) (H:Int) (bs.map Qm) ((W:Int),(H:Int),bs.map levD) ((W:Int),(H:Int),List.replicate (W * H) (I 0))) n (0,List.replicate (W * H) (I 0))=_:=hl
 rw [hl',Option.bind_some,Qc4 hn _ _ (by unfold fl;rw [List.length_map,List.length_range];omega) (fun k hk=>by have:=h.fl_in k hk;omega),Option.bind_some]
theorem YF {n:Nat} (hn:300≤n) (h:Im W H bs):Zg n (W:Int) (H:Int) (bs.map Qm)=some ((H:Int),(W:Int),((tu W H bs).map smp).map Qm,0):=by
 have hN:=h.few
 have hN' : H * W≤64:=by rw [Nat.mul_comm];exact hN
 have hw:=h.w
 have hh:=h.h
 have e:((H:Int) * (W:Int))=((H * W:Nat):Int):=(Int.natCast_mul H W).symm
 unfold Zg
 rw [KQ hn h.ok.map,Option.bind_some,if_pos rfl,zJ hn h.ok.map,Option.bind_some,QbR n hN',Option.bind_some]
 dsimp only
 rw [e,if_pos (by unfold Qb;omega)]
 have hl:=WY (L:=ZT n (W:Int) (H:Int) (bs.map Qm) ((W:Int),(H:Int),bs.map levD) ((H:Int),(W:Int),List.replicate (H * W) (I 0))) (fun i=>((i:Int),(par (fun k=>lv bs (tux W H k)) (H * W) i).map I)) (H * W) (e:=(tu W H bs).map I)
  (fun i hi=>by
   have hx:=js hi
   have hy:=y_lt hi
   have hj:=uF hi
   have e1:Int.tmod (i:Int) (H:Int)=((i % H:Nat):Int):=by rw [Int.tmod_eq_emod_of_nonneg (by omega)];rfl
   have e2:Int.tdiv (i:Int) (H:Int)=((i / H:Nat):Int):=by rw [Int.tdiv_eq_ediv_of_nonneg (by omega)];rfl
   have e3:(H:Int) - 1 - ((i % H:Nat):Int)=((H - 1 - i % H:Nat):Int):=by omega
   have hb:((H - 1 - i % H) * W+i / H:Nat)=tux W H i:=rfl
   unfold ZT
   dsimp only
   rw [e,if_pos (by omega),if_pos (by omega),e1,e2,e3]
   rw [if_pos (show Qb ((i / H:Nat):Int) by generalize i / H=q at *;unfold Qb;omega),if_pos (by unfold Qb;omega),if_pos (show Qb ((H - 1 - i % H:Nat):Int) by generalize i % H=q at *;unfold Qb;omega),Qbv n _ (by omega) (by omega) (by omega),Option.bind_some,hb,List.length_map,h.len,if_pos ⟨by omega,by omega⟩,Qcr h hj,Option.bind_some,List.length_map,Xy,if_pos ⟨by omega,by omega⟩,Int.toNat_natCast,if_pos hi,if_pos (by unfold Qb;omega),
    Qbg _ hi,List.map_set]
   rfl)
  (by
   unfold ZT
   dsimp only
   rw [e,if_neg (by omega),QcZ];rfl) (n:=n) (by omega)
 rw [Qbf,List.map_replicate] at hl
 have hl' : Qz (ZT n (W:Int) (H:Int) (bs.map Qm) ((W:Int),(H:Int),bs.map levD) ((H:Int),(W:Int),List.replicate (H * W) (I 0))) n (0,List.replicate (H * W) (I 0))=_:=hl
 rw [hl',Option.bind_some,Qc4 hn _ _ (by unfold tu;rw [List.length_map,List.length_range];omega) (fun k hk=>by have:=h.tu_in k hk;omega),Option.bind_some]
theorem E4 {r H:Nat} (h:r < H):H - 1 - r < H:=by omega
theorem jv {r H:Nat} (h:r < H):H - 1 - (H - 1 - r)=r:=by omega
theorem Im.four (h:Im W H bs) {k:Nat} (hk:k < W * H) :
  lv ((YtfiigcbhiopagaaGreatDoor.tu H W ((YtfiigcbhiopagaaGreatDoor.tu W H ((YtfiigcbhiopagaaGreatDoor.tu H W ((YtfiigcbhiopagaaGreatDoor.tu W H bs).map smp)).map smp)).map smp)).map smp) k=lv bs k:=by
 have h1:=h.tu
 have h2:=h1.tu
 have h3:=h2.tu
 have hx:=js hk
 have hy:=y_lt hk
 have hw:=h.w
 have hh:=h.h
 rw [h3.tu_lv hk]
 have k3:tux H W k < H * W:=uF hk
 rw [h2.tu_lv k3]
 have k2:tux W H (tux H W k) < W * H:=uF k3
 rw [h1.tu_lv k2]
 have k1:tux H W (tux W H (tux H W k)) < H * W:=uF k2
 rw [h.tu_lv k1]
 congr 1
 have a1:tux H W k=(W - 1 - k % W) * H+k / W:=rfl
 have a2:tux W H (tux H W k)=(H - 1 - k / W) * W+(W - 1 - k % W):=by
  rw [a1];unfold tux;rw [YU (W:=H) (x:=k / W) (y:=W - 1 - k % W) hy,YV (W:=H) (x:=k / W) (y:=W - 1 - k % W) hy]
 have a3:tux H W (tux W H (tux H W k))=(k % W) * H+(H - 1 - k / W):=by
  have hlt:W - 1 - k % W < W:=E4 hx
  rw [a2];unfold tux
  rw [YU (W:=W) (x:=W - 1 - k % W) (y:=H - 1 - k / W) hlt,YV (W:=W) (x:=W - 1 - k % W) (y:=H - 1 - k / W) hlt,jv hx]
 have hlt:H - 1 - k / W < H:=E4 hy
 rw [a3]
 unfold tux
 rw [YU (W:=H) (x:=H - 1 - k / W) (y:=k % W) hlt,YV (W:=H) (x:=H - 1 - k / W) (y:=k % W) hlt,jv hy]
 exact jX W k
def JL:List Int→Int
 | []=>0
 | x::l=>x+JL l
theorem QaR (l m:List Int):JL (l++m)=JL l+JL m:=by
 induction l with
 | nil=>show JL m=0+JL m;omega
 | cons x l ih=>show x+JL (l++m)=x+JL l+JL m;rw [ih];omega
theorem Qds {l m:List Int} (h:l.Perm m):JL l=JL m:=by
 induction h with
 | nil=>rfl
 | cons x _ ih=>show x+_=x+_;rw [ih]
 | swap x y l=>show y+(x+JL l)=x+(y+JL l);omega
 | trans _ _ h1 h2=>exact h1.trans h2
theorem QcU {B:Int} {l:List Int} (hl:∀ x,x∈l→0≤x∧x≤B) (hB:0≤B):0≤JL l∧JL l≤B * (l.length:Int):=by
 induction l with
 | nil=>exact ⟨Int.le_refl _,by show (0:Int)≤B * 0;omega⟩
 | cons x l ih =>
  have h1:=hl x List.mem_cons_self
  have h2:=ih fun y hy=>hl y (List.mem_cons_of_mem _ hy)
  rw [List.length_cons,show ((l.length+1:Nat):Int)=(l.length:Int)+1 from rfl,Int.mul_add,Int.mul_one]
  show 0≤x+JL l∧x+JL l≤_
  omega
def Wo (f:Nat→Int) (i:Nat):Int:=JL ((List.range i).map f)
theorem zu (f:Nat→Int) (i:Nat):Wo f (i+1)=Wo f i+f i:=by
 unfold Wo
 rw [List.range_succ,List.map_append,QaR]
 show _+(f i+0)=_
 omega
theorem uC {f:Nat→Int} {B:Int} (hB:0≤B) (i:Nat) (hf:∀ k,k < i→0≤f k∧f k≤B):0≤Wo f i∧Wo f i≤B * (i:Int):=by
 have:=QcU (B:=B) (l:=(List.range i).map f) (fun x hx=>by
  obtain ⟨k,hk,rfl⟩:=List.mem_map.1 hx
  exact hf k (List.mem_range.1 hk)) hB
 rw [List.length_map,List.length_range] at this
 exact this
theorem zw {f:Nat→Int} {s:Nat→Nat} {N:Nat} (hs:∀ k,k < N→s k < N) (hss:∀ k,k < N→s (s k)=k):Wo (fun k=>f (s k)) N=Wo f N:=by
 unfold Wo
 rw [show (List.range N).map (fun k=>f (s k))=((List.range N).map s).map f by rw [List.map_map];rfl]
 refine Qds (List.Perm.map f (Qcg (YK (fun x hx y hy e=>?_) List.nodup_range) List.nodup_range fun x=>⟨fun hx=>?_,fun hx=>?_⟩))
 ·rw [← hss x (List.mem_range.1 hx),← hss y (List.mem_range.1 hy),e]
 ·obtain ⟨k,hk,rfl⟩:=List.mem_map.1 hx
  exact List.mem_range.2 (hs k (List.mem_range.1 hk))
 ·exact List.mem_map.2 ⟨s x,List.mem_range.2 (hs x (List.mem_range.1 hx)),hss x (List.mem_range.1 hx)⟩
theorem Qap {k:Nat} (hk:k < W * H):flx W (flx W k)=k:=by
 have hx:=js hk
 have hlt:W - 1 - k % W < W:=E4 hx
 unfold flx
 rw [YU (W:=W) (x:=W - 1 - k % W) (y:=k / W) hlt,YV (W:=W) (x:=W - 1 - k % W) (y:=k / W) hlt,jv hx]
 exact jX W k
theorem QaP {n:Nat} (hn:300≤n) (h:Im W H bs):Vm n (W:Int) (H:Int) (bs.map Qm)=some (Wo (lv bs) (W * H),0):=by
 have hN:=h.few
 unfold Vm
 rw [KQ hn h.ok.map,Option.bind_some,if_pos rfl,zJ hn h.ok.map,Option.bind_some]
 have hl:=WY (L:=Z1 n ((W:Int),(H:Int),bs.map levD)) (fun i=>(Wo (lv bs) i,(i:Int))) (W * H) (e:=Wo (lv bs) (W * H))
  (fun i hi=>by
   have hb:=h.lv_in i
   have hu:=uC (f:=lv bs) (B:=16384) (by omega) i fun k _=>h.lv_in k
   unfold Z1
   dsimp only
   rw [List.length_map,h.len,if_pos (by omega),if_pos ⟨by omega,by omega⟩,Qcr h hi,Option.bind_some,if_pos (by unfold Qb;omega),if_pos (by unfold Qb;omega),zu]
   rfl)
  (by
   unfold Z1
   dsimp only
   rw [List.length_map,h.len,if_neg (by omega)]) (n:=n) (by omega)
 have hl' : Qz (Z1 n ((W:Int),(H:Int),bs.map levD)) n (0,0)=_:=hl
 rw [hl',Option.bind_some]
theorem Im.total (h:Im W H bs):Wo (lv ((YtfiigcbhiopagaaGreatDoor.fl W H bs).map smp)) (W * H)=Wo (lv bs) (W * H):=by
 rw [← zw (f:=lv bs) (s:=flx W) (N:=W * H) (fun k hk=>Qao hk) (fun k hk=>Qap hk)]
 unfold Wo
 congr 1
 exact List.map_congr_left fun k hk=>h.fl_lv (List.mem_range.1 hk)
end
theorem yK (x:Pt):ZP (Ql x)=some x:=rfl
def ptn (W k:Nat):Pt:=(((k % W:Nat):Int),((k / W:Nat):Int))
def dkp (bs:List Nat) (T:Int) (k:Nat):Bool:=decide (T≤lv bs k)
def dk (bs:List Nat) (T:Int) (i:Nat):List Nat:=(List.range i).filter (dkp bs T)
def pts (W H:Nat) (bs:List Nat) (T:Int):List Pt:=(dk bs T (W * H)).map (ptn W)
theorem QfP (bs:List Nat) (T:Int) (i:Nat):dk bs T (i+1)=if dkp bs T i=true then dk bs T i++[i] else dk bs T i:=by
 unfold dk
 rw [List.range_succ,List.filter_append]
 cases h:dkp bs T i with
 | true=>simp [h]
 | false=>simp [h]
theorem Qfi (bs:List Nat) (T:Int) (i:Nat):(dk bs T i).length≤i:=by
 have:=List.length_filter_le (dkp bs T) (List.range i)
 rw [List.length_range] at this;exact this
def dst (W:Nat) (bs:List Nat) (T:Int) (i:Nat):Int⊕(Int×List D):=if dk bs T i=[] then .inl (i:Int) else .inr ((i:Int),((dk bs T i).map (ptn W)).map Ql)
section
variable {W H:Nat} {bs:List Nat}
theorem Im.el (h:Im W H bs) {i:Nat} (hi:i < W * H):∃ b,SX.el Vq (bs.map Qm) (i:Int)=some b∧∀ n,ZO n b=some (lv bs i):=by
 obtain ⟨b,hb,hc,e,_⟩:=h.at hi
 exact ⟨b,Vo unff hb,fun n=>by rw [zV hc n,e]⟩
theorem Qdd {n:Nat} (hn:300≤n) (h:Im W H bs) {lim:Nat} (hc:chk lim=0):VQ n (W:Int) (H:Int) (bs.map Qm) lim=some ((pts W H bs (lev lim)).map Ql):=by
 have hN:=h.few
 have hw:=h.w
 unfold VQ
 have hl:=WY (L:=ZC n (W:Int) (H:Int) (bs.map Qm) lim) (dst W bs (lev lim)) (W * H) (e:=if dk bs (lev lim) (W * H)=[] then .inl () else .inr ((pts W H bs (lev lim)).map Ql))
  (fun i hi=>by
   have hx:=js hi
   have hy:=y_lt hi
   have e1:Int.tmod (i:Int) (W:Int)=((i % W:Nat):Int):=by rw [Int.tmod_eq_emod_of_nonneg (by omega)];rfl
   have e2:Int.tdiv (i:Int) (W:Int)=((i / W:Nat):Int):=by rw [Int.tdiv_eq_ediv_of_nonneg (by omega)];rfl
   have hq:Qb ((i / W:Nat):Int):=by
    have:=h.h
    generalize i / W=q at *
    unfold Qb;omega
   have hlen:=Qfi bs (lev lim) i
   have hnext:((i+1:Nat):Int)=(i:Int)+1:=rfl
   have hs:=QfP bs (lev lim) i
   obtain ⟨b,hb,hlv⟩:=h.el hi
   have hge:dkp bs (lev lim) i=true↔lv bs i ≥ lev lim:=by unfold dkp;rw [decide_eq_true_iff]
   unfold dst
   by_cases h0:dk bs (lev lim) i=[]
   ·rw [if_pos h0]
    unfold ZC
    dsimp only
    rw [List.length_map,h.len,if_pos (by omega),hb,Option.bind_some,if_pos (by omega),e1,e2,if_pos hq,hlv,Option.bind_some,zV hc n,Option.bind_some]
    by_cases hd:lv bs i ≥ lev lim
    ·rw [if_pos hd,if_pos (by unfold Qb;omega),hs,if_pos (hge.2 hd),if_neg (by simp),h0,hnext]
     rfl
    ·rw [if_neg hd,if_pos (by unfold Qb;omega),hs,if_neg (fun q=>hd (hge.1 q)),if_pos h0,hnext]
   ·rw [if_neg h0]
    unfold ZC
    dsimp only
    rw [List.length_map,h.len,if_pos (by omega),hb,Option.bind_some,if_pos (by omega),e1,e2,if_pos hq,hlv,Option.bind_some,zV hc n,Option.bind_some]
    by_cases hd:lv bs i ≥ lev lim
    ·rw [if_pos hd,if_pos (by unfold ZZ;rw [List.length_map,List.length_map];omega),if_pos (by unfold Qb;omega),hs,if_pos (hge.2 hd),if_neg (by simp),hnext,List.map_append,List.map_append]
     rfl
    ·rw [if_neg hd,if_pos (by unfold Qb;omega),hs,if_neg (fun q=>hd (hge.1 q)),if_neg h0,hnext])
  (by
   unfold dst
   by_cases h0:dk bs (lev lim) (W * H)=[]
   ·rw [if_pos h0,if_pos h0]
    unfold ZC
    dsimp only
    rw [List.length_map,h.len,if_neg (by omega)]
   ·rw [if_neg h0,if_neg h0]
    unfold ZC
    dsimp only
    rw [List.length_map,h.len,if_neg (by omega)]
    rfl) (n:=n) (by omega)
 have hl' : Qz (ZC n (W:Int) (H:Int) (bs.map Qm) lim) n (.inl 0)=_:=hl
 rw [hl',Option.bind_some]
 by_cases h0:dk bs (lev lim) (W * H)=[]
 ·rw [if_pos h0]
  unfold pts
  rw [h0];rfl
 ·rw [if_neg h0]
theorem QeQ {n:Nat} (hn:300≤n) {lim:Nat} (hc:chk lim=0) (hp:1≤lev lim):WF n lim=some 0:=by
 have h1:=ji hc Xs.1
 rw [Xs.2] at h1
 have e:((FloatKind.format .f32).order lim 0 == some .lt || (FloatKind.format .f32).order lim 0 == some .eq)=false:=by
  rw [show (FloatKind.format .f32).order lim 0=some (compare (lev lim) 0) from h1,Int.compare_eq_gt.2 (show lev lim > 0 by omega)];rfl
 unfold WF
 rw [QbO hn hc,Option.bind_some,e,jm,Option.bind_some,show ([I 0,I 0]:List D)=List.replicate 2 (I 0) from rfl,Va hn 2 (by omega),Option.bind_some]
theorem QbP {n:Nat} (hn:300≤n) (h:Im W H bs) {lim:Nat} (hc:chk lim=0) (hp:1≤lev lim):Wi n (W:Int) (H:Int) (bs.map Qm) lim=some 0:=by
 unfold Wi
 rw [Qar hn h.ok,Option.bind_some,QeQ hn hc hp,Option.bind_some,show ([I 0,I 0]:List D)=List.replicate 2 (I 0) from rfl,Va hn 2 (by omega),Option.bind_some]
theorem QcX (W H:Nat) (bs:List Nat) (T:Int):(pts W H bs T).length≤W * H:=by unfold pts;rw [List.length_map];exact Qfi bs T _
theorem Us {T:Int} {p:Pt}:p∈pts W H bs T↔∃ X Y:Nat,X < W∧Y < H∧p=((X:Int),(Y:Int))∧T≤lv bs (Y * W+X):=by
 constructor
 ·intro h
  obtain ⟨k,hk,rfl⟩:=List.mem_map.1 h
  unfold dk dkp at hk
  obtain ⟨h1,h2⟩:=List.mem_filter.1 hk
  have hk:=List.mem_range.1 h1
  refine ⟨k % W,k / W,js hk,y_lt hk,rfl,?_⟩
  rw [jX];exact of_decide_eq_true h2
 ·rintro ⟨X,Y,hX,hY,rfl,h⟩
  refine List.mem_map.2 ⟨Y * W+X,?_,?_⟩
  ·unfold dk dkp
   exact List.mem_filter.2 ⟨List.mem_range.2 (V5 hX hY),decide_eq_true h⟩
  ·unfold ptn
   rw [YU hX,YV hX]
theorem Qb9 (W H:Nat) (bs:List Nat) (T:Int):(pts W H bs T).Nodup:=by
 unfold pts
 refine YK (fun x hx y hy e=>?_) (List.Pairwise.filter _ List.nodup_range)
 unfold ptn at e
 have e1:((x % W:Nat):Int)=((y % W:Nat):Int):=congrArg Prod.fst e
 have e2:((x / W:Nat):Int)=((y / W:Nat):Int):=congrArg Prod.snd e
 have e3:=Int.ofNat.inj e1
 have e4:=Int.ofNat.inj e2
 rw [← jX W x,← jX W y,e3,e4]
theorem Im.iso_fl (h:Im W H bs) (T:Int):Iso (pts W H bs T) (pts W H ((YtfiigcbhiopagaaGreatDoor.fl W H bs).map smp) T) (fun p=>((W:Int) - 1 - p.1,p.2)) (fun p=>((W:Int) - 1 - p.1,p.2)):=by
 have key:∀ X Y:Nat,X < W→Y < H→lv ((YtfiigcbhiopagaaGreatDoor.fl W H bs).map smp) (Y * W+X)=lv bs (Y * W+(W - 1 - X)):=by
  intro X Y hX hY
  rw [h.fl_lv (V5 hX hY)]
  unfold flx
  rw [YU hX,YV hX]
 refine ⟨fun p hp=>?_,fun p hp=>?_,fun p hp=>?_,fun p hp=>?_,fun u v ha=>?_,fun u v ha=>?_⟩
 ·obtain ⟨X,Y,hX,hY,rfl,hl⟩:=Us.1 hp
  refine Us.2 ⟨W - 1 - X,Y,by omega,hY,Prod.ext (by dsimp only;omega) rfl,?_⟩
  rw [key _ _ (by omega) hY,show W - 1 - (W - 1 - X)=X by omega];exact hl
 ·obtain ⟨X,Y,hX,hY,rfl,hl⟩:=Us.1 hp
  refine Us.2 ⟨W - 1 - X,Y,by omega,hY,Prod.ext (by dsimp only;omega) rfl,?_⟩
  rw [key _ _ hX hY] at hl;exact hl
 ·exact Prod.ext (by dsimp only;omega) rfl
 ·exact Prod.ext (by dsimp only;omega) rfl
 ·have:=Y3.1 ha
  refine Y3.2 ?_
  dsimp only;omega
 ·have:=Y3.1 ha
  refine Y3.2 ?_
  dsimp only;omega
theorem Im.iso_tu (h:Im W H bs) (T:Int):Iso (pts W H bs T) (pts H W ((YtfiigcbhiopagaaGreatDoor.tu W H bs).map smp) T) (fun p=>((H:Int) - 1 - p.2,p.1)) (fun p=>(p.2,(H:Int) - 1 - p.1)):=by
 have key:∀ X Y:Nat,X < H→Y < W→lv ((YtfiigcbhiopagaaGreatDoor.tu W H bs).map smp) (Y * H+X)=lv bs ((H - 1 - X) * W+Y):=by
  intro X Y hX hY
  rw [h.tu_lv (V5 hX hY)]
  unfold tux
  rw [YU hX,YV hX]
 refine ⟨fun p hp=>?_,fun p hp=>?_,fun p hp=>?_,fun p hp=>?_,fun u v ha=>?_,fun u v ha=>?_⟩
 ·obtain ⟨X,Y,hX,hY,rfl,hl⟩:=Us.1 hp
  refine Us.2 ⟨H - 1 - Y,X,by omega,hX,Prod.ext (by dsimp only;omega) rfl,?_⟩
  rw [key _ _ (by omega) hX,show H - 1 - (H - 1 - Y)=Y by omega];exact hl
 ·obtain ⟨X,Y,hX,hY,rfl,hl⟩:=Us.1 hp
  refine Us.2 ⟨Y,H - 1 - X,hY,by omega,Prod.ext rfl (by dsimp only;omega),?_⟩
  rw [key _ _ hX hY] at hl;exact hl
 ·exact Prod.ext rfl (by dsimp only;omega)
 ·exact Prod.ext (by dsimp only;omega) rfl
 ·have:=Y3.1 ha
  refine Y3.2 ?_
  dsimp only;omega
 ·have:=Y3.1 ha
  refine Y3.2 ?_
  dsimp only;omega
theorem QfM {all all' : List Pt} {f g:Pt→Pt} (i:Iso all all' f g) (h:all.Nodup) (h' : all'.Nodup):all.length=all'.length:=by
 refine Nat.le_antisymm ?_ ?_
 ·have:=Vi (YK (f:=f) (l:=all) (fun x hx y hy e=>i.inj hx hy e) h) (m:=all') (fun x hx=>by
   obtain ⟨q,hq,rfl⟩:=List.mem_map.1 hx
   exact i.to q hq)
  rw [List.length_map] at this;exact this
 ·have:=Vi (YK (f:=g) (l:=all') (fun x hx y hy e=>i.symm.inj hx hy e) h') (m:=all) (fun x hx=>by
   obtain ⟨q,hq,rfl⟩:=List.mem_map.1 hx
   exact i.fro q hq)
  rw [List.length_map] at this;exact this
end
def kP (p:Pt):Value:=.agg #[.int .i64 p.1,.int .i64 p.2]
def ent (L:Pt→Bool) (p:Pt):D:=.tup [.v (kP p),B (L p)]
def Wk (all:List Pt) (L:Pt→Bool):List D:=all.map (ent L)
theorem jf (p q:Pt):VS (kP p) (kP q)=some (decide (p=q)):=by
 obtain ⟨a,b⟩:=p
 obtain ⟨c,d⟩:=q
 show some ((a == c) && ((b == d) && true))=_
 congr 1
 by_cases h1:a=c
 ·by_cases h2:b=d
  ·subst h1;subst h2;simp
  ·subst h1;simp [h2]
 ·simp [h1]
theorem XB (L:Pt→Bool) (p:Pt):SX.keyOf (ent L p)=some (kP p,B (L p)):=rfl
theorem U0 (p:Pt) (L:Pt→Bool):∀ l:List Pt,mok (kP p) (Wk l L)=true
 | []=>rfl
 | q::l=>by
  unfold Wk at *
  rw [List.map_cons]
  unfold mok
  rw [XB]
  dsimp only
  rw [jf]
  exact U0 p L l
theorem U1 (p:Pt) (L:Pt→Bool):∀ l:List Pt,QD (kP p) (Wk l L)=if p∈l then some (B (L p)) else none
 | []=>rfl
 | q::l=>by
  have ih:=U1 p L l
  unfold Wk at *
  rw [List.map_cons]
  unfold QD
  rw [XB]
  dsimp only
  rw [jf]
  by_cases h:p=q
  ·subst h
   rw [decide_eq_true rfl,if_pos List.mem_cons_self]
  ·rw [decide_eq_false h]
   dsimp only
   rw [ih]
   by_cases hm:p∈l
   ·rw [if_pos hm,if_pos (List.mem_cons_of_mem _ hm)]
   ·rw [if_neg hm,if_neg (fun q=>by rcases List.mem_cons.1 q with e | e;exact h e;exact hm e)]
def upd (L:Pt→Bool) (p:Pt) (b:Bool) (q:Pt):Bool:=if q=p then b else L q
theorem zG (p:Pt) (b:Bool) (L:Pt→Bool):∀ l:List Pt,l.Nodup→p∈l→Qw (kP p) (B b) (Wk l L)=Wk l (upd L p b)
 | [],_,h=>by cases h
 | q::l,hn,h=>by
  obtain ⟨h1,h2⟩:=List.nodup_cons.1 hn
  have ih:=zG p b L l h2
  unfold Wk at *
  rw [List.map_cons,List.map_cons]
  unfold Qw
  rw [XB]
  dsimp only
  rw [jf]
  by_cases e:p=q
  ·subst e
   rw [decide_eq_true rfl]
   dsimp only
   congr 1
   ·unfold ent upd;rw [if_pos rfl]
   ·refine List.map_congr_left fun x hx=>?_
    unfold ent upd;rw [if_neg (fun e=>h1 (by rw [← e];exact hx))]
  ·rw [decide_eq_false e]
   dsimp only
   rw [ih ((List.mem_cons.1 h).resolve_left e)]
   congr 1
   unfold ent upd;rw [if_neg (fun e'=>e e'.symm)]
theorem Qbn (p:Pt) (b:Bool) (L:Pt→Bool) (hL:L p=b):∀ l:List Pt,p ∉ l→Qw (kP p) (B b) (Wk l L)=Wk (l++[p]) L
 | [],_=>by
  show [D.tup [.v (kP p),B b]]=[ent L p]
  unfold ent;rw [hL]
 | q::l,h=>by
  have ih:=Qbn p b L hL l (fun hh=>h (List.mem_cons_of_mem _ hh))
  unfold Wk at *
  rw [List.map_cons,List.cons_append,List.map_cons]
  unfold Qw
  rw [XB]
  dsimp only
  rw [jf,decide_eq_false (fun e=>h (by rw [e];exact List.mem_cons_self))]
  dsimp only
  rw [ih]
theorem ku {all:List Pt} {L L' : Pt→Bool} (h:∀ q,q∈all→L q=L' q):Wk all L=Wk all L':=by
 unfold Wk
 refine List.map_congr_left fun q hq=>?_
 unfold ent;rw [h q hq]
def rem (L:Pt→Bool) (g:List Pt) (q:Pt):Bool:=L q && !(g.contains q)
theorem Jn {L:Pt→Bool} {g:List Pt} {q:Pt}:rem L g q=true↔L q=true∧q ∉ g:=by
 unfold rem;simp
theorem jF {all:List Pt} {L:Pt→Bool} {g:List Pt} {v:Pt} (hn:all.Nodup) (hv:v∈all):Qw (kP v) (B false) (Wk all (rem L g))=Wk all (rem L (g++[v])):=by
 rw [zG v false _ all hn hv]
 refine ku fun q hq=>?_
 unfold upd rem
 by_cases h:q=v
 ·subst h;simp
 ·rw [if_neg h];simp [h]
theorem QcV {all:List Pt} {L:Pt→Bool} {v:Pt} (hn:all.Nodup) (hv:v∈all):Qw (kP v) (B false) (Wk all L)=Wk all (rem L [v]):=by
 rw [zG v false _ all hn hv]
 refine ku fun q hq=>?_
 unfold upd rem
 by_cases h:q=v
 ·subst h;simp
 ·rw [if_neg h];simp [h]
structure Sky (all:List Pt):Prop where
 nd:all.Nodup
 few:all.length≤64
 bnd:∀ p,p∈all→(0≤p.1∧p.1 < 100)∧(0≤p.2∧p.2 < 100)
section
variable {all:List Pt} {L:Pt→Bool} {p:Pt}
theorem GI.len {g:List Pt} (h:GI all L p g) (s:Sky all):g.length≤64:=Nat.le_trans (Vi h.nd fun q hq=>(h.sub q hq).1) s.few
def grown (all:List Pt) (L:Pt→Bool) (g:List Pt) (v:Pt):List Pt:=if v∈all∧rem L g v=true then g++[v] else g
theorem GI.grown {g:List Pt} (h:GI all L p g) {u:Pt} {j:Nat} (hu:u∈g) (hj:j < 4):GI all L p (YtfiigcbhiopagaaGreatDoor.grown all L g (nb u j))∧(∃ r,YtfiigcbhiopagaaGreatDoor.grown all L g (nb u j)=g++r)∧(nb u j∈all→L (nb u j)=true→nb u j∈YtfiigcbhiopagaaGreatDoor.grown all L g (nb u j)):=by
 unfold YtfiigcbhiopagaaGreatDoor.grown
 by_cases hc:nb u j∈all∧rem L g (nb u j)=true
 ·rw [if_pos hc]
  obtain ⟨h1,h2⟩:=Jn.1 hc.2
  exact ⟨h.push hu ⟨j,hj,rfl⟩ hc.1 h1 h2,⟨_,rfl⟩,fun _ _=>List.mem_append_right _ List.mem_cons_self⟩
 ·rw [if_neg hc]
  refine ⟨h,⟨[],(List.append_nil g).symm⟩,fun ha hL=>?_⟩
  rcases Classical.em (nb u j∈g) with hm | hm
  ·exact hm
  ·exact absurd ⟨ha,Jn.2 ⟨hL,hm⟩⟩ hc
def Qgb (n:Nat) (j:Int) (u:Pt) (x y:Int) (es gs:List D):Option ((Int×List D×List D)⊕(List D×List D)) :=
 (QE n u.1 u.2 x y).bind fun tc5 =>
 if mok (.agg #[.int .i64 tc5.1,.int .i64 tc5.2]) es=true then
 if (QD (.agg #[.int .i64 tc5.1,.int .i64 tc5.2]) es).isSome=true then
  ((QD (.agg #[.int .i64 tc5.1,.int .i64 tc5.2]) es).bind Kx).bind fun tc8 =>
  if tc8=true then
   if ZZ 16 (gs.length+1) then
   if Qb (j+1) then
   some (.inl ((j+1),(Qw (.agg #[.int .i64 tc5.1,.int .i64 tc5.2]) (B false) es),(gs++([.agg [I tc5.1,I tc5.2]]:List D))))
   else none
   else none
  else
  if Qb (j+1) then
  some (.inl ((j+1),es,gs))
  else none
 else
 if Qb (j+1) then
 some (.inl ((j+1),es,gs))
 else none
 else none
theorem Qf6 (s:Sky all) {g:List Pt} (h:GI all L p g) {u:Pt} (hu:u∈g):Qb (u.1+(-1))∧Qb (u.1+1)∧Qb (u.1+0)∧Qb (u.2+(-1))∧Qb (u.2+1)∧Qb (u.2+0):=by
 have:=s.bnd u (h.sub u hu).1
 unfold Qb
 refine ⟨by omega,by omega,by omega,by omega,by omega,by omega⟩
theorem qC (n:Nat) (s:Sky all) {g:List Pt} (h:GI all L p g) {u v:Pt} {x y:Int} {j:Int} (hu:u∈g) (h1:Qb (u.1+x)) (h2:Qb (u.2+y)) (hv:v=(u.1+x,u.2+y)) (hj:0≤j∧j < 4) :
  Qgb n j u x y (Wk all (rem L g)) (g.map Ql)=some (.inl (j+1,Wk all (rem L (grown all L g v)),(grown all L g v).map Ql)):=by
 subst hv
 have hlen:=h.len s
 unfold Qgb QE
 rw [if_pos h1,if_pos h2,Option.bind_some]
 dsimp only
 have hk:(Value.agg #[.int .i64 (u.1+x),.int .i64 (u.2+y)])=kP (u.1+x,u.2+y):=rfl
 rw [hk,if_pos (U0 _ _ _),U1]
 unfold grown
 by_cases ha:(u.1+x,u.2+y)∈all
 ·rw [if_pos ha,if_pos (show (some (B (rem L g (u.1+x,u.2+y)))).isSome=true from rfl),Option.bind_some,show Kx (B (rem L g (u.1+x,u.2+y)))=some (rem L g (u.1+x,u.2+y)) from rfl,Option.bind_some]
  by_cases hr:rem L g (u.1+x,u.2+y)=true
  ·rw [if_pos hr,if_pos (by unfold ZZ;rw [List.length_map];omega),if_pos (by unfold Qb;omega),if_pos ⟨ha,hr⟩,jF s.nd ha,List.map_append]
   rfl
  ·rw [if_neg hr,if_pos (by unfold Qb;omega),if_neg (fun q=>hr q.2)]
 ·rw [if_neg ha,if_neg (by decide),if_pos (by unfold Qb;omega),if_neg (fun q=>ha q.1)]
def Done (all:List Pt) (L:Pt→Bool) (g:List Pt) (u:Pt) (k:Nat):Prop:=∀ j,j < k→nb u j∈all→L (nb u j)=true→nb u j∈g
theorem Done.grown {g:List Pt} (h:GI all L p g) {u:Pt} {k:Nat} (hu:u∈g) (hk:k < 4) (hd:Done all L g u k):Done all L (YtfiigcbhiopagaaGreatDoor.grown all L g (nb u k)) u (k+1):=by
 obtain ⟨_,⟨r,hr⟩,h3⟩:=h.grown hu hk
 intro j hj ha hL
 by_cases e:j=k
 ·subst e;exact h3 ha hL
 ·have:=hd j (by omega) ha hL
  rw [hr];exact List.mem_append_left _ this
theorem Qg0 {n:Nat} (hn:300≤n) (s:Sky all) (t3:List D) (sa:Int×List D×List D) (X Y:List D) {g0:List Pt} (h0:GI all L p g0) {i:Nat} {u:Pt} (hu:g0[i]?=some u) :
  ∃ e,Qz (Wj n t3 sa ((i:Int),X,Y)) n (0,Wk all (rem L g0),g0.map Ql)=some e∧∃ g,GI all L p g∧(∃ r,g=g0++r)∧Done all L g u 4∧e=(Wk all (rem L g),g.map Ql):=by
 refine GZ (fun j st=>∃ g,GI all L p g∧(∃ r,g=g0++r)∧Done all L g u j∧j≤4∧st=((j:Int),Wk all (rem L g),g.map Ql)) (fun e=>∃ g,GI all L p g∧(∃ r,g=g0++r)∧Done all L g u 4∧e=(Wk all (rem L g),g.map Ql)) 4 ?_ (by omega) ⟨g0,h0,⟨[],(List.append_nil _).symm⟩,fun j hj=>(by omega),by omega,rfl⟩
 rintro j st ⟨g,hg,⟨r,hr⟩,hd,hj4,rfl⟩
 by_cases hj:j < 4
 ·left
  refine ⟨hj,?_⟩
  have hgu:g[i]?=some u:=by
   rw [hr,List.getElem?_append_left (List.getElem?_eq_some_iff.1 hu).1];exact hu
  have hm:=List.mem_of_getElem? hgu
  have hilt:=(List.getElem?_eq_some_iff.1 hgu).1
  obtain ⟨n1,n2,n3,n4,n5,n6⟩:=Qf6 s hg hm
  have hel:(nth (g.map Ql) (Int.toNat (i:Int))).bind ZP=some u:=by rw [qb hgu];rfl
  have hin:(0:Int)≤(i:Int)∧(i:Int) < ((g.map Ql).length:Int):=by rw [List.length_map];omega
  obtain ⟨q1,⟨r',q2⟩,q3⟩:=hg.grown hm hj
  refine ⟨((j:Int)+1,Wk all (rem L (grown all L g (nb u j))),(grown all L g (nb u j)).map Ql),?_,grown all L g (nb u j),q1,⟨r++r',by rw [q2,hr,List.append_assoc]⟩,Done.grown hg hm hj hd,by omega,rfl⟩
  unfold Wj
  dsimp only
  match j,hj with
  | 0,hj =>
   rw [if_pos (by decide),if_pos (by rfl),if_pos hin,hel,Option.bind_some]
   exact qC n s hg hm n1 n6 rfl ⟨by decide,by decide⟩
  | 1,hj =>
   rw [if_pos (by decide),if_neg (by decide),if_pos (by rfl),if_pos hin,hel,Option.bind_some]
   exact qC n s hg hm n2 n6 rfl ⟨by decide,by decide⟩
  | 2,hj =>
   rw [if_pos (by decide),if_neg (by decide),if_neg (by decide),if_pos (by rfl),if_pos hin,hel,Option.bind_some]
   exact qC n s hg hm n3 n4 rfl ⟨by decide,by decide⟩
  | 3,hj =>
   rw [if_pos (by decide),if_neg (by decide),if_neg (by decide),if_neg (by decide),if_pos (by rfl),if_pos hin,hel,Option.bind_some]
   exact qC n s hg hm n3 n5 rfl ⟨by decide,by decide⟩
 ·right
  obtain rfl:j=4:=by omega
  refine ⟨_,?_,g,hg,⟨r,hr⟩,hd,rfl⟩
  unfold Wj
  dsimp only
  rw [if_neg (show ¬ ((4:Nat):Int) < 4 by decide)]
end
section
variable {all:List Pt} {L:Pt→Bool} {p:Pt}
abbrev S7:=Int⊕(Int×List D×List D)
abbrev E7:=Unit⊕(List D×List D)
def Qgc (n:Nat) (j:Int) (u0 u:Pt) (x y:Int) (es:List D):Option (S7⊕E7) :=
 (QE n u.1 u.2 x y).bind fun tc4 =>
 if mok (.agg #[.int .i64 tc4.1,.int .i64 tc4.2]) es=true then
 if (QD (.agg #[.int .i64 tc4.1,.int .i64 tc4.2]) es).isSome=true then
  ((QD (.agg #[.int .i64 tc4.1,.int .i64 tc4.2]) es).bind Kx).bind fun tc7 =>
  if tc7=true then
   if Qb (j+1) then
   some (.inl (.inr ((j+1),(Qw (.agg #[.int .i64 tc4.1,.int .i64 tc4.2]) (B false) es),[.agg [I u0.1,I u0.2],.agg [I tc4.1,I tc4.2]])))
   else none
  else
  if Qb (j+1) then
  some (.inl (.inl (j+1)))
  else none
 else
 if Qb (j+1) then
 some (.inl (.inl (j+1)))
 else none
 else none
def Qfl (n:Nat) (j:Int) (u:Pt) (x y:Int) (es gs:List D):Option (S7⊕E7) :=
 (QE n u.1 u.2 x y).bind fun tc5 =>
 if mok (.agg #[.int .i64 tc5.1,.int .i64 tc5.2]) es=true then
 if (QD (.agg #[.int .i64 tc5.1,.int .i64 tc5.2]) es).isSome=true then
  ((QD (.agg #[.int .i64 tc5.1,.int .i64 tc5.2]) es).bind Kx).bind fun tc8 =>
  if tc8=true then
   if ZZ 16 (gs.length+1) then
   if Qb (j+1) then
   some (.inl (.inr ((j+1),(Qw (.agg #[.int .i64 tc5.1,.int .i64 tc5.2]) (B false) es),(gs++([.agg [I tc5.1,I tc5.2]]:List D)))))
   else none
   else none
  else
  if Qb (j+1) then
  some (.inl (.inr ((j+1),es,gs)))
  else none
 else
 if Qb (j+1) then
 some (.inl (.inr ((j+1),es,gs)))
 else none
 else none
def Rep (all:List Pt) (L:Pt→Bool) (p:Pt) (j:Int) (g:List Pt) (st:S7):Prop:=(g=[p]∧st=.inl j) ∨ (g≠[p]∧st=.inr (j,Wk all (rem L g),g.map Ql))
theorem QeZ {g:List Pt} (hm:p∈g) (hg:g≠[p]) (v:Pt):grown all L g v≠[p]:=by
 unfold grown
 split
 ·intro e
  cases g with
  | nil=>cases hm
  | cons a l=>simp at e
 ·exact hg
theorem qD (n:Nat) (s:Sky all) (h:GI all L p [p]) {v:Pt} {x y:Int} {j:Int} (h1:Qb (p.1+x)) (h2:Qb (p.2+y)) (hv:v=(p.1+x,p.2+y)) (hj:0≤j∧j < 4) :
  ∃ st,Qgc n j p p x y (Wk all (rem L [p]))=some (.inl st)∧Rep all L p (j+1) (grown all L [p] v) st:=by
 subst hv
 unfold Qgc QE
 rw [if_pos h1,if_pos h2,Option.bind_some]
 dsimp only
 have hk:(Value.agg #[.int .i64 (p.1+x),.int .i64 (p.2+y)])=kP (p.1+x,p.2+y):=rfl
 rw [hk,if_pos (U0 _ _ _),U1]
 unfold grown
 by_cases ha:(p.1+x,p.2+y)∈all
 ·rw [if_pos ha,if_pos (show (some (B (rem L [p] (p.1+x,p.2+y)))).isSome=true from rfl),Option.bind_some,show Kx (B (rem L [p] (p.1+x,p.2+y)))=some (rem L [p] (p.1+x,p.2+y)) from rfl,Option.bind_some]
  by_cases hr:rem L [p] (p.1+x,p.2+y)=true
  ·rw [if_pos hr,if_pos (by unfold Qb;omega),if_pos ⟨ha,hr⟩,jF s.nd ha]
   exact ⟨_,rfl,.inr ⟨by simp,rfl⟩⟩
  ·rw [if_neg hr,if_pos (by unfold Qb;omega),if_neg (fun q=>hr q.2)]
   exact ⟨_,rfl,.inl ⟨rfl,rfl⟩⟩
 ·rw [if_neg ha,if_neg (by decide),if_pos (by unfold Qb;omega),if_neg (fun q=>ha q.1)]
  exact ⟨_,rfl,.inl ⟨rfl,rfl⟩⟩
theorem XI (n:Nat) (s:Sky all) {g:List Pt} (h:GI all L p g) (hne:g≠[p]) {u v:Pt} {x y:Int} {j:Int} (hu:u∈g) (h1:Qb (u.1+x)) (h2:Qb (u.2+y)) (hv:v=(u.1+x,u.2+y)) (hj:0≤j∧j < 4) :
  ∃ st,Qfl n j u x y (Wk all (rem L g)) (g.map Ql)=some (.inl st)∧Rep all L p (j+1) (grown all L g v) st:=by
 refine ⟨.inr (j+1,Wk all (rem L (grown all L g v)),(grown all L g v).map Ql),?_,.inr ⟨QeZ h.mem hne v,rfl⟩⟩
 subst hv
 have hlen:=h.len s
 unfold Qfl QE
 rw [if_pos h1,if_pos h2,Option.bind_some]
 dsimp only
 have hk:(Value.agg #[.int .i64 (u.1+x),.int .i64 (u.2+y)])=kP (u.1+x,u.2+y):=rfl
 rw [hk,if_pos (U0 _ _ _),U1]
 unfold grown
 by_cases ha:(u.1+x,u.2+y)∈all
 ·rw [if_pos ha,if_pos (show (some (B (rem L g (u.1+x,u.2+y)))).isSome=true from rfl),Option.bind_some,show Kx (B (rem L g (u.1+x,u.2+y)))=some (rem L g (u.1+x,u.2+y)) from rfl,Option.bind_some]
  by_cases hr:rem L g (u.1+x,u.2+y)=true
  ·rw [if_pos hr,if_pos (by unfold ZZ;rw [List.length_map];omega),if_pos (by unfold Qb;omega),if_pos ⟨ha,hr⟩,jF s.nd ha,List.map_append]
   rfl
  ·rw [if_neg hr,if_pos (by unfold Qb;omega),if_neg (fun q=>hr q.2)]
 ·rw [if_neg ha,if_neg (by decide),if_pos (by unfold Qb;omega),if_neg (fun q=>ha q.1)]
theorem Qg1 {n:Nat} (hn:300≤n) (s:Sky all) (t3:List D) (sa:Int×List D×List D) (hsa:Qw (.agg #[.int .i64 p.1,.int .i64 p.2]) (B false) (sa.2.1:List D)=Wk all (rem L [p])) (h0:GI all L p [p]) :
  ∃ e:E7,Qz (QZ n t3 sa p 0) n (.inl 0)=some e∧∃ g,GI all L p g∧(∃ r,g=[p]++r)∧Done all L g p 4∧((g=[p]∧e=.inl ()) ∨ (g≠[p]∧e=.inr (Wk all (rem L g),g.map Ql))):=by
 refine GZ (fun (j:Nat) (st:S7)=>∃ g,GI all L p g∧(∃ r,g=[p]++r)∧Done all L g p j∧j≤4∧Rep all L p (j:Int) g st) (fun (e:E7)=>∃ g,GI all L p g∧(∃ r,g=[p]++r)∧Done all L g p 4∧((g=[p]∧e=.inl ()) ∨ (g≠[p]∧e=.inr (Wk all (rem L g),g.map Ql)))) 4 ?_ (by omega) ⟨[p],h0,⟨[],rfl⟩,fun j hj=>(by omega),by omega,.inl ⟨rfl,rfl⟩⟩
 rintro j st ⟨g,hg,⟨r,hr⟩,hd,hj4,hrep⟩
 have hgu:g[0]?=some p:=by rw [hr];rfl
 have hm:=List.mem_of_getElem? hgu
 have hilt:=(List.getElem?_eq_some_iff.1 hgu).1
 by_cases hj:j < 4
 ·left
  refine ⟨hj,?_⟩
  obtain ⟨n1,n2,n3,n4,n5,n6⟩:=Qf6 s hg hm
  obtain ⟨q1,⟨r',q2⟩,q3⟩:=hg.grown hm hj
  have fin:∀ st',Rep all L p ((j:Int)+1) (grown all L g (nb p j)) st'→∃ g',GI all L p g'∧(∃ r,g'=[p]++r)∧Done all L g' p (j+1)∧j+1≤4∧Rep all L p ((j+1:Nat):Int) g' st' :=
   fun st' hst=>⟨_,q1,⟨r++r',by rw [q2,hr,List.append_assoc]⟩,Done.grown hg hm hj hd,by omega,hst⟩
  rcases hrep with ⟨rfl,rfl⟩ | ⟨hne,rfl⟩
  ·have hel:SX.el ZP [.agg [I p.1,I p.2]] 0=some p:=rfl
   have key:∃ st',QZ n t3 sa p 0 (.inl (j:Int))=some (.inl st')∧Rep all L p ((j:Int)+1) (grown all L [p] (nb p j)) st':=by
    unfold QZ
    dsimp only
    rw [hsa]
    match j,hj with
    | 0,hj =>
     rw [if_pos (by decide),if_pos (by rfl),hel,Option.bind_some]
     exact qD n s hg n1 n6 rfl ⟨by decide,by decide⟩
    | 1,hj =>
     rw [if_pos (by decide),if_neg (by decide),if_pos (by rfl),hel,Option.bind_some]
     exact qD n s hg n2 n6 rfl ⟨by decide,by decide⟩
    | 2,hj =>
     rw [if_pos (by decide),if_neg (by decide),if_neg (by decide),if_pos (by rfl),hel,Option.bind_some]
     exact qD n s hg n3 n4 rfl ⟨by decide,by decide⟩
    | 3,hj =>
     rw [if_pos (by decide),if_neg (by decide),if_neg (by decide),if_neg (by decide),if_pos (by rfl),hel,Option.bind_some]
     exact qD n s hg n3 n5 rfl ⟨by decide,by decide⟩
   obtain ⟨st',h1,h2⟩:=key
   exact ⟨st',h1,fin st' h2⟩
  ·have hel:(nth (g.map Ql) (Int.toNat 0)).bind ZP=some p:=by
    have:=qb (f:=Ql) hgu
    rw [show Int.toNat 0=Int.toNat ((0:Nat):Int) from rfl,this];rfl
   have hin:(0:Int)≤0∧(0:Int) < ((g.map Ql).length:Int):=by rw [List.length_map];omega
   have key:∃ st',QZ n t3 sa p 0 (.inr ((j:Int),Wk all (rem L g),g.map Ql))=some (.inl st')∧Rep all L p ((j:Int)+1) (grown all L g (nb p j)) st':=by
    unfold QZ
    dsimp only
    match j,hj with
    | 0,hj =>
     rw [if_pos (by decide),if_pos (by rfl),if_pos hin,hel,Option.bind_some]
     exact XI n s hg hne hm n1 n6 rfl ⟨by decide,by decide⟩
    | 1,hj =>
     rw [if_pos (by decide),if_neg (by decide),if_pos (by rfl),if_pos hin,hel,Option.bind_some]
     exact XI n s hg hne hm n2 n6 rfl ⟨by decide,by decide⟩
    | 2,hj =>
     rw [if_pos (by decide),if_neg (by decide),if_neg (by decide),if_pos (by rfl),if_pos hin,hel,Option.bind_some]
     exact XI n s hg hne hm n3 n4 rfl ⟨by decide,by decide⟩
    | 3,hj =>
     rw [if_pos (by decide),if_neg (by decide),if_neg (by decide),if_neg (by decide),if_pos (by rfl),if_pos hin,hel,Option.bind_some]
     exact XI n s hg hne hm n3 n5 rfl ⟨by decide,by decide⟩
   obtain ⟨st',h1,h2⟩:=key
   exact ⟨st',h1,fin st' h2⟩
 ·right
  obtain rfl:j=4:=by omega
  rcases hrep with ⟨rfl,rfl⟩ | ⟨hne,rfl⟩
  ·refine ⟨.inl (),?_,[p],hg,⟨[],rfl⟩,hd,.inl ⟨rfl,rfl⟩⟩
   unfold QZ
   dsimp only
   rw [if_neg (show ¬ ((4:Nat):Int) < 4 by decide)]
  ·refine ⟨.inr (Wk all (rem L g),g.map Ql),?_,g,hg,⟨r,hr⟩,hd,.inr ⟨hne,rfl⟩⟩
   unfold QZ
   dsimp only
   rw [if_neg (show ¬ ((4:Nat):Int) < 4 by decide)]
theorem Done.mono {g g' : List Pt} {u:Pt} {k:Nat} (h:Done all L g u k) (hr:∃ r,g'=g++r):Done all L g' u k:=by
 obtain ⟨r,rfl⟩:=hr
 exact fun j hj ha hL=>List.mem_append_left _ (h j hj ha hL)
theorem QgZ {n:Nat} (hn:300≤n) (s:Sky all) (t3:List D) (sa:Int×List D×List D) (hsa:Qw (.agg #[.int .i64 p.1,.int .i64 p.2]) (B false) (sa.2.1:List D)=Wk all (rem L [p])) (h0:GI all L p [p]) :
  ∃ e:E7,Qz (Za n t3 sa p) n (.inl 0)=some e∧∃ g,GI all L p g∧(∀ u,u∈g→Done all L g u 4)∧((g=[p]∧e=.inl ()) ∨ e=.inr (Wk all (rem L g),g.map Ql)):=by
 refine GZ (fun (i:Nat) (st:S7)=>∃ g,GI all L p g∧(∃ r,g=[p]++r)∧i≤g.length∧(∀ t,t < i→∀ u,g[t]?=some u→Done all L g u 4)∧((g=[p]∧st=.inl (i:Int)) ∨ (g≠[p]∧st=.inr ((i:Int),Wk all (rem L g),g.map Ql))))
  (fun (e:E7)=>∃ g,GI all L p g∧(∀ u,u∈g→Done all L g u 4)∧((g=[p]∧e=.inl ()) ∨ e=.inr (Wk all (rem L g),g.map Ql))) 70 ?_ (by omega) ⟨[p],h0,⟨[],rfl⟩,by simp,fun t ht=>(by omega),.inl ⟨rfl,rfl⟩⟩
 rintro i st ⟨g,hg,hpre,hi,hd,hrep⟩
 have hlen:=hg.len s
 have alld:i=g.length→∀ u,u∈g→Done all L g u 4:=fun he u hu=>by
  obtain ⟨t,ht,htu⟩:=List.mem_iff_getElem.1 hu
  exact hd t (by omega) u (by rw [List.getElem?_eq_getElem ht,htu])
 have step:∀ {g' : List Pt} {u:Pt},(∃ r,g'=g++r)→g[i]?=some u→Done all L g' u 4→∀ t,t < i+1→∀ v,g'[t]?=some v→Done all L g' v 4:=by
  intro g' u hr hu hdu t ht v hv
  have hgt:t < g.length:=by have:=(List.getElem?_eq_some_iff.1 hu).1;omega
  have hgv:g[t]?=some v:=by
   obtain ⟨r,rfl⟩:=hr
   rw [List.getElem?_append_left hgt] at hv;exact hv
  by_cases he:t=i
  ·subst he
   rw [hu] at hgv;cases hgv;exact hdu
  ·exact (hd t (by omega) v hgv).mono hr
 rcases hrep with ⟨rfl,rfl⟩ | ⟨hne,rfl⟩
 ·by_cases hi0:i=0
  ·subst hi0
   left
   refine ⟨by omega,?_⟩
   obtain ⟨e,he,g',hg',hr',hd',hcase⟩:=Qg1 hn s t3 sa hsa hg
   have hst:=step hr' rfl hd'
   rcases hcase with ⟨rfl,rfl⟩ | ⟨hne,rfl⟩
   ·refine ⟨.inl 1,?_,[p],hg',⟨[],rfl⟩,by simp,hst,.inl ⟨rfl,rfl⟩⟩
    unfold Za
    dsimp only
    rw [if_pos (show ((0:Nat):Int) < 1 by decide),show ((0:Nat):Int)=0 from rfl,he,Option.bind_some]
    rfl
   ·refine ⟨.inr (1,Wk all (rem L g'),g'.map Ql),?_,g',hg',hr',?_,hst,.inr ⟨hne,rfl⟩⟩
    ·unfold Za
     dsimp only
     rw [if_pos (show ((0:Nat):Int) < 1 by decide),show ((0:Nat):Int)=0 from rfl,he,Option.bind_some]
     rfl
    ·have:=List.length_pos_of_mem hg'.mem;omega
  ·right
   have hi1:i=1:=by
    have:[p].length=1:=rfl
    omega
   subst hi1
   refine ⟨.inl (),?_,[p],hg,alld rfl,.inl ⟨rfl,rfl⟩⟩
   unfold Za
   dsimp only
   rw [if_neg (show ¬ ((1:Nat):Int) < 1 by decide)]
 ·by_cases hlt:i < g.length
  ·left
   refine ⟨by omega,?_⟩
   have hu:g[i]?=some g[i]:=List.getElem?_eq_getElem hlt
   obtain ⟨e,he,g',hg',hr',hd',rfl⟩:=Qg0 hn s t3 sa (Wk all (rem L g)) (g.map Ql) hg hu
   have hst:=step hr' hu hd'
   have hpre' : ∃ r,g'=[p]++r:=by
    obtain ⟨r,rfl⟩:=hr'
    obtain ⟨r0,rfl⟩:=hpre
    exact ⟨r0++r,by rw [List.append_assoc]⟩
   have hne' : g'≠[p]:=by
    intro e
    obtain ⟨r,rfl⟩:=hr'
    obtain ⟨r0,rfl⟩:=hpre
    have:=congrArg List.length e
    simp only [List.length_append,List.length_cons,List.length_nil] at this
    have hr0:r0=[]:=List.length_eq_zero_iff.1 (by omega)
    subst hr0
    exact hne rfl
   have hlen' : i+1≤g'.length:=by
    obtain ⟨r,rfl⟩:=hr'
    rw [List.length_append];omega
   refine ⟨.inr ((i:Int)+1,Wk all (rem L g'),g'.map Ql),?_,g',hg',hpre',hlen',hst,.inr ⟨hne',rfl⟩⟩
   unfold Za
   dsimp only
   rw [if_pos (by rw [List.length_map];omega),he,Option.bind_some,if_pos (by unfold Qb;omega)]
  ·right
   have hie:i=g.length:=by omega
   refine ⟨.inr (Wk all (rem L g),g.map Ql),?_,g,hg,alld hie,.inr rfl⟩
   unfold Za
   dsimp only
   rw [if_neg (by rw [List.length_map];omega)]
end
structure OI (all:List Pt) (L:Pt→Bool) (cs:List (List Pt)):Prop where
 left:∀ q,q∈all→(L q=true↔q ∉ cs.flatten)
 cl:Closed all fun q=>L q=true
 com:∀ c,c∈cs→IsCom all c
 nd:cs.flatten.Nodup
theorem Qby {all:List Pt}:∀ {cs:List (List Pt)},(∀ c,c∈cs→IsCom all c)→cs.length≤cs.flatten.length
 | [],_=>Nat.le_refl _
 | c::cs,h=>by
  have ih:=Qby (cs:=cs) fun d hd=>h d (List.mem_cons_of_mem _ hd)
  have:0 < c.length:=List.length_pos_iff.2 (h c List.mem_cons_self).ne
  rw [List.flatten_cons,List.length_append,List.length_cons];omega
theorem OI.few {all:List Pt} {L:Pt→Bool} {cs:List (List Pt)} (h:OI all L cs) (s:Sky all):cs.length≤64:=by
 have h1:=Qby h.com
 have h2:=Vi h.nd (m:=all) fun x hx=>by
  obtain ⟨c,hc,hx⟩:=qg.1 hx
  exact (h.com c hc).sub x hx
 have:=s.few
 omega
theorem OI.add {all:List Pt} {L:Pt→Bool} {cs:List (List Pt)} (h:OI all L cs) {p:Pt} {g c:List Pt} (hg:GI all L p g) (hd:∀ u,u∈g→Done all L g u 4) (hc:c.Perm g):OI all (rem L g) (cs++[c]):=by
 have hcom:=hg.com h.cl hd
 have hflat:∀ q,q∈(cs++[c]).flatten↔q∈cs.flatten ∨ q∈g:=fun q=>by
  rw [List.flatten_append,List.mem_append]
  show q∈cs.flatten ∨ q∈c++[]↔_
  rw [List.append_nil,hc.mem_iff]
 refine ⟨fun q hq=>?_,fun u v hu hv ha hm=>?_,fun d hd'=>?_,?_⟩
 ·rw [Jn,h.left q hq,hflat]
  exact ⟨fun ⟨a,b⟩ e=>e.elim a b,fun e=>⟨fun a=>e (.inl a),fun b=>e (.inr b)⟩⟩
 ·have hm:=Jn.1 hm
  refine Jn.2 ⟨h.cl u v hu hv ha hm.1,fun hvg=>hm.2 ?_⟩
  exact hcom.cl v u hv hu (QbV ha) hvg
 ·rcases List.mem_append.1 hd' with hd' | hd'
  ·exact h.com d hd'
  ·rcases List.mem_cons.1 hd' with rfl | hd'
   ·exact hcom.perm hc
   ·cases hd'
 ·rw [List.flatten_append,List.nodup_append]
  refine ⟨h.nd,?_,fun a ha b hb hab=>?_⟩
  ·show (c++[]).Nodup
   rw [List.append_nil]
   exact hc.symm.nodup hg.nd
  ·have hb:b∈c:=by
    have:b∈c++[]:=hb
    rwa [List.append_nil] at this
   have hbg:=hg.sub b (hc.mem_iff.1 hb)
   rw [hab] at ha
   exact (h.left b hbg.1).1 hbg.2 ha
def cD (c:List Pt):D:=Qfd (c.map Ql)
theorem Qeq (n:Nat) {g:List Pt} (hg:g.length≤1000):∃ c:List Pt,c.Perm g∧Zt n (g.map Ql)=some (c.map Ql):=by
 refine ⟨srtQ g,yN g,?_⟩
 unfold Zt
 rw [List.length_map,if_pos hg,show g.map Ql=g.map ptD from rfl,Qdy];rfl
theorem QeG {l:List D} (h:l≠[]):WQ l=false:=by
 cases l with
 | nil=>exact absurd rfl h
 | cons a l=>rfl
theorem QgH {n:Nat} (hn:300≤n) {all:List Pt} (s:Sky all) :
  ∃ e,Qz (ZH n (all.map Ql)) n (0,Wk all (fun _=>true),[])=some e∧∃ cs,Coms all cs∧cs.length≤64∧e=cs.map cD:=by
 have hfew:=s.few
 refine GZ (fun k st=>∃ L cs,OI all L cs∧k≤all.length∧(∀ t,t < k→∀ q,all[t]?=some q→L q=false)∧st=((k:Int),Wk all L,cs.map cD)) (fun e=>∃ cs,Coms all cs∧cs.length≤64∧e=cs.map cD) all.length ?_ (by omega)
  ⟨fun _=>true,[],⟨fun q _=>⟨fun _ h=>(by cases h),fun _=>rfl⟩,fun _ _ _ _ _ _=>rfl,fun c hc=>(by cases hc),List.nodup_nil⟩,Nat.zero_le _,fun t ht=>(by omega),rfl⟩
 rintro k st ⟨L,cs,ho,hk,hd,rfl⟩
 have hcl:=ho.few s
 by_cases hlt:k < all.length
 ·left
  refine ⟨hlt,?_⟩
  have hp:all[k]?=some all[k]:=List.getElem?_eq_getElem hlt
  obtain ⟨p,hpe⟩:∃ p,all[k]=p:=⟨_,rfl⟩
  rw [hpe] at hp
  have hm:=List.mem_of_getElem? hp
  have hkey:(Value.agg #[.int .i64 p.1,.int .i64 p.2])=kP p:=rfl
  have hfind:=U1 p L all
  rw [if_pos hm] at hfind
  have step:∀ {L' : Pt→Bool},(∀ q,L q=false→L' q=false)→L' p=false→∀ t,t < k+1→∀ q,all[t]?=some q→L' q=false:=by
   intro L' h1 h2 t ht q hq
   by_cases he:t=k
   ·subst he;rw [hp] at hq;cases hq;exact h2
   ·exact h1 q (hd t (by omega) q hq)
  by_cases hL:L p=true
  ·have h0:GI all L p [p]:=GI.init hm hL
   have hsa:Qw (.agg #[.int .i64 p.1,.int .i64 p.2]) (B false) (((k:Int),Wk all L,cs.map cD):Int×List D×List D).2.1=Wk all (rem L [p]):=QcV s.nd hm
   obtain ⟨e,he,g,hg,hgd,hcase⟩:=QgZ hn s (all.map Ql) ((k:Int),Wk all L,cs.map cD) hsa h0
   have hgl:=hg.len s
   obtain ⟨c,hc,hsort⟩:=Qeq n (g:=g) (by omega)
   have hadd:=ho.add hg hgd hc
   have hfalse:∀ q,L q=false→rem L g q=false:=fun q hq=>by unfold rem;rw [hq];rfl
   have hpf:rem L g p=false:=by
    cases hr:rem L g p with
    | false=>rfl
    | true=>exact absurd hg.mem (Jn.1 hr).2
   have hnil:WQ (g.map Ql)=false:=QeG (fun e=>by
    have:=hg.mem
    rw [List.map_eq_nil_iff.1 e] at this;cases this)
   refine ⟨((k:Int)+1,Wk all (rem L g),(cs++[c]).map cD),?_,rem L g,cs++[c],hadd,by omega,step hfalse hpf,rfl⟩
   unfold ZH
   dsimp only
   rw [if_pos (YB hp),Vo yK hp,Option.bind_some,hkey,if_pos (U0 _ _ _),hfind,if_pos (show (some (B (L p))).isSome=true from rfl),Option.bind_some,show Kx (B (L p))=some (L p) from rfl,Option.bind_some,if_pos hL,he,Option.bind_some]
   rcases hcase with ⟨rfl,rfl⟩ | rfl
   ·dsimp only
    have hsort' : Zt n [.agg [I p.1,I p.2]]=some (c.map Ql):=hsort
    rw [if_pos (show WQ [D.agg [I p.1,I p.2]]=false from rfl),hsort',Option.bind_some,if_pos (by unfold ZZ;rw [List.length_map];omega),if_pos (by unfold Qb;omega),QcV s.nd hm,List.map_append]
    rfl
   ·dsimp only
    have hcopy:(g.map Ql).take (List.replicate (Int.toNat ((g.map Ql).length:Int)) (.agg [I 0,I 0]:D)).length++(List.replicate (Int.toNat ((g.map Ql).length:Int)) (.agg [I 0,I 0]:D)).drop (g.map Ql).length=g.map Ql:=by
     rw [List.length_replicate,Int.toNat_natCast,List.take_length,List.drop_eq_nil_of_le (by rw [List.length_replicate];exact Nat.le_refl _),List.append_nil]
    rw [hcopy,if_pos ⟨by omega,by omega,by rw [List.length_map];omega,by rw [List.length_map];omega⟩,if_pos hnil,hsort,Option.bind_some,if_pos (by unfold ZZ;rw [List.length_map];omega),if_pos (by unfold Qb;omega),List.map_append]
    rfl
  ·have hLf:L p=false:=by
    cases h:L p with
    | false=>rfl
    | true=>exact absurd h hL
   refine ⟨((k:Int)+1,Wk all L,cs.map cD),?_,L,cs,ho,by omega,step (fun q hq=>hq) hLf,rfl⟩
   unfold ZH
   dsimp only
   rw [if_pos (YB hp),Vo yK hp,Option.bind_some,hkey,if_pos (U0 _ _ _),hfind,if_pos (show (some (B (L p))).isSome=true from rfl),Option.bind_some,show Kx (B (L p))=some (L p) from rfl,Option.bind_some,if_neg hL,if_pos (by unfold Qb;omega)]
 ·right
  have hke:k=all.length:=by omega
  refine ⟨cs.map cD,?_,cs,⟨ho.com,ho.nd,fun q hq=>?_⟩,hcl,rfl⟩
  ·unfold ZH
   dsimp only
   rw [if_neg (by rw [List.length_map];omega)]
  ·obtain ⟨t,ht,htq⟩:=List.mem_iff_getElem.1 hq
   have hLf:=hd t (by omega) q (by rw [List.getElem?_eq_getElem ht,htq])
   rcases Classical.em (q∈cs.flatten) with h | h
   ·exact h
   ·rw [(ho.left q hq).2 h] at hLf;cases hLf
theorem Qg2 {n:Nat} (hn:300≤n) {all:List Pt} (s:Sky all):Qz (ZV n (all.map Ql)) n (0,[])=some (Wk all (fun _=>true)):=by
 have hfew:=s.few
 have hl:=WY (L:=ZV n (all.map Ql)) (fun i=>((i:Int),Wk (all.take i) (fun _=>true))) all.length (e:=Wk all (fun _=>true))
  (fun i hi=>by
   have hp:all[i]?=some all[i]:=List.getElem?_eq_getElem hi
   obtain ⟨p,hpe⟩:∃ p,all[i]=p:=⟨_,rfl⟩
   rw [hpe] at hp
   have hkey:(Value.agg #[.int .i64 p.1,.int .i64 p.2])=kP p:=rfl
   have hnew:p ∉ all.take i:=by
    intro hm
    obtain ⟨t,ht,htp⟩:=List.mem_iff_getElem.1 hm
    rw [List.length_take] at ht
    rw [List.getElem_take] at htp
    have hnd:=s.nd
    unfold List.Nodup at hnd
    rw [List.pairwise_iff_getElem] at hnd
    exact hnd t i (by omega) hi (by omega) (by rw [htp,hpe])
   have htk:all.take (i+1)=all.take i++[p]:=by rw [List.take_add_one,hp];rfl
   unfold ZV
   dsimp only
   rw [if_pos (YB hp),Vo yK hp,Option.bind_some,hkey,if_pos (U0 _ _ _),if_pos (by unfold Qb;omega),Qbn p true _ rfl _ hnew,htk]
   rfl)
  (by
   unfold ZV
   dsimp only
   rw [if_neg (by rw [List.length_map];omega),List.take_length]) (n:=n) (by omega)
 exact hl
section
variable {W H:Nat} {bs:List Nat}
theorem Im.sky (h:Im W H bs) (T:Int):Sky (pts W H bs T) where
 nd:=Qb9 W H bs T
 few:=Nat.le_trans (QcX W H bs T) h.few
 bnd:=fun p hp=>by
  obtain ⟨X,Y,hX,hY,rfl,_⟩:=Us.1 hp
  have:=h.w
  have:=h.h
  dsimp only;omega
theorem zU {n:Nat} (hn:300≤n) (h:Im W H bs) {lim:Nat} (hc:chk lim=0) (hp:1≤lev lim):∃ cs,Coms (pts W H bs (lev lim)) cs∧cs.length≤64∧WG n (W:Int) (H:Int) (bs.map Qm) lim=some (cs.map cD,0):=by
 obtain ⟨e,he,cs,h1,h2,rfl⟩:=QgH hn (h.sky (lev lim))
 refine ⟨cs,h1,h2,?_⟩
 unfold WG
 rw [QbP hn h hc hp,Option.bind_some,if_pos rfl,Qdd hn h hc,Option.bind_some,Qg2 hn (h.sky _),Option.bind_some,he,Option.bind_some]
end
def inn (W H:Nat) (sx sy:Int) (k:Nat):Prop:=(0≤((k % W:Nat):Int)+sx∧((k % W:Nat):Int)+sx < W)∧(0≤((k / W:Nat):Int)+sy∧((k / W:Nat):Int)+sy < H)
instance (W H:Nat) (sx sy:Int) (k:Nat):Decidable (inn W H sx sy k):=by unfold inn;exact inferInstance
def idx (W:Nat) (sx sy:Int) (k:Nat):Nat:=(((k / W:Nat):Int)+sy).toNat * W+(((k % W:Nat):Int)+sx).toNat
def trm (ds bs:List Nat) (W H:Nat) (sx sy:Int) (k:Nat):Int:=if inn W H sx sy k then (lv ds k - lv bs (idx W sx sy k)) * (lv ds k - lv bs (idx W sx sy k)) else 0
def com (W H:Nat) (sx sy:Int) (k:Nat):Int:=if inn W H sx sy k then 1 else 0
theorem Qep {a b:Int} (ha:0≤a∧a≤16384) (hb:0≤b∧b≤16384):0≤(a - b) * (a - b)∧(a - b) * (a - b)≤268435456:=by
 have h1:(a - b) * (a - b)=(a - b).natAbs * (a - b).natAbs:=by
  rw [← Int.natCast_mul,← Int.natAbs_mul,Int.natAbs_of_nonneg (by
   rcases Int.le_total 0 (a - b) with h | h
   ·exact Int.mul_nonneg h h
   ·exact Int.mul_nonneg_of_nonpos_of_nonpos h h)]
 have h2:(a - b).natAbs≤16384:=by omega
 have h3:(a - b).natAbs * (a - b).natAbs≤16384 * 16384:=Nat.mul_le_mul h2 h2
 rw [h1];omega
section
variable {W H:Nat} {ds bs:List Nat}
theorem Qei (ha:Im W H ds) (hb:Im W H bs) (sx sy:Int) (k:Nat):0≤trm ds bs W H sx sy k∧trm ds bs W H sx sy k≤268435456:=by
 unfold trm
 split
 ·exact Qep (ha.lv_in _) (hb.lv_in _)
 ·omega
theorem Qfk (W H:Nat) (sx sy:Int) (k:Nat):0≤com W H sx sy k∧com W H sx sy k≤1:=by
 unfold com;split <;> omega
theorem QeV {sx sy:Int} {k:Nat} (h:inn W H sx sy k):idx W sx sy k < W * H:=by
 unfold inn at h
 exact V5 (by omega) (by omega)
theorem S_in (ha:Im W H ds) (hb:Im W H bs) (sx sy:Int) (i:Nat):0≤Wo (trm ds bs W H sx sy) i∧Wo (trm ds bs W H sx sy) i≤268435456 * (i:Int):=uC (by omega) i fun k _=>Qei ha hb sx sy k
theorem C_in (W H:Nat) (sx sy:Int) (i:Nat):0≤Wo (com W H sx sy) i∧Wo (com W H sx sy) i≤1 * (i:Int):=uC (by omega) i fun k _=>Qfk W H sx sy k
theorem Qeg {n:Nat} (hn:300≤n) (ha:Im W H ds) (hb:Im W H bs) {sx sy:Int} (hx : -1000≤sx∧sx≤1000) (hy : -1000≤sy∧sy≤1000) :
  Yk n (W:Int) (H:Int) (ds.map Qm) (W:Int) (H:Int) (bs.map Qm) sx sy=some (sx,sy,Wo (trm ds bs W H sx sy) (W * H),Wo (com W H sx sy) (W * H)):=by
 have hN:=ha.few
 have hw:=ha.w
 have hh:=ha.h
 unfold Yk
 have h:=WY (L:=WD n (W:Int) (H:Int) (ds.map Qm) (W:Int) (H:Int) (bs.map Qm) sx sy) (fun i=>((i:Int),Wo (trm ds bs W H sx sy) i,Wo (com W H sx sy) i)) (W * H) (e:=(Wo (trm ds bs W H sx sy) (W * H),Wo (com W H sx sy) (W * H)))
  (fun i hi=>by
   have hX:=js hi
   have hY:=y_lt hi
   have e1:Int.tmod (i:Int) (W:Int)=((i % W:Nat):Int):=by rw [Int.tmod_eq_emod_of_nonneg (by omega)];rfl
   have e2:Int.tdiv (i:Int) (W:Int)=((i / W:Nat):Int):=by rw [Int.tdiv_eq_ediv_of_nonneg (by omega)];rfl
   have hs:=S_in ha hb sx sy i
   have hc:=C_in W H sx sy i
   have ht:=Qei ha hb sx sy i
   have hsucc:=zu (trm ds bs W H sx sy) i
   have hcsucc:=zu (com W H sx sy) i
   obtain ⟨a,ea,la⟩:=ha.el hi
   have hnext:((i+1:Nat):Int)=(i:Int)+1:=rfl
   have hinn:inn W H sx sy i↔((0≤((i % W:Nat):Int)+sx∧((i % W:Nat):Int)+sx < W)∧(0≤((i / W:Nat):Int)+sy∧((i / W:Nat):Int)+sy < H)):=Iff.rfl
   have hidx:idx W sx sy i=(((i / W:Nat):Int)+sy).toNat * W+(((i % W:Nat):Int)+sx).toNat:=rfl
   have hskip:¬ inn W H sx sy i→Wo (trm ds bs W H sx sy) (i+1)=Wo (trm ds bs W H sx sy) i∧Wo (com W H sx sy) (i+1)=Wo (com W H sx sy) i:=by
    intro hno
    rw [hsucc,hcsucc]
    unfold trm com
    rw [if_neg hno,if_neg hno]
    omega
   have htr:inn W H sx sy i→trm ds bs W H sx sy i=(lv ds i - lv bs (idx W sx sy i)) * (lv ds i - lv bs (idx W sx sy i)):=fun hin=>by unfold trm;rw [if_pos hin]
   have hco:inn W H sx sy i→com W H sx sy i=1:=fun hin=>by unfold com;rw [if_pos hin]
   have hlt:inn W H sx sy i→idx W sx sy i < W * H:=QeV
   unfold WD QE
   dsimp only
   rw [List.length_map,ha.len,if_pos (by omega),ea,Option.bind_some,if_pos (by omega),e1,e2]
   generalize i % W=X at *
   generalize i / W=Y at *
   rw [if_pos (by unfold Qb;omega),la,Option.bind_some,if_pos (by unfold Qb;omega),if_pos (by unfold Qb;omega),Option.bind_some]
   dsimp only
   by_cases a1:(X:Int)+sx < 0
   ·obtain ⟨q1,q2⟩:=hskip (fun h=>by have:=hinn.1 h;omega)
    rw [if_pos a1,if_pos (by unfold Qb;omega),q1,q2,hnext]
   ·rw [if_neg a1]
    by_cases a2:(X:Int)+sx ≥ W
    ·obtain ⟨q1,q2⟩:=hskip (fun h=>by have:=hinn.1 h;omega)
     rw [if_pos a2,if_pos (by unfold Qb;omega),q1,q2,hnext]
    ·rw [if_neg a2]
     by_cases a3:(Y:Int)+sy < 0
     ·obtain ⟨q1,q2⟩:=hskip (fun h=>by have:=hinn.1 h;omega)
      rw [if_pos a3,if_pos (by unfold Qb;omega),q1,q2,hnext]
     ·rw [if_neg a3]
      by_cases a4:(Y:Int)+sy ≥ H
      ·obtain ⟨q1,q2⟩:=hskip (fun h=>by have:=hinn.1 h;omega)
       rw [if_pos a4,if_pos (by unfold Qb;omega),q1,q2,hnext]
      ·have hin:inn W H sx sy i:=hinn.2 (by omega)
       obtain ⟨x',hx'⟩:∃ x' : Nat,(X:Int)+sx=(x' : Int):=⟨((X:Int)+sx).toNat,by omega⟩
       obtain ⟨y',hy'⟩:∃ y' : Nat,(Y:Int)+sy=(y' : Int):=⟨((Y:Int)+sy).toNat,by omega⟩
       have hix:idx W sx sy i=y' * W+x':=by rw [hidx,hx',hy',Int.toNat_natCast,Int.toNat_natCast]
       have hl:=hlt hin
       have hm:y' * W≤8 * 8:=Nat.mul_le_mul (by omega) (by omega)
       have em:(y' : Int) * (W:Int)=((y' * W:Nat):Int):=(Int.natCast_mul y' W).symm
       have ep:((y' * W:Nat):Int)+(x' : Int)=((idx W sx sy i:Nat):Int):=by rw [hix];rfl
       obtain ⟨b,eb,lb⟩:=hb.el hl
       have g1:=ha.lv_in i
       have g2:=hb.lv_in (idx W sx sy i)
       rw [if_neg a4,hx',hy',em,if_pos (by unfold Qb;omega),if_pos (by unfold Qb;omega),ep,eb,Option.bind_some,lb,Option.bind_some,if_pos (by unfold Qb;omega),← htr hin,if_pos (by unfold Qb;omega),if_pos (by unfold Qb;omega),if_pos (by unfold Qb;omega),
        if_pos (by unfold Qb;omega),hsucc,hcsucc,hco hin,hnext])
  (by
   unfold WD
   dsimp only
   rw [List.length_map,ha.len,if_neg (by omega)]) (n:=n) (by omega)
 have h' : Qz (WD n (W:Int) (H:Int) (ds.map Qm) (W:Int) (H:Int) (bs.map Qm) sx sy) n (0,0,0)=_:=h
 rw [h',Option.bind_some]
theorem Qak {sx sy:Int} {k:Nat} (hk:k < W * H):inn W H (-sx) sy k↔inn W H sx sy (flx W k):=by
 have hx:=js hk
 have hlt:=E4 hx
 unfold inn flx
 rw [YU (W:=W) (x:=W - 1 - k % W) (y:=k / W) hlt,YV (W:=W) (x:=W - 1 - k % W) (y:=k / W) hlt]
 generalize k % W=X at *
 generalize k / W=Y at *
 omega
theorem Qgy {sx sy:Int} {k:Nat} (hk:k < W * H) (hin:inn W H (-sx) sy k):flx W (idx W (-sx) sy k)=idx W sx sy (flx W k):=by
 have hx:=js hk
 have hlt:=E4 hx
 unfold inn at hin
 have e1:flx W k % W=W - 1 - k % W:=by unfold flx;exact YU (W:=W) (x:=W - 1 - k % W) (y:=k / W) hlt
 have e2:flx W k / W=k / W:=by unfold flx;exact YV (W:=W) (x:=W - 1 - k % W) (y:=k / W) hlt
 unfold idx
 rw [e1,e2]
 have hlt2:(((k % W:Nat):Int)+-sx).toNat < W:=by omega
 unfold flx
 rw [YU hlt2,YV hlt2]
 congr 1
 generalize k % W=X at *
 generalize k / W=Y at *
 omega
theorem Qgk (ha:Im W H ds) (hb:Im W H bs) (sx sy:Int) {k:Nat} (hk:k < W * H):trm ((fl W H ds).map smp) ((fl W H bs).map smp) W H (-sx) sy k=trm ds bs W H sx sy (flx W k):=by
 unfold trm
 by_cases h:inn W H (-sx) sy k
 ·rw [if_pos h,if_pos ((Qak hk).1 h),ha.fl_lv hk,hb.fl_lv (QeV h),Qgy hk h]
 ·rw [if_neg h,if_neg (fun q=>h ((Qak hk).2 q))]
theorem S_fl (ha:Im W H ds) (hb:Im W H bs) (sx sy:Int):Wo (trm ((fl W H ds).map smp) ((fl W H bs).map smp) W H (-sx) sy) (W * H)=Wo (trm ds bs W H sx sy) (W * H):=by
 rw [← zw (f:=trm ds bs W H sx sy) (s:=flx W) (N:=W * H) (fun k hk=>Qao hk) (fun k hk=>Qap hk)]
 unfold Wo
 congr 1
 exact List.map_congr_left fun k hk=>Qgk ha hb sx sy (List.mem_range.1 hk)
theorem C_fl (W H:Nat) (sx sy:Int):Wo (com W H (-sx) sy) (W * H)=Wo (com W H sx sy) (W * H):=by
 rw [← zw (f:=com W H sx sy) (s:=flx W) (N:=W * H) (fun k hk=>Qao hk) (fun k hk=>Qap hk)]
 unfold Wo
 congr 1
 refine List.map_congr_left fun k hk=>?_
 have hk:=List.mem_range.1 hk
 unfold com
 by_cases h:inn W H (-sx) sy k
 ·rw [if_pos h,if_pos ((Qak hk).1 h)]
 ·rw [if_neg h,if_neg (fun q=>h ((Qak hk).2 q))]
theorem Qez {n:Nat} (hn:300≤n) {x y:Int} (hx : -100000≤x∧x≤100000) (hy : -100000≤y∧y≤100000):WE n x y=some 0:=by
 unfold WE
 rw [J5 n hx,Option.bind_some,J5 n hy,Option.bind_some,show ([I 0,I 0]:List D)=List.replicate 2 (I 0) from rfl,Va hn 2 (by omega),Option.bind_some]
def ua (c:Int):Int:=if c=0 then 7 else 0
theorem QgJ (n:Nat) (c:Int):Ws n (c == 0) 7=some (ua c):=by
 unfold ua
 by_cases h:c=0
 ·subst h;rfl
 ·rw [if_neg h,show (c == 0)=false from beq_eq_false_iff_ne.2 h];rfl
theorem Qdc {n:Nat} (hn:300≤n) (ha:Im W H ds) (hb:Im W H bs) {sx sy:Int} (hx : -1000≤sx∧sx≤1000) (hy : -1000≤sy∧sy≤1000) :
  Z2 n (W:Int) (H:Int) (ds.map Qm) (W:Int) (H:Int) (bs.map Qm) sx sy=some (Wo (trm ds bs W H sx sy) (W * H),Wo (com W H sx sy) (W * H),ua (Wo (com W H sx sy) (W * H))):=by
 unfold Z2
 rw [QbN hn ha.ok hb.ok,Option.bind_some,Qez hn ⟨by omega,by omega⟩ ⟨by omega,by omega⟩,Option.bind_some,show ([I 0,I 0]:List D)=List.replicate 2 (I 0) from rfl,Va hn 2 (by omega),Option.bind_some,if_pos rfl,Qeg hn ha hb hx hy,Option.bind_some]
 dsimp only
 rw [QgJ,Option.bind_some]
def jx (j:Nat):Int:=((j % 5:Nat):Int) - 2
def jy (j:Nat):Int:=((j / 5:Nat):Int) - 2
def trv (ds bs:List Nat) (W H:Nat) (j:Nat):Int×Int×Int×Int:=(jx j,jy j,Wo (trm ds bs W H (jx j) (jy j)) (W * H),Wo (com W H (jx j) (jy j)) (W * H))
def okj (W H j:Nat):Bool:=decide (1≤Wo (com W H (jx j) (jy j)) (W * H))
theorem Qgj (ha:Im W H ds) (hb:Im W H bs) {j:Nat} (hj:j < 25) (hc:okj W H j=true):X2 (trv ds bs W H j):=by
 have h1:=S_in ha hb (jx j) (jy j) (W * H)
 have h2:=C_in W H (jx j) (jy j) (W * H)
 have h3:=of_decide_eq_true hc
 have hN:=ha.few
 unfold X2 trv
 dsimp only
 refine ⟨by unfold jx;omega,by unfold jy;omega,⟨by omega,by omega⟩,⟨by omega,by omega⟩⟩
def trT (ds bs:List Nat) (W H:Nat) (j:Nat):Tri:=if h:X2 (trv ds bs W H j) then ⟨trv ds bs W H j,h⟩ else default
theorem Qek (ha:Im W H ds) (hb:Im W H bs) {j:Nat} (hj:j < 25) (hc:okj W H j=true):(trT ds bs W H j).1=trv ds bs W H j:=by
 unfold trT;rw [dif_pos (Qgj ha hb hj hc)]
def trs (ds bs:List Nat) (W H i:Nat):List Tri:=((List.range i).filter (okj W H)).map (trT ds bs W H)
theorem Qeh (ds bs:List Nat) (W H i:Nat):trs ds bs W H (i+1)=if okj W H i=true then trs ds bs W H i++[trT ds bs W H i] else trs ds bs W H i:=by
 unfold trs
 rw [List.range_succ,List.filter_append]
 cases h:okj W H i with
 | true=>simp [h]
 | false=>simp [h]
theorem QcR (ds bs:List Nat) (W H i:Nat):(trs ds bs W H i).length≤i:=by
 have:=List.length_filter_le (okj W H) (List.range i)
 rw [List.length_range] at this
 unfold trs;rw [List.length_map];exact this
theorem Qb2 (l:List Tri):Eb (l.map Y4)=some l:=by
 induction l with
 | nil=>rfl
 | cons t l ih =>
  have h:QcS (Y4 t)=some t:=by
   obtain ⟨⟨a,b,c,d⟩,h⟩:=t
   show (if h:X2 (a,b,c,d) then some (⟨(a,b,c,d),h⟩:Tri) else none)=_
   rw [dif_pos h]
  rw [List.map_cons]
  unfold Eb
  rw [h,ih]
theorem uW {n:Nat} (hn:300≤n) (ha:Im W H ds) (hb:Im W H bs) (hne:trs ds bs W H 25≠[]):ZU n (W:Int) (H:Int) (ds.map Qm) (W:Int) (H:Int) (bs.map Qm) 2 1=some ((Uq (trs ds bs W H 25)).map Y4):=by
 have inner:∀ y:Nat,y < 5→Qz (Zi n (W:Int) (H:Int) (ds.map Qm) (W:Int) (H:Int) (bs.map Qm) 2 1 ((y:Int),(trs ds bs W H (5 * y)).map Y4)) n (0,(trs ds bs W H (5 * y)).map Y4)=some ((trs ds bs W H (5 * (y+1))).map Y4):=by
  intro y hy
  have h:=WY (L:=Zi n (W:Int) (H:Int) (ds.map Qm) (W:Int) (H:Int) (bs.map Qm) 2 1 ((y:Int),(trs ds bs W H (5 * y)).map Y4)) (fun x=>((x:Int),(trs ds bs W H (5 * y+x)).map Y4)) 5 (e:=(trs ds bs W H (5 * y+5)).map Y4)
   (fun x hx=>by
    have j1:(5 * y+x) % 5=x:=by omega
    have j2:(5 * y+x) / 5=y:=by omega
    have hj:5 * y+x < 25:=by omega
    have q1:jx (5 * y+x)=(x:Int) - 2:=by unfold jx;rw [j1]
    have q2:jy (5 * y+x)=(y:Int) - 2:=by unfold jy;rw [j2]
    have hlen:=QcR ds bs W H (5 * y+x)
    have hs:=Qeh ds bs W H (5 * y+x)
    have hok:okj W H (5 * y+x)=true↔Wo (com W H ((x:Int) - 2) ((y:Int) - 2)) (W * H) ≥ 1:=by unfold okj;rw [q1,q2,decide_eq_true_iff]
    unfold Zi
    dsimp only
    rw [if_pos (by omega),if_pos (by unfold Qb;omega),if_pos (by unfold Qb;omega),Qeg hn ha hb ⟨by omega,by omega⟩ ⟨by omega,by omega⟩,Option.bind_some]
    dsimp only
    by_cases hc:Wo (com W H ((x:Int) - 2) ((y:Int) - 2)) (W * H) ≥ 1
    ·have hv:=Qek ha hb hj (hok.2 hc)
     have hd:Y4 (trT ds bs W H (5 * y+x))=.agg [I ((x:Int) - 2),I ((y:Int) - 2),I (Wo (trm ds bs W H ((x:Int) - 2) ((y:Int) - 2)) (W * H)),I (Wo (com W H ((x:Int) - 2) ((y:Int) - 2)) (W * H))]:=by
      unfold Y4;rw [hv];unfold trv;dsimp only;rw [q1,q2]
     rw [if_pos hc,if_pos (by unfold ZZ;rw [List.length_map];omega),if_pos (by unfold Qb;omega),← hd,← Nat.add_assoc,hs,if_pos (hok.2 hc),List.map_append]
     rfl
    ·rw [if_neg hc,if_pos (by unfold Qb;omega),← Nat.add_assoc,hs,if_neg (fun q=>hc (hok.1 q))]
     rfl)
   (by unfold Zi;dsimp only;rw [if_neg (by omega)]) (n:=n) (by omega)
  exact h
 unfold ZU
 have hl:=WY (L:=QR n (W:Int) (H:Int) (ds.map Qm) (W:Int) (H:Int) (bs.map Qm) 2 1) (fun y=>((y:Int),(trs ds bs W H (5 * y)).map Y4)) 5 (e:=(trs ds bs W H 25).map Y4)
  (fun y hy=>by
   unfold QR
   dsimp only
   rw [if_pos (by omega),if_pos (by unfold Qb;omega),if_pos (by unfold Qb;omega),inner y hy,Option.bind_some,if_pos (by unfold Qb;omega)]
   rfl)
  (by unfold QR;dsimp only;rw [if_neg (by omega)]) (n:=n) (by omega)
 have hl' : Qz (QR n (W:Int) (H:Int) (ds.map Qm) (W:Int) (H:Int) (bs.map Qm) 2 1) n (0,[])=_:=hl
 have hlen:=QcR ds bs W H 25
 rw [if_pos (by unfold Qb;omega),if_pos (by unfold Qb;omega),hl',Option.bind_some,if_pos (QeG (fun h=>hne (List.map_eq_nil_iff.1 h))),zx (Qb2 _) (by omega),Option.bind_some]
theorem Qe3 {n:Nat} (s c:Int):∀ (k x y:Nat),y < k→Qz (Wh n s c) (k+1) ((x:Int),(y:Int))=some ((Nat.gcd x y:Nat):Int)
 | 0,x,y,h=>by omega
 | k+1,x,y,h=>by
  by_cases h0:y=0
  ·subst h0
   rw [Nat.gcd_zero_right]
   exact XA (by unfold Wh;dsimp only;rw [if_pos (show ((0:Nat):Int)=0 from rfl)])
  ·have e:Int.tmod (x:Int) (y:Int)=((x % y:Nat):Int):=by rw [Int.tmod_eq_emod_of_nonneg (by omega)];rfl
   have hy:((y:Nat):Int)≠0:=by omega
   have hm:=Nat.mod_lt x (show 0 < y by omega)
   rw [jh (s':=((y:Int),((x % y:Nat):Int))) (by unfold Wh;dsimp only;rw [if_neg hy,if_pos hy,e]),Qe3 s c k y (x % y) (by omega),Nat.gcd_comm x y,Nat.gcd_rec y x,Nat.gcd_comm]
theorem QeP {n:Nat} (hn:300≤n) {s c:Nat} (hs:s≤1000000000000) (hc:1≤c∧c≤100):ZB n (s:Int) (c:Int)=some (((s / Nat.gcd s c:Nat):Int),((c / Nat.gcd s c:Nat):Int)):=by
 obtain ⟨m,rfl⟩:∃ m,n=m+1:=⟨n - 1,by omega⟩
 have hg:0 < Nat.gcd s c:=Nat.gcd_pos_of_pos_right s hc.1
 have d1:Int.tdiv (s:Int) ((Nat.gcd s c:Nat):Int)=((s / Nat.gcd s c:Nat):Int):=by rw [Int.tdiv_eq_ediv_of_nonneg (by omega)];rfl
 have d2:Int.tdiv (c:Int) ((Nat.gcd s c:Nat):Int)=((c / Nat.gcd s c:Nat):Int):=by rw [Int.tdiv_eq_ediv_of_nonneg (by omega)];rfl
 have b1:=Nat.div_le_self s (Nat.gcd s c)
 have b2:=Nat.div_le_self c (Nat.gcd s c)
 unfold ZB F_cloud_size
 have e:maxI (s:Int) (IntKind.i64.wrap (0 - (s:Int)))=(s:Int):=by
  rw [Uo (n:=0 - (s:Int)) (by unfold Qb;omega)];unfold maxI;split <;> omega
 rw [e,Option.bind_some,Qe3 (n:=m+1) (s:Int) (c:Int) m s c (by omega),Option.bind_some,if_pos (by omega),d1,d2]
 generalize s / Nat.gcd s c=u at *
 generalize c / Nat.gcd s c=v at *
 rw [if_pos (by unfold Qb;omega),if_pos (by unfold Qb;omega)]
theorem Qgv {s1 c1 s2 c2:Nat} (h1:0 < c1) (h2:0 < c2) (h:s1 * c2=s2 * c1):s1 / Nat.gcd s1 c1=s2 / Nat.gcd s2 c2∧c1 / Nat.gcd s1 c1=c2 / Nat.gcd s2 c2:=by
 have g1:0 < Nat.gcd s1 c1:=Nat.gcd_pos_of_pos_right s1 h1
 have g2:0 < Nat.gcd s2 c2:=Nat.gcd_pos_of_pos_right s2 h2
 have key:Nat.gcd s1 c1 * c2=Nat.gcd s2 c2 * c1:=by
  rw [← Nat.gcd_mul_right,← Nat.gcd_mul_right,h,Nat.mul_comm c1 c2]
 obtain ⟨u1,e1⟩:=Nat.gcd_dvd_right s1 c1
 obtain ⟨u2,e2⟩:=Nat.gcd_dvd_right s2 c2
 obtain ⟨v1,f1⟩:=Nat.gcd_dvd_left s1 c1
 obtain ⟨v2,f2⟩:=Nat.gcd_dvd_left s2 c2
 generalize Nat.gcd s1 c1=a at *
 generalize Nat.gcd s2 c2=b at *
 subst e1;subst e2;subst f1;subst f2
 have hu:u1=u2:=by
  have:a * b * u2=a * b * u1:=by
   rw [Nat.mul_assoc,key,Nat.mul_comm a b,Nat.mul_assoc]
  exact (Nat.eq_of_mul_eq_mul_left (Nat.mul_pos g1 g2) this).symm
 subst hu
 have hup:0 < u1:=by
  rcases Nat.eq_zero_or_pos u1 with h | h
  ·subst h;simp at h1
  ·exact h
 have hv:v1=v2:=by
  have:(a * b * u1) * v1=(a * b * u1) * v2:=by
   have l:a * v1 * (b * u1)=(a * b * u1) * v1:=by
    rw [Nat.mul_mul_mul_comm,Nat.mul_comm v1 u1,← Nat.mul_assoc]
   have r:b * v2 * (a * u1)=(a * b * u1) * v2:=by
    rw [Nat.mul_mul_mul_comm,Nat.mul_comm v2 u1,← Nat.mul_assoc,Nat.mul_comm b a]
   rw [← l,← r];exact h
  exact Nat.eq_of_mul_eq_mul_left (Nat.mul_pos (Nat.mul_pos g1 g2) hup) this
 subst hv
 rw [Nat.mul_div_cancel_left _ g1,Nat.mul_div_cancel_left _ g2,Nat.mul_div_cancel_left _ g1,Nat.mul_div_cancel_left _ g2]
 exact ⟨rfl,rfl⟩
theorem QeW {l:List Tri} {h t:Tri} (hh:(Uq l)[0]?=some h) (ht:t∈l):h.1.2.2.1 * t.1.2.2.2≤t.1.2.2.1 * h.1.2.2.2:=by
 obtain ⟨h1,h2⟩:=Xw l
 obtain ⟨i,hi,hti⟩:=List.mem_iff_getElem.1 (h1.mem_iff.2 ht)
 have hg:(Uq l)[i]?=some t:=by rw [List.getElem?_eq_getElem hi,hti]
 by_cases hz:i=0
 ·subst hz
  rw [hh] at hg;cases hg
  exact Int.le_refl _
 ·have hc:=h2 0 i (by omega) _ _ hh hg
  unfold qt or2 at hc
  by_cases h0:sgn (h.1.2.2.1 * t.1.2.2.2) (t.1.2.2.1 * h.1.2.2.2)=0
  ·exact GO.1 (by omega)
  ·rw [if_neg h0] at hc
   exact GO.1 hc
theorem QgD {l:List Tri} {i:Nat} {x:Tri} (h:(Uq l)[i]?=some x):el E2 ((Uq l).map Y4) (i:Int)=some x.1:=by
 unfold el
 rw [if_pos (Int.natCast_nonneg i),Int.toNat_natCast,Jr,List.getElem?_map,h];rfl
theorem Qfx {x:Tri} (ha:Im W H ds) (hb:Im W H bs) (h:x∈trs ds bs W H 25):∃ j,j < 25∧okj W H j=true∧x=trT ds bs W H j∧x.1=trv ds bs W H j:=by
 obtain ⟨j,hj,rfl⟩:=List.mem_map.1 h
 obtain ⟨h1,h2⟩:=List.mem_filter.1 hj
 have h1:=List.mem_range.1 h1
 exact ⟨j,h1,h2,rfl,Qek ha hb h1 h2⟩
theorem Qgu (ha:Im W H ds):okj W H 12=true:=by
 have hw:=ha.w
 have hh:=ha.h
 have hpos:0 < W * H:=Nat.mul_pos (by omega) (by omega)
 obtain ⟨m,hm⟩:∃ m,W * H=m+1:=⟨W * H - 1,by omega⟩
 refine decide_eq_true ?_
 rw [show jx 12=0 from rfl,show jy 12=0 from rfl,hm]
 unfold Wo
 rw [List.range_succ_eq_map,List.map_cons]
 have h0:com W H 0 0 0=1:=by
  unfold com
  rw [if_pos (by unfold inn;rw [Nat.zero_mod,Nat.zero_div];omega)]
 have hr:=QcU (B:=1) (l:=((List.range m).map Nat.succ).map (com W H 0 0)) (fun x hx=>by
  obtain ⟨k,_,rfl⟩:=List.mem_map.1 hx
  exact Qfk W H 0 0 k) (by omega)
 show 1≤com W H 0 0 0+JL _
 rw [h0];omega
theorem QaX {n:Nat} (hn:300≤n) (ha:Im W H ds) (hb:Im W H bs):∃ (x y:Int) (s c:Nat),QY n (W:Int) (H:Int) (ds.map Qm) (W:Int) (H:Int) (bs.map Qm) 2 1=some (x,y,((s / Nat.gcd s c:Nat):Int),((c / Nat.gcd s c:Nat):Int),0)∧0 < c ∧
  (∃ j,j < 25∧okj W H j=true∧(trv ds bs W H j).2.2=((s:Int),(c:Int)))∧∀ j,j < 25→okj W H j=true→(s:Int) * (trv ds bs W H j).2.2.2≤(trv ds bs W H j).2.2.1 * (c:Int):=by
 have hmem:∀ j,j < 25→okj W H j=true→trT ds bs W H j∈trs ds bs W H 25:=fun j h1 h2=>List.mem_map.2 ⟨j,List.mem_filter.2 ⟨List.mem_range.2 h1,h2⟩,rfl⟩
 have h12:=hmem 12 (by omega) (Qgu ha)
 have hne:trs ds bs W H 25≠[]:=fun h=>by rw [h] at h12;cases h12
 have hperm:=(Xw (trs ds bs W H 25)).1
 have hlen:0 < (Uq (trs ds bs W H 25)).length:=by rw [hperm.length_eq];exact List.length_pos_of_mem h12
 obtain ⟨h,hh⟩:∃ h,(Uq (trs ds bs W H 25))[0]?=some h:=⟨_,List.getElem?_eq_getElem hlen⟩
 obtain ⟨j,hj,hjok,hje,hjv⟩:=Qfx ha hb (hperm.mem_iff.1 (List.mem_of_getElem? hh))
 have hok:=h.2
 unfold X2 at hok
 have hcb:h.1.2.2.2≤64:=by
  rw [hjv]
  have:=C_in W H (jx j) (jy j) (W * H)
  have:=ha.few
  show Wo (com W H (jx j) (jy j)) (W * H)≤64
  omega
 obtain ⟨s,hs⟩:∃ s:Nat,h.1.2.2.1=(s:Int):=⟨h.1.2.2.1.toNat,by omega⟩
 obtain ⟨c,hc⟩:∃ c:Nat,h.1.2.2.2=(c:Int):=⟨h.1.2.2.2.toNat,by omega⟩
 refine ⟨h.1.1,h.1.2.1,s,c,?_,by omega,⟨j,hj,hjok,?_⟩,fun k hk hko=>?_⟩
 ·unfold QY
  have e:=QgD hh
  rw [show ((0:Nat):Int)=0 from rfl] at e
  rw [QdX hn ha.ok hb.ok,Option.bind_some,if_pos rfl,uW hn ha hb hne,Option.bind_some,List.length_map,if_neg (by omega),e,Option.bind_some,hs,hc,QeP hn (by omega) ⟨by omega,by omega⟩,Option.bind_some]
 ·rw [← hjv,← hs,← hc]
 ·have hv:=Qek ha hb hk hko
  have:=QeW hh (hmem k hk hko)
  rw [hv,hs,hc] at this
  exact this
theorem Qer {n:Nat} (hn:300≤n) (ha:Im W H ds) (hb:Im W H bs):∃ x y x' y' p q:Int,QY n (W:Int) (H:Int) (ds.map Qm) (W:Int) (H:Int) (bs.map Qm) 2 1=some (x,y,p,q,0) ∧
  QY n (W:Int) (H:Int) (((fl W H ds).map smp).map Qm) (W:Int) (H:Int) (((fl W H bs).map smp).map Qm) 2 1=some (x',y',p,q,0):=by
 obtain ⟨x,y,s,c,h1,h2,⟨j,j1,j2,j3⟩,h3⟩:=QaX hn ha hb
 obtain ⟨x',y',s',c',k1,k2,⟨i,i1,i2,i3⟩,k3⟩:=QaX hn ha.fl hb.fl
 have mir:∀ j,j < 25→∃ m,m < 25∧jx m=-jx j∧jy m=jy j:=fun j hj=>by
  refine ⟨5 * (j / 5)+(4 - j % 5),by omega,?_,?_⟩
  ·unfold jx;omega
  ·unfold jy;omega
 have same:∀ j m,jx m=-jx j→jy m=jy j→(trv ((fl W H ds).map smp) ((fl W H bs).map smp) W H m).2.2=(trv ds bs W H j).2.2∧okj W H m=okj W H j:=fun j m e1 e2=>by
  unfold trv okj
  dsimp only
  rw [e1,e2,S_fl ha hb,C_fl]
  exact ⟨rfl,rfl⟩
 obtain ⟨m,m1,m2,m3⟩:=mir j j1
 obtain ⟨a1,a2⟩:=same j m m2 m3
 obtain ⟨t,t1,t2,t3⟩:=mir i i1
 obtain ⟨b1,b2⟩:=same t i (by omega) (by omega)
 have l1:=k3 m m1 (by rw [a2];exact j2)
 rw [a1,j3] at l1
 have l2:=h3 t t1 (by rw [← b2];exact i2)
 rw [← b1,i3] at l2
 dsimp only at l1 l2
 have hcross:s * c'=s' * c:=by
  have:((s * c' : Nat):Int)=((s' * c:Nat):Int):=by
   rw [Int.natCast_mul,Int.natCast_mul];omega
  exact Int.ofNat.inj this
 obtain ⟨e1,e2⟩:=Qgv h2 k2 hcross
 exact ⟨x,y,x',y',_,_,h1,by rw [e1,e2];exact k1⟩
end
def mir (W:Nat) (p:Pt):Pt:=((W:Int) - 1 - p.1,p.2)
theorem Qex (a b c d:Int):((a == c) && ((b == d) && true))=true↔(a,b)=(c,d):=by
 rw [Prod.mk.injEq];simp
def hG (p:Pt) (s:Nat) (x:Pt):Nat⊕(Unit⊕Unit):=if x=p then .inr (.inl ()) else .inl (s+1)
theorem QeY (p:Pt):∀ (l:List Pt) (s:Nat),K4 (hG p) (fun _=>(.inr ():Unit⊕Unit)) l s=if p∈l then .inl () else .inr ()
 | [],s=>rfl
 | x::l,s=>by
  unfold K4 hG
  by_cases hx:x=p
  ·rw [if_pos hx,if_pos (by rw [hx];exact List.mem_cons_self)]
  ·rw [if_neg hx]
   dsimp only
   rw [show K4 (fun (s:Nat) (x:Pt)=>if x=p then (.inr (.inl ()):Nat⊕(Unit⊕Unit)) else .inl (s+1)) (fun _=>(.inr ():Unit⊕Unit)) l (s+1)=K4 (hG p) (fun _=>(.inr ():Unit⊕Unit)) l (s+1) from rfl,QeY p l (s+1)]
   by_cases hm:p∈l
   ·rw [if_pos hm,if_pos (List.mem_cons_of_mem _ hm)]
   ·rw [if_neg hm,if_neg (fun q=>(List.mem_cons.1 q).elim (fun e=>hx e.symm) hm)]
theorem QeX {n:Nat} (hn:300≤n) {l:List Pt} (hs:l.length≤64) (x y:Int):Yj n (l.map Ql) x y=some (decide ((x,y)∈l)):=by
 unfold Yj
 have h':=Vw (step:=WB n (l.map Ql) x y) (hG (x,y)) (fun _=>(.inr ():Unit⊕Unit)) (fun i _=>(i:Int)) l (fun i s=>True)
  (fun i s q hx _=>by
   have hi:=(List.getElem?_eq_some_iff.1 hx).1
   unfold hG WB
   rw [if_pos (YB hx),Vo yK hx,Option.bind_some]
   by_cases h0:q=(x,y)
   ·rw [if_pos h0]
    exact if_pos ((Qex q.1 q.2 x y).2 h0)
   ·rw [if_neg h0]
    refine ⟨(if_neg (fun hh=>h0 ((Qex q.1 q.2 x y).1 hh))).trans ?_,trivial⟩
    rw [if_pos (by unfold Qb;omega)]
    rfl)
  (fun s _=>by unfold WB;rw [if_neg (by simp)]) (k:=n) (s:=0) trivial (by omega)
 have h2:Qz (WB n (l.map Ql) x y) n 0=_:=h'
 rw [h2,QeY (x,y) l 0,Option.bind_some]
 by_cases hm:(x,y)∈l
 ·rw [if_pos hm,decide_eq_true hm]
 ·rw [if_neg hm,decide_eq_false hm]
def leq (x y:List Pt):Bool:=((y.map Ql).length:Int) == ((x.map Ql).length:Int)
def mat (W:Nat) (x y:List Pt):Bool:=leq x y && x.all fun p=>decide (mir W p∈y)
theorem el_c {cs:List (List Pt)} {i:Nat} {c:List Pt} (h:cs[i]?=some c):el ju (cs.map cD) (i:Int)=some (c.map Ql):=by
 unfold el
 rw [if_pos (Int.natCast_nonneg i),Int.toNat_natCast,Jr,List.getElem?_map,h];rfl
section
variable {n:Nat} {W:Nat} {a1:Int} {a2:List D} {a3 a4:Int} {a5:List D} {a7 a8:Int} {t12 t14 t15:Int×Int×List D×Int} {t23 t27:List D×Int} {e25:Int} {sa:Int×List D}
theorem L8x (hn:300≤n) (hW:W≤8) {x y:List Pt} (hx:x.length≤64) (hy:y.length≤64) (hb:∀ p,p∈x→(0≤p.1∧p.1 < 100)∧(0≤p.2∧p.2 < 100)) (t25:List D×Int) (ta5:Int) (sb:Bool×Int) (b0:Bool) :
  Qz (QK n (W:Int) a1 a2 a3 a4 a5 a7 a8 t12 t14 t15 t23 t25 t27 sa (x.map Ql) ta5 sb (y.map Ql)) n (b0,0)=some (b0 && x.all fun p=>decide (mir W p∈y)):=by
 have h:=WY (L:=QK n (W:Int) a1 a2 a3 a4 a5 a7 a8 t12 t14 t15 t23 t25 t27 sa (x.map Ql) ta5 sb (y.map Ql)) (fun i=>(b0 && (x.take i).all fun p=>decide (mir W p∈y),(i:Int))) x.length (e:=b0 && x.all fun p=>decide (mir W p∈y))
  (fun i hi=>by
   have hp:x[i]?=some x[i]:=List.getElem?_eq_getElem hi
   obtain ⟨p,hpe⟩:∃ p,x[i]=p:=⟨_,rfl⟩
   rw [hpe] at hp
   have hbp:=hb p (List.mem_of_getElem? hp)
   have htk:x.take (i+1)=x.take i++[p]:=by rw [List.take_add_one,hp];rfl
   have hnext:((i+1:Nat):Int)=(i:Int)+1:=rfl
   unfold QK
   dsimp only
   rw [if_pos (YB hp),Vo yK hp,Option.bind_some,htk,List.all_append,hnext]
   cases hc:(b0 && (x.take i).all fun p=>decide (mir W p∈y)) with
   | true =>
    rw [if_pos rfl,if_pos (by unfold Qb;omega),if_pos (by unfold Qb;omega),QeX hn hy,Option.bind_some,if_pos (by unfold Qb;omega),← Bool.and_assoc,hc,Bool.true_and]
    simp [mir]
    exact decide_eq_decide.2 Iff.rfl
   | false =>
    rw [if_neg (by decide),if_pos (by unfold Qb;omega),← Bool.and_assoc,hc,Bool.false_and])
  (by
   unfold QK
   dsimp only
   rw [if_neg (by rw [List.length_map];omega),List.take_length]) (n:=n) (by omega)
 have h0:(b0 && (x.take 0).all fun p=>decide (mir W p∈y))=b0:=by simp
 rw [h0] at h
 exact h
theorem L9x (hn:300≤n) (hW:W≤8) {x:List Pt} {ys:List (List Pt)} (hx:x.length≤64) (hys:ys.length≤64) (hy:∀ y,y∈ys→y.length≤64) (hb:∀ p,p∈x→(0≤p.1∧p.1 < 100)∧(0≤p.2∧p.2 < 100)) (ta5:Int) :
  Qz (QP n (W:Int) a1 a2 a3 a4 a5 a7 a8 t12 t14 t15 t23 (ys.map cD,e25) t27 sa (x.map Ql) ta5) n (false,0)=some (ys.any fun y=>mat W x y):=by
 have h:=WY (L:=QP n (W:Int) a1 a2 a3 a4 a5 a7 a8 t12 t14 t15 t23 (ys.map cD,e25) t27 sa (x.map Ql) ta5) (fun i=>((ys.take i).any fun y=>mat W x y,(i:Int))) ys.length (e:=ys.any fun y=>mat W x y)
  (fun i hi=>by
   have hp:ys[i]?=some ys[i]:=List.getElem?_eq_getElem hi
   obtain ⟨y,hye⟩:∃ y,ys[i]=y:=⟨_,rfl⟩
   rw [hye] at hp
   have hyl:=hy y (List.mem_of_getElem? hp)
   have htk:ys.take (i+1)=ys.take i++[y]:=by rw [List.take_add_one,hp];rfl
   have hnext:((i+1:Nat):Int)=(i:Int)+1:=rfl
   have hin:=L8x (n:=n) (W:=W) (a1:=a1) (a2:=a2) (a3:=a3) (a4:=a4) (a5:=a5) (a7:=a7) (a8:=a8) (t12:=t12) (t14:=t14) (t15:=t15) (t23:=t23) (t27:=t27) (sa:=sa) hn hW hx hyl hb (ys.map cD,e25) ta5 ((ys.take i).any fun y=>mat W x y,(i:Int)) (leq x y)
   unfold QP
   dsimp only
   rw [if_pos (YB hp),el_c hp,Option.bind_some]
   rw [show Qz (QK n (W:Int) a1 a2 a3 a4 a5 a7 a8 t12 t14 t15 t23 (ys.map cD,e25) t27 sa (x.map Ql) ta5 ((ys.take i).any fun y=>mat W x y,(i:Int)) (y.map Ql)) n ((((y.map Ql).length:Int) == ((x.map Ql).length:Int)),0)=some (mat W x y) from hin,Option.bind_some,htk,List.any_append,hnext]
   cases hc:(ys.take i).any fun y=>mat W x y with
   | true=>rw [if_pos rfl,if_pos (by unfold Qb;omega),Bool.true_or]
   | false=>rw [if_neg (by decide),if_pos (by unfold Qb;omega),Bool.false_or];simp)
  (by
   unfold QP
   dsimp only
   rw [if_neg (by rw [List.length_map];omega),List.take_length]) (n:=n) (by omega)
 exact h
theorem L11x (hn:300≤n) (hW:W≤8) {x y:List Pt} (hx:x.length≤64) (hy:y.length≤64) (hb:∀ p,p∈x→(0≤p.1∧p.1 < 100)∧(0≤p.2∧p.2 < 100)) (t25:List D×Int) (sb:Bool×Int) (b0:Bool) :
  Qz (QI n (W:Int) a1 a2 a3 a4 a5 a7 a8 t12 t14 t15 t23 t25 t27 sa (x.map Ql) sb (y.map Ql)) n (b0,0)=some (b0 && x.all fun p=>decide (mir W p∈y)):=by
 have h:=WY (L:=QI n (W:Int) a1 a2 a3 a4 a5 a7 a8 t12 t14 t15 t23 t25 t27 sa (x.map Ql) sb (y.map Ql)) (fun i=>(b0 && (x.take i).all fun p=>decide (mir W p∈y),(i:Int))) x.length (e:=b0 && x.all fun p=>decide (mir W p∈y))
  (fun i hi=>by
   have hp:x[i]?=some x[i]:=List.getElem?_eq_getElem hi
   obtain ⟨p,hpe⟩:∃ p,x[i]=p:=⟨_,rfl⟩
   rw [hpe] at hp
   have hbp:=hb p (List.mem_of_getElem? hp)
   have htk:x.take (i+1)=x.take i++[p]:=by rw [List.take_add_one,hp];rfl
   have hnext:((i+1:Nat):Int)=(i:Int)+1:=rfl
   unfold QI
   dsimp only
   rw [if_pos (YB hp),Vo yK hp,Option.bind_some,htk,List.all_append,hnext]
   cases hc:(b0 && (x.take i).all fun p=>decide (mir W p∈y)) with
   | true =>
    rw [if_pos rfl,if_pos (by unfold Qb;omega),if_pos (by unfold Qb;omega),QeX hn hy,Option.bind_some,if_pos (by unfold Qb;omega),← Bool.and_assoc,hc,Bool.true_and]
    simp [mir]
    exact decide_eq_decide.2 Iff.rfl
   | false =>
    rw [if_neg (by decide),if_pos (by unfold Qb;omega),← Bool.and_assoc,hc,Bool.false_and])
  (by
   unfold QI
   dsimp only
   rw [if_neg (by rw [List.length_map];omega),List.take_length]) (n:=n) (by omega)
 have h0:(b0 && (x.take 0).all fun p=>decide (mir W p∈y))=b0:=by simp
 rw [h0] at h
 exact h
theorem L12x (hn:300≤n) (hW:W≤8) {x:List Pt} {ys:List (List Pt)} (hx:x.length≤64) (hys:ys.length≤64) (hy:∀ y,y∈ys→y.length≤64) (hb:∀ p,p∈x→(0≤p.1∧p.1 < 100)∧(0≤p.2∧p.2 < 100)) :
  Qz (QO n (W:Int) a1 a2 a3 a4 a5 a7 a8 t12 t14 t15 t23 (ys.map cD,e25) t27 sa (x.map Ql)) n (false,0)=some (ys.any fun y=>mat W x y):=by
 have h:=WY (L:=QO n (W:Int) a1 a2 a3 a4 a5 a7 a8 t12 t14 t15 t23 (ys.map cD,e25) t27 sa (x.map Ql)) (fun i=>((ys.take i).any fun y=>mat W x y,(i:Int))) ys.length (e:=ys.any fun y=>mat W x y)
  (fun i hi=>by
   have hp:ys[i]?=some ys[i]:=List.getElem?_eq_getElem hi
   obtain ⟨y,hye⟩:∃ y,ys[i]=y:=⟨_,rfl⟩
   rw [hye] at hp
   have hyl:=hy y (List.mem_of_getElem? hp)
   have htk:ys.take (i+1)=ys.take i++[y]:=by rw [List.take_add_one,hp];rfl
   have hnext:((i+1:Nat):Int)=(i:Int)+1:=rfl
   have hin:=L11x (n:=n) (W:=W) (a1:=a1) (a2:=a2) (a3:=a3) (a4:=a4) (a5:=a5) (a7:=a7) (a8:=a8) (t12:=t12) (t14:=t14) (t15:=t15) (t23:=t23) (t27:=t27) (sa:=sa) hn hW hx hyl hb (ys.map cD,e25) ((ys.take i).any fun y=>mat W x y,(i:Int)) (leq x y)
   unfold QO
   dsimp only
   rw [if_pos (YB hp),el_c hp,Option.bind_some]
   rw [show Qz (QI n (W:Int) a1 a2 a3 a4 a5 a7 a8 t12 t14 t15 t23 (ys.map cD,e25) t27 sa (x.map Ql) ((ys.take i).any fun y=>mat W x y,(i:Int)) (y.map Ql)) n ((((y.map Ql).length:Int) == ((x.map Ql).length:Int)),0)=some (mat W x y) from hin,Option.bind_some,htk,List.any_append,hnext]
   cases hc:(ys.take i).any fun y=>mat W x y with
   | true=>rw [if_pos rfl,if_pos (by unfold Qb;omega),Bool.true_or]
   | false=>rw [if_neg (by decide),if_pos (by unfold Qb;omega),Bool.false_or];simp)
  (by
   unfold QO
   dsimp only
   rw [if_neg (by rw [List.length_map];omega),List.take_length]) (n:=n) (by omega)
 exact h
end
theorem QeO {W:Nat} {x:List Pt} {ys:List (List Pt)} (h:∃ y,y∈ys∧y.length=x.length∧∀ q,q∈x→mir W q∈y):(ys.any fun y=>mat W x y)=true:=by
 obtain ⟨y,h1,h2,h3⟩:=h
 rw [List.any_eq_true]
 refine ⟨y,h1,?_⟩
 unfold mat leq
 rw [List.length_map,List.length_map,h2,Bool.and_eq_true]
 exact ⟨by simp,List.all_eq_true.2 fun p hp=>decide_eq_true (h3 p hp)⟩
def Ky (q:Int×Int):D:=.tup [.v (.int .i64 q.1),I q.2]
def Wz:List (Int×Int)→Int→Option Int
 | [],_=>none
 | q::l,k=>if k=q.1 then some q.2 else Wz l k
def Eh (k v:Int):List (Int×Int)→List (Int×Int)
 | []=>[(k,v)]
 | q::l=>if k=q.1 then (k,v)::l else q::Eh k v l
theorem uN (a b:Int):VS (.int .i64 a) (.int .i64 b)=some (decide (a=b)):=by
 show (if IntKind.i64=IntKind.i64 then some (a == b) else none)=_
 rw [if_pos rfl]
 by_cases h:a=b
 ·subst h;simp
 ·simp [h]
theorem JY (q:Int×Int):SX.keyOf (Ky q)=some (.int .i64 q.1,I q.2):=rfl
theorem QeL (k:Int):∀ l:List (Int×Int),mok (.int .i64 k) (l.map Ky)=true
 | []=>rfl
 | q::l=>by
  rw [List.map_cons]
  unfold mok
  rw [JY]
  dsimp only
  rw [uN]
  exact QeL k l
theorem Qag (k:Int):∀ l:List (Int×Int),QD (.int .i64 k) (l.map Ky)=(Wz l k).map I
 | []=>rfl
 | q::l=>by
  rw [List.map_cons]
  unfold QD Wz
  rw [JY]
  dsimp only
  rw [uN]
  by_cases h:k=q.1
  ·rw [decide_eq_true h,if_pos h];rfl
  ·rw [decide_eq_false h,if_neg h]
   exact Qag k l
theorem Qae (k v:Int):∀ l:List (Int×Int),Qw (.int .i64 k) (I v) (l.map Ky)=(Eh k v l).map Ky
 | []=>rfl
 | q::l=>by
  rw [List.map_cons]
  unfold Qw Eh
  rw [JY]
  dsimp only
  rw [uN]
  by_cases h:k=q.1
  ·rw [decide_eq_true h,if_pos h];rfl
  ·rw [decide_eq_false h,if_neg h]
   dsimp only
   rw [Qae k v l];rfl
theorem jP (k v j:Int):∀ l:List (Int×Int),Wz (Eh k v l) j=if j=k then some v else Wz l j
 | []=>rfl
 | q::l=>by
  unfold Eh
  by_cases h:k=q.1
  ·rw [if_pos h]
   unfold Wz
   dsimp only
   by_cases hj:j=k
   ·rw [if_pos hj,if_pos hj]
   ·rw [if_neg hj,if_neg hj,if_neg (by rw [← h];exact hj)]
  ·rw [if_neg h]
   unfold Wz
   by_cases hj:j=q.1
   ·rw [if_pos hj,if_neg (fun e=>h (by rw [← e];exact hj)),if_pos hj]
   ·rw [if_neg hj,jP k v j l]
    by_cases hk:j=k
    ·rw [if_pos hk,if_pos hk]
    ·rw [if_neg hk,if_neg hk,if_neg hj]
theorem Qa9 (k v:Int):∀ {l:List (Int×Int)} (j:Int),j∈(Eh k v l).map Prod.fst→j=k ∨ j∈l.map Prod.fst
 | [],j,h=>by
  rcases List.mem_cons.1 h with e | h
  ·exact .inl e
  ·cases h
 | q::l,j,h=>by
  unfold Eh at h
  by_cases hk:k=q.1
  ·rw [if_pos hk] at h
   rcases List.mem_cons.1 h with e | h
   ·exact .inl e
   ·exact .inr (List.mem_cons_of_mem _ h)
  ·rw [if_neg hk] at h
   rcases List.mem_cons.1 h with e | h
   ·exact .inr (by rw [e];exact List.mem_cons_self)
   ·rcases Qa9 k v (l:=l) j h with e | e
    ·exact .inl e
    ·exact .inr (List.mem_cons_of_mem _ e)
theorem Qb7 (k v:Int):∀ {l:List (Int×Int)},(l.map Prod.fst).Nodup→((Eh k v l).map Prod.fst).Nodup
 | [],_=>by simp [Eh]
 | q::l,h=>by
  rw [List.map_cons,List.nodup_cons] at h
  unfold Eh
  by_cases hk:k=q.1
  ·rw [if_pos hk,List.map_cons,List.nodup_cons]
   exact ⟨by rw [hk];exact h.1,h.2⟩
  ·rw [if_neg hk,List.map_cons,List.nodup_cons]
   refine ⟨fun hm=>?_,Qb7 k v h.2⟩
   rcases Qa9 k v _ hm with e | e
   ·exact hk e.symm
   ·exact h.1 e
theorem uT (k v:Int):∀ l:List (Int×Int),(Eh k v l).length≤l.length+1
 | []=>Nat.le_refl _
 | q::l=>by
  unfold Eh
  split
  ·rw [List.length_cons,List.length_cons];omega
  ·have:=uT k v l
   rw [List.length_cons,List.length_cons];omega
theorem V1:∀ {l:List (Int×Int)},(l.map Prod.fst).Nodup→∀ q,q∈l→Wz l q.1=some q.2
 | [],_,q,h=>by cases h
 | p::l,hn,q,h=>by
  rw [List.map_cons,List.nodup_cons] at hn
  unfold Wz
  rcases List.mem_cons.1 h with rfl | h
  ·rw [if_pos rfl]
  ·rw [if_neg (fun e=>hn.1 (by rw [← e];exact List.mem_map.2 ⟨q,h,rfl⟩)),V1 hn.2 q h]
theorem Qdf:∀ {l:List (Int×Int)},(∀ q,q∈l→q.2=0)→wc .i64 0 (l.map Ky)=true
 | [],_=>rfl
 | q::l,h=>by
  rw [List.map_cons]
  unfold wc
  rw [JY]
  dsimp only
  rw [h q List.mem_cons_self,Qdf fun p hp=>h p (List.mem_cons_of_mem _ hp)]
  rfl
def szk (cs:List (List Pt)) (k:Int):Nat:=cs.countP fun c=>decide ((c.length:Int)=k)
theorem QaQ {cs:List (List Pt)} {i:Nat} {c:List Pt} (h:cs[i]?=some c) (k:Int):szk (cs.take (i+1)) k=szk (cs.take i) k+if (c.length:Int)=k then 1 else 0:=by
 unfold szk
 rw [List.take_add_one,h,List.countP_append]
 show _+List.countP _ [c]=_
 rw [List.countP_singleton]
 by_cases hk:(c.length:Int)=k
 ·rw [if_pos hk,if_pos (decide_eq_true hk)]
 ·rw [if_neg hk,if_neg (fun e=>hk (of_decide_eq_true e))]
theorem Qeo (cs:List (List Pt)) (k:Int):szk cs k≤cs.length:=List.countP_le_length
theorem Qen {cs cs' : List (List Pt)} (h:(cs.map List.length).Perm (cs'.map List.length)) (k:Int):szk cs k=szk cs' k:=by
 have e:∀ cs:List (List Pt),szk cs k=(cs.map List.length).countP fun (m:Nat)=>decide ((m:Int)=k):=fun cs=>by
  unfold szk
  rw [List.countP_map];rfl
 rw [e,e,h.countP_eq]
def Qb3 (i:Int) (z:List D) (es:List D):Option ((Int×List D)⊕List D) :=
 if mok (.int .i64 ((z).length:Int)) es=true then
 if (QD (.int .i64 ((z).length:Int)) es).isSome=true then
  ((QD (.int .i64 ((z).length:Int)) es).bind un_i).bind fun ta12 =>
  if Qb (ta12 - 1) then
  if Qb (i+1) then
  some (.inl ((i+1),(Qw (.int .i64 ((z).length:Int)) (I (ta12 - 1)) es)))
  else none
  else none
 else
 if Qb (i+1) then
 some (.inl ((i+1),(Qw (.int .i64 ((z).length:Int)) (I (-1)) es)))
 else none
 else none
theorem Qdr {i:Int} (hi:0≤i∧i≤1000) (z:List D) {Q:List (Int×Int)} (hv : -1000≤(Wz Q (z.length:Int)).getD 0∧(Wz Q (z.length:Int)).getD 0≤1000) :
  Qb3 i z (Q.map Ky)=some (.inl (i+1,(Eh (z.length:Int) ((Wz Q (z.length:Int)).getD 0 - 1) Q).map Ky)):=by
 unfold Qb3
 rw [if_pos (QeL _ _),Qag]
 cases h:Wz Q (z.length:Int) with
 | some v =>
  rw [h] at hv
  have hv : -1000≤v∧v≤1000:=hv
  rw [if_pos (show (Option.map I (some v)).isSome=true from rfl),show ((Option.map I (some v)).bind un_i)=some v from rfl,Option.bind_some,if_pos (by unfold Qb;omega),if_pos (by unfold Qb;omega),Qae]
  rfl
 | none =>
  rw [if_neg (show ¬ (Option.map I none).isSome=true from by decide),if_pos (by unfold Qb;omega),Qae]
  rfl
section
variable {n:Nat} {W:Nat} {a1:Int} {a2:List D} {a3 a4:Int} {a5:List D} {a7 a8:Int} {t12 t14 t15:Int×Int×List D×Int} {e23 e25 e27:Int}
theorem L13x (hn:300≤n) (hW:W≤8) {one two three:List (List Pt)} (h1:one.length≤64) (h2:two.length≤64) (h3:three.length=one.length) (hx:∀ x,x∈one→x.length≤64∧(∀ p,p∈x→(0≤p.1∧p.1 < 100)∧(0≤p.2∧p.2 < 100))∧∃ y,y∈two∧y.length=x.length∧∀ q,q∈x→mir W q∈y)
  (hy:∀ y,y∈two→y.length≤64) (hp:(one.map List.length).Perm (three.map List.length)) :
  ∃ Q:List (Int×Int),Qz (QH n (W:Int) a1 a2 a3 a4 a5 a7 a8 t12 t14 t15 (one.map cD,e23) (two.map cD,e25) (three.map cD,e27)) n (0,[])=some (Q.map Ky)∧wc .i64 0 (Q.map Ky)=true∧Q.length≤128:=by
 have hm:=GZ (L:=QH n (W:Int) a1 a2 a3 a4 a5 a7 a8 t12 t14 t15 (one.map cD,e23) (two.map cD,e25) (three.map cD,e27))
  (fun i st=>∃ Q:List (Int×Int),(Q.map Prod.fst).Nodup∧i≤one.length∧Q.length≤2 * i∧(∀ k,(Wz Q k).getD 0=(szk (one.take i) k:Int) - (szk (three.take i) k:Int))∧st=((i:Int),Q.map Ky))
  (fun e=>∃ Q:List (Int×Int),e=Q.map Ky∧wc .i64 0 (Q.map Ky)=true∧Q.length≤128) one.length ?_ (n:=n) (by omega) (s:=(0,[])) ⟨[],List.nodup_nil,Nat.zero_le _,Nat.le_refl _,fun k=>rfl,rfl⟩
 ·obtain ⟨e,he,Q,rfl,q2,q3⟩:=hm
  exact ⟨Q,he,q2,q3⟩
 rintro i st ⟨Q,hnd,hi,hql,hval,rfl⟩
 by_cases hlt:i < one.length
 ·left
  refine ⟨hlt,?_⟩
  have hpx:one[i]?=some one[i]:=List.getElem?_eq_getElem hlt
  obtain ⟨x,hxe⟩:∃ x,one[i]=x:=⟨_,rfl⟩
  rw [hxe] at hpx
  obtain ⟨z,hpz⟩:∃ z,three[i]?=some z:=⟨_,List.getElem?_eq_getElem (by omega)⟩
  obtain ⟨x1,x2,x3⟩:=hx x (List.mem_of_getElem? hpx)
  have hany:=QeO (W:=W) x3
  have hbd:∀ (Q:List (Int×Int)) (j:Nat),j≤64→(∀ k,(Wz Q k).getD 0=(szk (one.take j) k:Int) - (szk (three.take j) k:Int))→∀ k,-64≤(Wz Q k).getD 0∧(Wz Q k).getD 0≤64:=fun Q j hj hq k=>by
   have:=Qeo (one.take j) k
   have:=Qeo (three.take j) k
   rw [List.length_take] at *
   rw [hq k];omega
  have hv:=hbd Q i (by omega) hval ((x.map Ql).length:Int)
  obtain ⟨kx,hkx⟩:∃ kx:Int,((x.map Ql).length:Int)=kx:=⟨_,rfl⟩
  obtain ⟨kz,hkz⟩:∃ kz:Int,((z.map Ql).length:Int)=kz:=⟨_,rfl⟩
  have hkx' : (x.length:Int)=kx:=by rw [← hkx,List.length_map]
  have hkz' : (z.length:Int)=kz:=by rw [← hkz,List.length_map]
  rw [hkx] at hv
  obtain ⟨Q1,hQ1⟩:∃ Q1,Eh kx ((Wz Q kx).getD 0+1) Q=Q1:=⟨_,rfl⟩
  have hl1:∀ j,(Wz Q1 j).getD 0=if j=kx then (Wz Q kx).getD 0+1 else (Wz Q j).getD 0:=fun j=>by
   rw [← hQ1,jP]
   by_cases hj:j=kx
   ·rw [if_pos hj,if_pos hj];rfl
   ·rw [if_neg hj,if_neg hj]
  have hv1 : -1000≤(Wz Q1 ((z.map Ql).length:Int)).getD 0∧(Wz Q1 ((z.map Ql).length:Int)).getD 0≤1000:=by
   have:=hbd Q i (by omega) hval ((z.map Ql).length:Int)
   rw [hl1]
   split <;> omega
  have goal:QH n (W:Int) a1 a2 a3 a4 a5 a7 a8 t12 t14 t15 (one.map cD,e23) (two.map cD,e25) (three.map cD,e27) ((i:Int),Q.map Ky)=Qb3 (i:Int) (z.map Ql) (Q1.map Ky):=by
   have hput:Qw (.int .i64 kx) (I ((Wz Q kx).getD 0+1)) (Q.map Ky)=Q1.map Ky:=by rw [Qae,hQ1]
   unfold QH
   dsimp only
   rw [if_pos (YB hpx),el_c hpx,Option.bind_some,hkx,if_pos (QeL _ _),Qag]
   cases hlk:Wz Q kx with
   | some v =>
    rw [hlk] at hv hput
    have hv : -64≤v∧v≤64:=hv
    have hput:Qw (.int .i64 kx) (I (v+1)) (Q.map Ky)=Q1.map Ky:=hput
    rw [if_pos (show (Option.map I (some v)).isSome=true from rfl),show ((Option.map I (some v)).bind un_i)=some v from rfl,Option.bind_some,if_pos (by unfold Qb;omega),L9x hn hW x1 h2 hy x2,hany,Option.bind_some,if_pos rfl,el_c hpz,Option.bind_some,hput]
    rfl
   | none =>
    rw [hlk] at hput
    have hput:Qw (.int .i64 kx) (I 1) (Q.map Ky)=Q1.map Ky:=hput
    rw [if_neg (show ¬ (Option.map I none).isSome=true from by decide),L12x hn hW x1 h2 hy x2,hany,Option.bind_some,if_pos rfl,el_c hpz,Option.bind_some,hput]
    rfl
  refine ⟨_,goal.trans (Qdr (i:=(i:Int)) ⟨by omega,by omega⟩ (z.map Ql) hv1),Eh ((z.map Ql).length:Int) ((Wz Q1 ((z.map Ql).length:Int)).getD 0 - 1) Q1,?_,by omega,?_,fun k=>?_,rfl⟩
  ·exact Qb7 _ _ (by rw [← hQ1];exact Qb7 _ _ hnd)
  ·have l1:=uT ((z.map Ql).length:Int) ((Wz Q1 ((z.map Ql).length:Int)).getD 0 - 1) Q1
   have l2:=uT kx ((Wz Q kx).getD 0+1) Q
   rw [hQ1] at l2
   omega
  ·have t1:=QaQ hpx k
   have t3:=QaQ hpz k
   rw [hkx'] at t1
   rw [hkz'] at t3
   have v0:=hval k
   have vx:=hval kx
   rw [jP,hkz,t1,t3]
   have g0:(if k=kz then some ((Wz Q1 kz).getD 0 - 1) else Wz Q1 k).getD 0=(Wz Q1 k).getD 0 - if k=kz then 1 else 0:=by
    by_cases hk:k=kz
    ·rw [if_pos hk,if_pos hk,hk];rfl
    ·rw [if_neg hk,if_neg hk,Int.sub_zero]
   rw [g0,hl1]
   by_cases hk:k=kz
   ·by_cases hk2:k=kx
    ·rw [if_pos hk,if_pos hk2,if_pos hk2.symm,if_pos hk.symm,← hk2];omega
    ·rw [if_pos hk,if_neg hk2,if_neg (fun e=>hk2 e.symm),if_pos hk.symm];omega
   ·by_cases hk2:k=kx
    ·rw [if_neg hk,if_pos hk2,if_pos hk2.symm,if_neg (fun e=>hk e.symm),← hk2];omega
    ·rw [if_neg hk,if_neg hk2,if_neg (fun e=>hk2 e.symm),if_neg (fun e=>hk e.symm)];omega
 ·right
  have hie:i=one.length:=by omega
  subst hie
  refine ⟨Q.map Ky,?_,Q,rfl,Qdf fun q hq=>?_,by omega⟩
  ·unfold QH
   dsimp only
   rw [if_neg (by rw [List.length_map];omega)]
  ·have e1:=V1 hnd q hq
   have e2:=hval q.1
   rw [e1,List.take_length,← h3,List.take_length,Qen hp] at e2
   have e2:q.2=(szk three q.1:Int) - (szk three q.1:Int):=e2
   omega
theorem L14x (hn:300≤n) {es:List D} (hl:es.length≤128):Qz (QN n (W:Int) a1 a2 a3 a4 a5 a7 a8 t12 t14 t15 es) n es.length=some ():=by
 have h:=WY (L:=QN n (W:Int) a1 a2 a3 a4 a5 a7 a8 t12 t14 t15 es) (fun i=>es.length - i) es.length (e:=())
  (fun i hi=>by
   unfold QN
   rw [if_pos (by omega),if_pos (by omega)]
   rfl)
  (by
   unfold QN
   rw [if_neg (by omega)]) (n:=n) (by omega)
 exact h
end
def limB (a:Nat):Bool:=(fop .add .f32 1065353216 (FloatKind.nearest .f32 (a:Int))).isSome && ((fop .quo .f32 ((fop .add .f32 1065353216 (FloatKind.nearest .f32 (a:Int))).getD 0) 1098907648).isSome && Nat.beq ((fop .quo .f32 ((fop .add .f32 1065353216 (FloatKind.nearest .f32 (a:Int))).getD 0) 1098907648).getD 0) (smp ((a:Int)+1)))
theorem QfL:((List.range 256).all limB)=true:=by kernel_rfl
theorem Qgw {a:Int} (h:0≤a∧a≤255):(fop .add .f32 1065353216 (FloatKind.nearest .f32 a)).isSome=true∧(fop .quo .f32 ((fop .add .f32 1065353216 (FloatKind.nearest .f32 a)).getD 0) 1098907648).isSome=true∧(fop .quo .f32 ((fop .add .f32 1065353216 (FloatKind.nearest .f32 a)).getD 0) 1098907648).getD 0=smp (a+1):=by
 obtain ⟨m,rfl⟩:∃ m:Nat,a=m:=⟨a.toNat,by omega⟩
 have:=List.all_eq_true.1 QfL m (List.mem_range.2 (by omega))
 unfold limB at this
 rw [Bool.and_eq_true,Bool.and_eq_true] at this
 exact ⟨this.1,this.2.1,Nat.eq_of_beq_eq_true this.2.2⟩
section
variable {W H:Nat} {ds bs:List Nat}
theorem QaY {n:Nat} (hn:300≤n) (h:Im W H bs) {lim:Nat} (hc:chk lim=0) (hp:1≤lev lim):Vn n (W:Int) (H:Int) (bs.map Qm) lim=some ((((pts W H bs (lev lim)).length / Nat.gcd (pts W H bs (lev lim)).length (W * H):Nat):Int),((W * H / Nat.gcd (pts W H bs (lev lim)).length (W * H):Nat):Int),0):=by
 have hN:=h.few
 have hpos:0 < W * H:=Nat.mul_pos (by have:=h.w;omega) (by have:=h.h;omega)
 have hl:=QcX W H bs (lev lim)
 unfold Vn
 rw [QbP hn h hc hp,Option.bind_some,if_pos rfl,Qdd hn h hc,Option.bind_some,List.length_map,List.length_map,h.len,QeP hn (by omega) ⟨by omega,by omega⟩,Option.bind_some]
theorem Qgh {n:Nat} (hn:300≤n) (ha:Im W H ds) (hb:Im W H bs):ZL n (W:Int) (H:Int) (ds.map Qm) (W:Int) (H:Int) (bs.map Qm)=some 0:=by
 unfold ZL Z0
 rw [jH hn ha.ok,Option.bind_some,jH hn hb.ok,Option.bind_some,if_pos rfl,Option.bind_some,show ((H:Int) == (H:Int))=true by simp]
 have e:Zf n (!true) 2=some 0:=rfl
 rw [e,Option.bind_some,show ([I 0,I 0,I 0]:List D)=[0,0,0].map I from rfl,Jm hn _ (by simp),Option.bind_some]
 rfl
theorem Qgi {n:Nat} (hn:300≤n) (a0 a1 a3 a4:Int) (h0:a0≤8) (h1:a1≤8) (h3:a3≤8) (h4:a4≤8) (ds bs:List Nat):∃ e,ZL n a0 a1 (ds.map Qm) a3 a4 (bs.map Qm)=some e∧(e=0→ImgOk a0 a1 ds∧ImgOk a3 a4 bs∧a0=a3∧a1=a4):=by
 obtain ⟨e1,r1,q1⟩:=Qa5 hn a0 a1 h0 h1 ds
 obtain ⟨e2,r2,q2⟩:=Qa5 hn a3 a4 h3 h4 bs
 unfold ZL Z0
 rw [r1,Option.bind_some,r2,Option.bind_some]
 have w:∀ b:Bool,Zf n (!b) 2=some (if b=true then 0 else 2):=fun b=>by cases b <;> rfl
 have fin:∀ b:Bool,(((Zf n (!b) 2).bind fun t4=>(WT n ([I e1,I e2,I t4])).bind fun t5=>some t5):Option Int)=some (Zn [e1,e2,if b=true then 0 else 2]):=fun b=>by
  rw [w,Option.bind_some,show ([I e1,I e2,I (if b=true then 0 else 2)]:List D)=[e1,e2,if b=true then 0 else 2].map I from rfl,Jm hn _ (by simp),Option.bind_some]
 have nz:∀ x:Int,Zn [e1,e2,x]=0→e1=0∧e2=0∧x=0:=by
  intro x hx
  unfold Zn at hx
  by_cases c1:e1=0
  ·rw [if_pos c1] at hx
   unfold Zn at hx
   by_cases c2:e2=0
   ·rw [if_pos c2] at hx
    unfold Zn at hx
    by_cases c3:x=0
    ·exact ⟨c1,c2,c3⟩
    ·rw [if_neg c3] at hx;exact absurd hx c3
   ·rw [if_neg c2] at hx;exact absurd hx c2
  ·rw [if_neg c1] at hx;exact absurd hx c1
 by_cases hs:a0=a3
 ·rw [if_pos hs,Option.bind_some,fin]
  refine ⟨_,rfl,fun h=>?_⟩
  obtain ⟨c1,c2,c3⟩:=nz _ h
  refine ⟨q1 c1,q2 c2,hs,?_⟩
  by_cases ht:(a1 == a4)=true
  ·simpa using ht
  ·rw [if_neg ht] at c3;cases c3
 ·rw [if_neg hs,Option.bind_some,fin]
  refine ⟨_,rfl,fun h=>?_⟩
  obtain ⟨c1,c2,c3⟩:=nz _ h
  cases c3
theorem QfC {n:Nat} (hn:300≤n) (ha:Im W H ds) (hb:Im W H bs) (he:∀ k,k < W * H→lv ds k=lv bs k):WK n (W:Int) (H:Int) (ds.map Qm) (W:Int) (H:Int) (bs.map Qm)=some true:=by
 have hN:=ha.few
 unfold WK Z0
 rw [if_pos rfl,show ((H:Int) == (H:Int))=true by simp,Option.bind_some,if_pos rfl]
 unfold WW
 rw [if_pos (by rw [List.length_map,List.length_map,ha.len,hb.len]),kM (L:=Zo n (ds.map Qm) (bs.map Qm)) ds ?_ ?_ (by rw [ha.len];omega),Option.bind_some]
 ·rfl
 ·intro i x hx
  have hi:=(List.getElem?_eq_some_iff.1 hx).1
  rw [ha.len] at hi
  obtain ⟨b,hb1,hb2,hb3,_⟩:=hb.at hi
  obtain ⟨c,hc1,hc2,hc3,_⟩:=ha.at hi
  rw [hx] at hc1;cases hc1
  have ho:=ji hc2 hb2
  have hl:lev x=lev b:=by rw [← hc3,← hb3];exact he i hi
  have e:((FloatKind.format .f32).order x b != some .eq)=false:=by
   rw [show (FloatKind.format .f32).order x b=some (compare (lev x) (lev b)) from ho,hl,Int.compare_eq_eq.2 rfl];rfl
  unfold Zo
  rw [if_pos (YB hx),Vo unff hx,Option.bind_some,Vo unff hb1,Option.bind_some,if_neg (by rw [e];decide),if_pos (by unfold Qb;omega)]
 ·unfold Zo
  rw [if_neg (by simp)]
end
theorem QcT {a m:Int} (ha:0≤a) (hm:1≤m):0≤Int.tmod a m∧Int.tmod a m < m:=by
 rw [Int.tmod_eq_emod_of_nonneg ha]
 exact ⟨Int.emod_nonneg a (by omega),Int.emod_lt_of_pos a (by omega)⟩
theorem G1 (a0 a1:Int) (ds:List Nat) (a3 a4:Int) (bs:List Nat) {a6 a7 a8:Int} (h6:0≤a6∧a6≤255) (h7:0≤a7∧a7≤255) (h8:0≤a8∧a8≤255) :
  Wr 5000 a0 a1 (ds.map Qm) a3 a4 (bs.map Qm) a6 a7 a8=some true:=by
 have hn:300≤5000:=by omega
 unfold Wr
 by_cases c1:a0 > 8
 ·rw [if_pos c1];rfl
 rw [if_neg c1]
 by_cases c2:a1 > 8
 ·rw [if_pos c2];rfl
 rw [if_neg c2]
 by_cases c3:a3 > 8
 ·rw [if_pos c3];rfl
 rw [if_neg c3]
 by_cases c4:a4 > 8
 ·rw [if_pos c4];rfl
 rw [if_neg c4]
 obtain ⟨e,r1,r2⟩:=Qgi hn a0 a1 a3 a4 (by omega) (by omega) (by omega) (by omega) ds bs
 rw [r1,Option.bind_some]
 by_cases h0:e=0
 case neg=>rw [if_neg h0];rfl
 rw [if_pos h0]
 obtain ⟨ia,ib,rfl,rfl⟩:=r2 h0
 have hw:=ia.map.w
 have hh:=ia.map.h
 obtain ⟨W,rfl⟩:∃ W:Nat,a0=W:=⟨a0.toNat,by omega⟩
 obtain ⟨H,rfl⟩:∃ H:Nat,a1=H:=⟨a1.toNat,by omega⟩
 have ha:Im W H ds:=⟨ia,by omega,by omega⟩
 have hb:Im W H bs:=⟨ib,by omega,by omega⟩
 have hN:=ha.few
 have hal:=ha.len
 have hbl:=hb.len
 have hw7:IntKind.wrap .i64 a7=a7:=Uo (by unfold Qb;omega)
 have hw8:IntKind.wrap .i64 a8=a8:=Uo (by unfold Qb;omega)
 obtain ⟨l1,l2,l3⟩:=Qgw h6
 have m7:=QcT (a:=a7) (m:=5) h7.1 (by omega)
 have m8:=QcT (a:=a8) (m:=5) h8.1 (by omega)
 rw [l3,hw7,hw8]
 obtain ⟨sx,hsx⟩:∃ sx:Int,Int.tmod a7 5 - 2=sx:=⟨_,rfl⟩
 obtain ⟨sy,hsy⟩:∃ sy:Int,Int.tmod a8 5 - 2=sy:=⟨_,rfl⟩
 rw [hsx,hsy]
 have hwn:IntKind.wrap .i64 (0 - sx)=-sx:=by rw [Uo (n:=0 - sx) (by unfold Qb;omega),Int.zero_sub]
 rw [hwn]
 have hsm:=jz (k:=a6+1) ⟨by omega,by omega⟩
 have hc:chk (smp (a6+1))=0:=hsm.1
 have hlev:1≤lev (smp (a6+1)):=by rw [hsm.2.1];omega
 obtain ⟨lim,hlim⟩:∃ lim,smp (a6+1)=lim:=⟨_,rfl⟩
 rw [hlim] at hc hlev ⊢
 have own:∀ (n:Nat) (W H:Nat) (xs:List Nat),xs.length≤64→Q2 n (W:Int) (H:Int) (xs.map Qm)=some ((W:Int),(H:Int),xs.map Qm):=fun n W H xs hx=>by
  unfold Q2
  rw [if_pos (by unfold ZZ;rw [List.length_map];omega)]
 have hfa:=ha.fl
 have hfb:=hb.fl
 have hta:=ha.tu
 have lfa:=hfa.len
 have lfb:=hfb.len
 have lta:=hta.len
 have hN' : H * W≤64:=by rw [Nat.mul_comm];exact hN
 rw [if_pos l1,if_pos l2,if_pos (by unfold Qb;omega),if_pos (by unfold Qb;omega),own _ _ _ ds (by omega),Option.bind_some]
 dsimp only
 rw [ki hn ha,Option.bind_some,own _ _ _ bs (by omega),Option.bind_some]
 dsimp only
 rw [ki hn hb,Option.bind_some,YF hn ha,Option.bind_some]
 dsimp only
 rw [if_pos rfl,if_pos rfl,if_pos rfl,Qgh hn hfa hfb,Option.bind_some,if_pos rfl,jH hn hta.ok,Option.bind_some,if_pos rfl]
 obtain ⟨one,o1,o2,o3⟩:=zU hn ha hc hlev
 obtain ⟨two,w1,w2,w3⟩:=zU hn hfa hc hlev
 obtain ⟨thr,t1,t2,t3⟩:=zU hn hta hc hlev
 have iso:=ha.iso_fl (lev lim)
 have isot:=ha.iso_tu (lev lim)
 have pW:=(Coms.sizes iso o1 w1)
 have pT:=(Coms.sizes isot o1 t1)
 have eW:two.length=one.length:=by have:=pW.length_eq;rw [List.length_map,List.length_map] at this;exact this.symm
 have eT:thr.length=one.length:=by have:=pT.length_eq;rw [List.length_map,List.length_map] at this;exact this.symm
 have hdk:(pts W H ((fl W H ds).map smp) (lev lim)).length=(pts W H ds (lev lim)).length:=(QfM iso (Qb9 _ _ _ _) (Qb9 _ _ _ _)).symm
 rw [o3,Option.bind_some,if_pos (by unfold ZZ;rw [List.length_map,lfa];omega),w3,Option.bind_some,if_pos (by unfold ZZ;rw [List.length_map,lta];omega),t3,Option.bind_some,QaY hn ha hc hlev,Option.bind_some,QaY hn hfa hc hlev,Option.bind_some,QaP hn ha,Option.bind_some,QaP hn hfa,Option.bind_some]
 dsimp only
 rw [if_pos rfl,if_pos rfl,if_pos rfl,if_pos rfl,if_pos rfl,if_pos rfl,if_pos rfl,List.length_map,List.length_map,List.length_map,eW,eT,if_pos rfl,if_pos rfl,hdk,if_pos (by simp),ha.total,if_pos rfl]
 have hsub:∀ x,x∈one→x.length≤64∧(∀ p,p∈x→(0≤p.1∧p.1 < 100)∧(0≤p.2∧p.2 < 100))∧∃ y,y∈two∧y.length=x.length∧∀ q,q∈x→mir W q∈y:=fun x hx=>by
  have hcx:=o1.com x hx
  have s:=ha.sky (lev lim)
  refine ⟨Nat.le_trans (Vi hcx.nd hcx.sub) s.few,fun p hp=>s.bnd p (hcx.sub p hp),?_⟩
  obtain ⟨y,q1,q2,q3⟩:=Coms.mate iso o1 w1 hx
  exact ⟨y,q1,q2,fun q hq=>q3 q hq⟩
 have hy:∀ y,y∈two→y.length≤64:=fun y hy=>by
  have hcy:=w1.com y hy
  exact Nat.le_trans (Vi hcy.nd hcy.sub) (hfa.sky (lev lim)).few
 obtain ⟨Q,z1,z2,z3⟩:=L13x (n:=5000) (W:=W) (a1:=(H:Int)) (a2:=ds.map Qm) (a3:=(W:Int)) (a4:=(H:Int)) (a5:=bs.map Qm) (a7:=a7) (a8:=a8) (t12:=((W:Int),(H:Int),((fl W H ds).map smp).map Qm,0)) (t14:=((W:Int),(H:Int),((fl W H bs).map smp).map Qm,0)) (t15:=((H:Int),(W:Int),((tu W H ds).map smp).map Qm,0)) (e23:=0) (e25:=0) (e27:=0)
  hn ha.w.2 (one:=one) (two:=two) (three:=thr) o2 w2 eT hsub hy pT
 rw [z1,Option.bind_some,if_pos z2,L14x hn (by rw [List.length_map];exact z3),Option.bind_some]
 rw [Qdc hn ha hb (sx:=sx) (sy:=sy) ⟨by omega,by omega⟩ ⟨by omega,by omega⟩,Option.bind_some,if_pos (by unfold ZZ;rw [List.length_map,lfb];omega),Qdc hn hfa hfb (sx:=-sx) (sy:=sy) ⟨by omega,by omega⟩ ⟨by omega,by omega⟩,Option.bind_some,S_fl ha hb,C_fl]
 dsimp only
 rw [if_pos rfl,if_pos rfl,if_pos rfl]
 obtain ⟨x,y,x',y',p,q,s1,s2⟩:=Qer hn ha hb
 have hta2:=hta.tu
 have hta3:=hta2.tu
 have hta4:=hta3.tu
 have hsame:=QfC hn hta4 ha fun k hk=>ha.four hk
 have hpq:((p == p) && ((q == q) && true))=true:=by simp
 by_cases h7c:ua (Wo (com W H sx sy) (W * H))=0
 ·rw [if_pos h7c,s1,Option.bind_some,s2,Option.bind_some]
  dsimp only
  rw [if_pos rfl,if_pos rfl,if_pos hpq,YF hn hta,Option.bind_some]
  dsimp only
  rw [if_pos rfl,YF hn hta2,Option.bind_some]
  dsimp only
  rw [if_pos rfl,YF hn hta3,Option.bind_some]
  dsimp only
  rw [if_pos rfl,hsame,Option.bind_some,if_pos rfl]
  rfl
 ·have h7:ua (Wo (com W H sx sy) (W * H))=7:=by
   unfold ua at *
   by_cases hq:Wo (com W H sx sy) (W * H)=0
   ·rw [if_pos hq]
   ·rw [if_neg hq] at h7c;exact absurd rfl h7c
  rw [if_neg h7c,if_pos h7,s1,Option.bind_some,s2,Option.bind_some]
  dsimp only
  rw [if_pos rfl,if_pos rfl,if_pos hpq,YF hn hta,Option.bind_some]
  dsimp only
  rw [if_pos rfl,YF hn hta2,Option.bind_some]
  dsimp only
  rw [if_pos rfl,YF hn hta3,Option.bind_some]
  dsimp only
  rw [if_pos rfl,hsame,Option.bind_some,if_pos rfl]
  rfl
theorem Gt (Ds:List D) (hh:okAs [(true,[.int .i64,.int .i64,.lst false [.flt .f32]]),(true,[.int .i64,.int .i64,.lst false [.flt .f32]]),(true,[.int .u8,.int .u8,.int .u8])] Ds):Computes cx 3 Ds (.v (.bool true)):=by
 obtain ⟨d1,l1_,rfl,p1,hh1⟩:=Qcf hh
 obtain ⟨cs2,rfl,q2⟩:=QeC p1
 obtain ⟨d3,r3,rfl,p3,q3⟩:=X4 q2
 obtain ⟨a0,rfl,h0⟩:=ok_i p3
 have b0:=Qc9 h0
 obtain ⟨d4,r4,rfl,p4,q4⟩:=X4 q3
 obtain ⟨a1,rfl,h1⟩:=ok_i p4
 have b1:=Qc9 h1
 obtain ⟨d5,r5,rfl,p5,q5⟩:=X4 q4
 obtain ⟨es2,rfl,l2,h2⟩:=Qf4 p5
 obtain ⟨a2,rfl,b2⟩:=Qcq (enc:=fun x:Nat=>(.v (.float .f32 x):D)) (p:=fun x:Nat=>(Lit.float .f32 x).wf=true) (es:=es2) (fun e he=>by
  obtain ⟨x,rfl,b⟩:=Qf5 (h2 e he)
  exact ⟨x,rfl,b⟩)
 rw [List.length_map] at l2
 cases QeB q5
 obtain ⟨d6,l6_,rfl,p6,hh6⟩:=Qcf hh1
 obtain ⟨cs7,rfl,q7⟩:=QeC p6
 obtain ⟨d8,r8,rfl,p8,q8⟩:=X4 q7
 obtain ⟨a3,rfl,h3⟩:=ok_i p8
 have b3:=Qc9 h3
 obtain ⟨d9,r9,rfl,p9,q9⟩:=X4 q8
 obtain ⟨a4,rfl,h4⟩:=ok_i p9
 have b4:=Qc9 h4
 obtain ⟨d10,r10,rfl,p10,q10⟩:=X4 q9
 obtain ⟨es5,rfl,l5,h5⟩:=Qf4 p10
 obtain ⟨a5,rfl,b5⟩:=Qcq (enc:=fun x:Nat=>(.v (.float .f32 x):D)) (p:=fun x:Nat=>(Lit.float .f32 x).wf=true) (es:=es5) (fun e he=>by
  obtain ⟨x,rfl,b⟩:=Qf5 (h5 e he)
  exact ⟨x,rfl,b⟩)
 rw [List.length_map] at l5
 cases QeB q10
 obtain ⟨d11,l11_,rfl,p11,hh11⟩:=Qcf hh6
 obtain ⟨cs12,rfl,q12⟩:=QeC p11
 obtain ⟨d13,r13,rfl,p13,q13⟩:=X4 q12
 obtain ⟨a6,rfl,h6⟩:=ok_i p13
 have b6:=u8_b h6
 obtain ⟨d14,r14,rfl,p14,q14⟩:=X4 q13
 obtain ⟨a7,rfl,h7⟩:=ok_i p14
 have b7:=u8_b h7
 obtain ⟨d15,r15,rfl,p15,q15⟩:=X4 q14
 obtain ⟨a8,rfl,h8⟩:=ok_i p15
 have b8:=u8_b h8
 cases QeB q15
 cases Qgs hh11
 exact Ga (G1 a0 a1 a2 a3 a4 a5 b6 b7 b8)
end Go.Proofs.YtfiigcbhiopagaaGreatDoor
