/- Own texts. -/
import Derived.Test.YtmhkcfjajpjigaaGreatDoorLWrd
import Derived.Lib.SlTrimSet
import Derived.Lib.Join
import Derived.KernelRfl
set_option linter.unusedSimpArgs false
set_option linter.unusedVariables false
set_option linter.unnecessarySimpa false
set_option maxRecDepth 20000
namespace Go.Proofs.YtmhkcfjajpjigaaGreatDoor
open Go.SX
def ZA (wsx:List Wrd)(b:Bool):Wrd×List Wrd×Bool:=match wsx with
 | []=>([],[],true)
 | w::l=>if w=[] then([],[],true) else(w,l,b)
def UV (wsx:List Wrd)(b:Bool):Int×List Wrd×Bool :=
 (intV (ZA wsx b).1,(ZA wsx b).2.1,if(ZA wsx b).2.2=true then true else !(num (ZA wsx b).1).isSome)
theorem yW {w:Wrd}{l:List Wrd}(b:Bool)(h:¬w=[]):ZA (w::l) b=(w,l,b):=by unfold ZA;dsimp only;rw[jFj h]
theorem Qgf (l:List Wrd)(b:Bool):ZA ([]::l) b=([],[],true):=by unfold ZA;dsimp only;rw[jTj rfl]
def OkW (wsx:List Wrd):Prop:=wsx.length<=3000/\∀w,w∈wsx->w.length<=2000
theorem K7 {wsx:List Wrd}(b:Bool)(h:OkW wsx):OkW (ZA wsx b).2.1/\(ZA wsx b).1.length<=2000:=by
 unfold ZA;cases wsx with
 | nil=>exact⟨⟨by simp,fun w a=>by cases a⟩,by simp⟩
 | cons w l =>
  dsimp only;by_cases a:w=[]
  ·rw[jTj a];exact⟨⟨by simp,fun w a=>by cases a⟩,by simp⟩
  ·rw[jFj a];exact⟨⟨by have:=h.1;simp at this ⊢;omega,fun x c=>h.2 x (jmj _ c)⟩,h.2 w jMj⟩
theorem zf (w:Wrd):((mkS w).toList==(⟨#[]⟩:jSj).toList)=decide (w=[]):=Qfb w []
theorem Qby {L:List Wrd}{i:Nat}{w:Wrd}(h:L[i]?=some w):el Vg (L.map eS) (i:Int)=some (mkS w) :=
 UG (un:=Vg) (enc:=fun x:jSj=>(.v (.string x):D)) (fun _=>rfl) (l:=L.map mkS) (i:=i) (x:=mkS w) (by rw[List.getElem?_map,h];rfl) ▸ (by rw[List.map_map];rfl)
theorem yK (n:Nat){wsx:List Wrd}(b:Bool)(h:OkW wsx):Wt n (wsx.map eS) b=some (mkS (ZA wsx b).1,(ZA wsx b).2.1.map eS,(ZA wsx b).2.2):=by
 unfold Wt ZA;cases wsx with
 | nil=>rfl
 | cons w l =>
  have d:=h.1;simp only[List.length_cons] at d;have c:el Vg ((w::l).map eS) 0=some (mkS w):=Qby (i:=0) rfl;rw[jFj (by simp;omega),c,jBj,zf];by_cases a:w=[]
  ·rw[jTj (by simpa using a)];dsimp only;rw[jTj a];rfl
  ·rw[jFj (by simpa using a),jTj (by simp;omega)];dsimp only;rw[jFj a];rfl
theorem Qbd {n:Nat}(c:3000<=n){wsx:List Wrd}(b:Bool)(h:OkW wsx):Zp n (wsx.map eS) b=some ((UV wsx b).1,(UV wsx b).2.1.map eS,(UV wsx b).2.2):=by
 unfold Zp UV;rw[yK n b h,jBj];dsimp only;rw[QeQ c (K7 b h).2,jBj];by_cases a:(ZA wsx b).2.2=true
 ·rw[jTj a,jTj a]
 ·rw[jFj a,jFj a]
theorem QfC {wsx:List Wrd}(b:Bool)(h:OkW wsx):OkW (UV wsx b).2.1:=(K7 b h).1
def YK {a:Type}(f:List Wrd->Bool->a×List Wrd×Bool):Nat->List Wrd->Bool->List a×List Wrd×Bool
 | 0,wsx,b=>([],wsx,b)
 | k+1,wsx,b=>((f wsx b).1::(YK f k (f wsx b).2.1 (f wsx b).2.2).1,(YK f k (f wsx b).2.1 (f wsx b).2.2).2)
theorem QcR (wsx:List Wrd):(ZA wsx true).2.2=true:=by
 unfold ZA;cases wsx with
 | nil=>rfl
 | cons w l=>dsimp only;split<;>rfl
theorem QfF (wsx:List Wrd):(UV wsx true).2.2=true:=by unfold UV;rw[QcR];rfl
theorem wz {b:Type}{f:List Wrd->Bool->b×List Wrd×Bool}(a:∀wsx,(f wsx true).2.2=true):∀(k:Nat) (wsx:List Wrd),(YK f k wsx true).2.2=true
 | 0,wsx=>rfl
 | k+1,wsx=>by show(YK f k (f wsx true).2.1 (f wsx true).2.2).2.2=true;rw[a];exact wz a k _
theorem Qft {c:Type}{f:List Wrd->Bool->c×List Wrd×Bool}(a:∀{wsx} b,OkW wsx->OkW (f wsx b).2.1):∀(k:Nat) (wsx:List Wrd) (b:Bool),OkW wsx->OkW (YK f k wsx b).2.1
 | 0,wsx,b,h=>h
 | k+1,wsx,b,h=>Qft a k _ _ (a b h)
theorem jz {m:Type}{f:List Wrd->Bool->m×List Wrd×Bool}(g:Wrd->Option m)(b:∀wsx,(f wsx true).2.2=true)(d:(f [] false).2.2=true)
  (i:∀w l x,g w=some x->f (w::l) false=(x,l,false)) (j:∀w l,g w=none->(f (w::l) false).2.2=true):∀(k:Nat) (wsx:List Wrd),
  (∃xs,k<=wsx.length/\(wsx.take k).mapM g=some xs/\YK f k wsx false=(xs,wsx.drop k,false))\/(¬(k<=wsx.length/\((wsx.take k).mapM g).isSome=true)/\(YK f k wsx false).2.2=true)
 | 0,wsx=>.inl ⟨[],Nat.zero_le _,rfl,rfl⟩
 | k+1,[]=>by refine .inr ⟨fun h=>absurd h.1 (by simp),?_⟩;show(YK f k (f [] false).2.1 (f [] false).2.2).2.2=true;rw[d];exact wz b k _
 | k+1,w::l=>by
  cases hg:g w with
  | none =>
   refine .inr ⟨fun h=>?_,?_⟩
   ·have:=h.2;rw[List.take_succ_cons,List.mapM_cons,hg] at this;cases this
   ·show(YK f k (f (w::l) false).2.1 (f (w::l) false).2.2).2.2=true;rw[j w l hg];exact wz b k _
  | some x =>
   have e:YK f (k+1) (w::l) false=(x::(YK f k l false).1,(YK f k l false).2):=by show(_,_)=_;rw[i w l x hg]
   rw[e];obtain⟨xs,c,a,n⟩|⟨c,a⟩:=jz g b d i j k l
   ·refine .inl ⟨x::xs,by simp;omega,?_,?_⟩
    ·rw[List.take_succ_cons,List.mapM_cons,hg,a];rfl
    ·rw[n];rfl
   ·refine .inr ⟨fun h=>c ⟨by have:=h.1;simp at this;omega,?_⟩,a⟩;have:=h.2;rw[List.take_succ_cons,List.mapM_cons,hg] at this;cases hm:(l.take k).mapM g with
    | none=>rw[hm] at this;cases this
    | some _=>rfl
def nmG (w:Wrd):Option Wrd:=if w=[] then none else some w
theorem QeI (k:Nat)(wsx:List Wrd):(∃xs,k<=wsx.length/\(wsx.take k).mapM nmG=some xs/\YK ZA k wsx false=(xs,wsx.drop k,false))\/(¬(k<=wsx.length/\((wsx.take k).mapM nmG).isSome=true)/\(YK ZA k wsx false).2.2=true) :=
 jz nmG QcR rfl
  (fun w l x h=>by
   unfold nmG at h;split at h
   ·cases h
   ·rename_i a;cases h;unfold ZA;dsimp only;rw[jFj a])
  (fun w l h=>by
   unfold nmG at h;split at h
   ·rename_i a;unfold ZA;dsimp only;rw[jTj a]
   ·cases h) k wsx
theorem Qgg (k:Nat)(wsx:List Wrd):(∃xs,k<=wsx.length/\(wsx.take k).mapM num=some xs/\YK UV k wsx false=(xs,wsx.drop k,false))\/(¬(k<=wsx.length/\((wsx.take k).mapM num).isSome=true)/\(YK UV k wsx false).2.2=true) :=
 jz num QfF rfl
  (fun w l x h=>by
   have a:¬w=[]:=fun e=>by rw[e] at h;unfold num at h;rw[jFj (fun h:yk []=>h.1 rfl)] at h;cases h
   unfold UV;rw[yW false a,h,Qia h];rfl)
  (fun w l h=>by
   unfold UV;by_cases a:w=[]
   ·rw[a,Qgf];rfl
   ·rw[yW false a,h];rfl) k wsx
abbrev Tri:=Ki×List Wrd×List Int
def Jl:List Wrd->Option Tri
 | []=>none
 | w::rest=>match zl w with
  | none=>none
  | some k=>if rest.length=kn k+kv k then(((rest.take (kn k)).mapM nmG).bind fun ns=>((rest.drop (kn k)).mapM num).bind fun vs=>some (k,ns,vs)) else none
theorem jN (k:Ki):kn k<=2/\kv k<=5:=by cases k<;>decide
theorem Qh1 (k:Ki):∀(p:Nat),p<(kr k).length->Utf8.decode (mkS (kr k)) p=((Kf (mkS (kr k)) p),1):=by
 intro p hp;refine Ek ?_;have h:∀c,c∈kr k->c.toNat<128:=by cases k<;>decide
 obtain⟨x,a⟩:∃x,(kr k)[p]?=some x:=⟨_,jej hp⟩
 rw[kx a];exact h x (jgj a)
theorem QjA {b k:Nat}(a:b<=200)(h:k<=5000):Wi b k:=UO a h
theorem QdX (n:Nat)(d:Int){wsx:List Wrd}(b:Bool)(w:jSj)(k:Ki)(v:Int)(f g:FnD)(h:OkW wsx):∀(m p:Nat) (acc:List Wrd) (a:List Wrd) (c:Bool) (K:Nat),p+m=kn k->p=acc.length->OkW a->m<K->p≠0 ->
  QU (WA n d (w,wsx.map eS,b) (mkS (kr k),v,f,g)) K (.inr (a.map eS,c,p,acc.map eS))=some (.inr ((YK ZA m a c).2.1.map eS,(YK ZA m a c).2.2,(acc++(YK ZA m a c).1).map eS))
 | m,p,acc,a,c,0,_,_,_,hK,_=>absurd hK (by omega)
 | 0,p,acc,a,c,K+1,hp,ha,hu,hK,h0=>by
  rw[ZP (e:=.inr (a.map eS,c,acc.map eS))]
  ·simp only[YK,List.append_nil]
  unfold WA;dsimp only;rw[jFj (by rw[Qp];unfold kn at hp;omega)]
 | m+1,p,acc,a,c,K+1,hp,ha,hu,hK,h0=>by
  have j:=jN k;have i:=QdX n d b w k v f g h m (p+1) (acc++[(ZA a c).1]) (ZA a c).2.1 (ZA a c).2.2 K (by omega) (by simp;omega) (K7 c hu).1 (by omega) (by omega);rw[W8 (s':=.inr ((ZA a c).2.1.map eS,(ZA a c).2.2,p+1,(acc++[(ZA a c).1]).map eS)),i]
  ·simp only[YK,List.append_assoc,List.singleton_append]
  ·unfold WA;dsimp only;rw[jTj (by rw[Qp];unfold kn at hp;omega),yK n c hu,jBj,jTj (QjA (by decide) (by rw[jlj];omega)),Qh1 k p (by unfold kn at hp;omega),List.map_append];rfl
theorem QgS (n:Nat)(j:3000<=n)(e:Int){wsx:List Wrd}(b:Bool)(w:jSj)(k:Ki)(v:Int)(f g:FnD)(d:OkW wsx) :
  QU (WA n e (w,wsx.map eS,b) (mkS (kr k),v,f,g)) n (.inl ())=some (if kn k=0 then .inl () else .inr ((YK ZA (kn k) wsx b).2.1.map eS,(YK ZA (kn k) wsx b).2.2,(YK ZA (kn k) wsx b).1.map eS)):=by
 have i:=jN k;obtain⟨K,rfl⟩:∃K,n=K+1:=⟨n - 1,by omega⟩
 by_cases a:kn k=0
 ·rw[jTj a];refine ZP ?_;unfold WA;dsimp only;rw[jFj (by rw[Qp];unfold kn at a;omega)]
 ·rw[jFj a];obtain⟨m,c⟩:∃m,kn k=m+1:=⟨kn k - 1,by omega⟩
  have h:=QdX (K+1) e b w k v f g d m 1 [(ZA wsx b).1] (ZA wsx b).2.1 (ZA wsx b).2.2 K (by omega) rfl (K7 b d).1 (by omega) (by omega);rw[W8 (s':=.inr ((ZA wsx b).2.1.map eS,(ZA wsx b).2.2,1,[(ZA wsx b).1].map eS)),h,c]
  ·rfl
  ·unfold WA;dsimp only;rw[jTj (by rw[Qp];unfold kn at c;omega),yK _ b d,jBj,Qh1 k 0 (by unfold kn at c;omega)];rfl
theorem QfZ {n:Nat}(k:3000<=n){step:(Unit)⊕(Int×jVj×Bool×jVj)->Option ((Unit⊕Int×jVj×Bool×jVj)⊕Unit⊕jVj×Bool×jVj)}{V:Nat}{wsx:List Wrd}{b:Bool}(l:OkW wsx)(s:V<=5)
  (s1:step (.inl ())=if 0<(V:Int) then(Zp n (wsx.map eS) b).bind fun t=>some (.inl (.inr (1,t.2.1,t.2.2,[I t.1]))) else some (.inr (.inl ())))
  (o:∀(i:Int) (a:jVj) (c:Bool) (acc:jVj),step (.inr (i,a,c,acc))=if i<(V:Int) then(Zp n a c).bind fun t=>if Wi 8 (acc.length+1) then if Qg (i+1) then some (.inl (.inr (i+1,t.2.1,t.2.2,acc++([I t.1]:jVj)))) else none else none else some (.inr (.inr (a,c,acc)))) :
  QU step n (.inl ())=some (if V=0 then .inl () else .inr ((YK UV V wsx b).2.1.map eS,(YK UV V wsx b).2.2,(YK UV V wsx b).1.map I)):=by
 have main:∀(m p:Nat) (acc:List Int) (a:List Wrd) (c:Bool) (K:Nat),p+m=V->p=acc.length->OkW a->m<K ->
   QU step K (.inr ((p:Int),a.map eS,c,acc.map I))=some (.inr ((YK UV m a c).2.1.map eS,(YK UV m a c).2.2,(acc++(YK UV m a c).1).map I)):=by
  intro m;induction m with
  | zero =>
   intro p acc a c K hp q f d;obtain⟨K,rfl⟩:∃j,K=j+1:=⟨K - 1,by omega⟩
   rw[ZP (e:=.inr (a.map eS,c,acc.map I))]
   ·simp only[YK,List.append_nil]
   rw[o,jFj (by omega)]
  | succ m ih =>
   intro p acc a c K hp q f d;obtain⟨K,rfl⟩:∃j,K=j+1:=⟨K - 1,by omega⟩
   have h:=ih (p+1) (acc++[(UV a c).1]) (UV a c).2.1 (UV a c).2.2 K (by omega) (by simp;omega) (QfC c f) (by omega);rw[W8 (s':=.inr (((p+1:Nat):Int),(UV a c).2.1.map eS,(UV a c).2.2,(acc++[(UV a c).1]).map I)),h]
   ·simp only[YK,List.append_assoc,List.singleton_append]
   ·rw[o,jTj (by omega),Qbd k c f,jBj,jTj (QjA (by decide) (by rw[jlj];omega)),jTj (i64 (by omega) (by omega)),List.map_append];rfl
 obtain⟨K,d⟩:∃j,n=j+1:=⟨n - 1,by omega⟩
 by_cases g:V=0
 ·rw[jTj g,d];refine ZP ?_;rw[s1,jFj (by omega)]
 ·rw[jFj g];obtain⟨m,r⟩:∃m,V=m+1:=⟨V - 1,by omega⟩
  have h:=main m 1 [(UV wsx b).1] (UV wsx b).2.1 (UV wsx b).2.2 K (by omega) rfl (QfC b l) (by omega);rw[show QU step n (.inl ())=QU step (K+1) (.inl ()) by rw[<-d],W8 (s':=.inr (1,(UV wsx b).2.1.map eS,(UV wsx b).2.2,[(UV wsx b).1].map I))]
  ·rw[r];exact h
  ·rw[s1,jTj (by omega),Qbd k b l,jBj];rfl
def evX (wsx:List Wrd):Option (jSj×List Wrd×List Int×Bool):=match zl (ZA wsx false).1 with
 | none=>none
 | some k =>
  let r:=YK ZA (kn k) (ZA wsx false).2.1 (ZA wsx false).2.2
  let q:=YK UV (kv k) r.2.1 r.2.2
  some (mkS (ZA wsx false).1,r.1,q.1,if q.2.2=true then false else decide (q.2.1=[]))
theorem len0 (l:List Wrd):(((l.map eS).length:Int)==0)=decide (l=[]):=by
 cases l with
 | nil=>rfl
 | cons a l=>simp;omega
theorem Qcs (b d:Bool)(a:Int)(w:jSj)(ns vs:jVj):(if b=true then some (a,w,ns,vs,(⟨#[]⟩:jSj),false) else some (a,w,ns,vs,⟨#[]⟩,d))=some (a,w,ns,vs,⟨#[]⟩,if b=true then false else d):=by cases b<;>rfl
theorem uZ {n:Nat}(l:3000<=n)(i:Int){wsx:List Wrd}(e:OkW wsx):Yj n i (wsx.map eS)=some (match evX wsx with
  | none=>(0,⟨#[]⟩,[],[],⟨#[]⟩,false)
  | some (w,ns,vs,ok)=>(i,w,ns.map eS,vs.map I,⟨#[]⟩,ok)):=by
 unfold Yj evX;rw[yK n false e,jBj];dsimp only;cases hk:zl (ZA wsx false).1 with
 | none =>
  have m:¬(W5 (.string (mkS (ZA wsx false).1)) GB).isSome=true:=fun h=>by obtain⟨k,d⟩:=jw h;rw[VN] at d;exact jQ hk k d
  rw[jFj m]
 | some k =>
  obtain⟨p,f,g,q⟩:=yM (a:=mkS (ZA wsx false).1) (k:=k) (by rw[VN];exact JV hk);have o:=jN k;rw[jTj p,q,jBj,QgS n l i (ZA wsx false).2.2 (mkS (ZA wsx false).1) k (kv k:Int) f g (K7 false e).1,jBj];have r:OkW (YK ZA (kn k) (ZA wsx false).2.1 (ZA wsx false).2.2).2.1:=Qft (fun b h=>(K7 b h).1) _ _ _ (K7 false e).1;by_cases j:kn k=0
  ·rw[jTj j];dsimp only;rw[QfZ (V:=kv k) l (K7 false e).1 o.2 rfl (fun _ _ _ _=>rfl),jBj,j];by_cases c:kv k=0
   ·rw[jTj c,c];dsimp only[YK];rw[len0];exact Qcs _ _ _ _ _ _
   ·rw[jFj c];dsimp only[YK];rw[len0];exact Qcs _ _ _ _ _ _
  ·rw[jFj j];dsimp only;rw[QfZ (V:=kv k) l r o.2 rfl (fun _ _ _ _=>rfl),jBj];by_cases c:kv k=0
   ·rw[jTj c,c];dsimp only[YK];rw[len0];exact Qcs _ _ _ _ _ _
   ·rw[jFj c];dsimp only;rw[len0];exact Qcs _ _ _ _ _ _
theorem ux {b c:Type}{g:b->Option c}:∀{l:List b} {xs:List c},l.mapM g=some xs->xs.length=l.length
 | [],xs,h=>by cases h;rfl
 | a::l,xs,h=>by
  rw[List.mapM_cons] at h;cases ha:g a with
  | none=>rw[ha] at h;cases h
  | some x =>
   rw[ha] at h;cases hl:l.mapM g with
   | none=>rw[hl] at h;cases h
   | some ys =>
    rw[hl] at h;cases h;simp[ux hl]
theorem Qaa (wsx:List Wrd):(∀k ns vs,Jl wsx=some (k,ns,vs)->evX wsx=some (mkS (kw k),ns,vs,true))/\(Jl wsx=none->∀w ns vs ok,evX wsx=some (w,ns,vs,ok)->ok=false):=by
 cases wsx with
 | nil =>
  refine⟨fun k ns vs h=>(by cases h),fun _ w ns vs ok h=>?_⟩;unfold evX at h;rw[show zl (ZA [] false).1=none by decide] at h;cases h
 | cons w rest =>
  by_cases m:w=[]
  ·subst m;have e:zl []=none:=by decide
   have q:evX ([]::rest)=none:=by unfold evX;rw[show(ZA ([]::rest) false).1=[] by unfold ZA;dsimp only;rw[jTj rfl],e]
   refine⟨fun k ns vs h=>?_,fun _ w ns vs ok h=>?_⟩
   ·unfold Jl at h;dsimp only at h;rw[e] at h;cases h
   ·rw[q] at h;cases h
  ·have p:ZA (w::rest) false=(w,rest,false):=by unfold ZA;dsimp only;rw[jFj m]
   unfold evX Jl;rw[p];dsimp only;cases hk:zl w with
   | none=>exact⟨fun k ns vs h=>(by cases h),fun _ w ns vs ok h=>(by cases h)⟩
   | some k =>
    dsimp only;have f:=JV hk;obtain⟨xs,l,c,n⟩|⟨l,c⟩:=QeI (kn k) rest
    ·rw[n];dsimp only;obtain⟨ys,b1,d,o⟩|⟨b1,d⟩:=Qgg (kv k) (rest.drop (kn k))
     ·rw[o];dsimp only;rw[List.length_drop] at b1;by_cases a:rest.length=kn k+kv k
      ·have i:(rest.drop (kn k)).take (kv k)=rest.drop (kn k):=List.take_of_length_le (by simp;omega);have b:(rest.drop (kn k)).drop (kv k)=[]:=List.drop_eq_nil_of_le (by simp;omega);rw[i] at d;rw[jTj a,c,jBj,d,jBj,b];refine⟨fun j ns vs h=>?_,fun h=>(by cases h)⟩;cases h;rw[f];rfl
      ·rw[jFj a];refine⟨fun j ns vs h=>(by cases h),fun _ w' ns vs ok h=>?_⟩;have b:¬(rest.drop (kn k)).drop (kv k)=[]:=fun b=>a (by have:=List.drop_eq_nil_iff.1 b;simp at this;omega);cases h;simp[b];omega
     ·have g:¬rest.length=kn k+kv k\/(rest.drop (kn k)).mapM num=none:=by
       by_cases a:rest.length=kn k+kv k
       ·right;have i:(rest.drop (kn k)).take (kv k)=rest.drop (kn k):=List.take_of_length_le (by simp;omega);rw[i] at b1;cases hm:(rest.drop (kn k)).mapM num with
        | none=>rfl
        | some _=>exact absurd ⟨by simp;omega,by rw[hm];rfl⟩ b1
       ·exact .inl a
      have hp:(if rest.length=kn k+kv k then(((rest.take (kn k)).mapM nmG).bind fun ns=>((rest.drop (kn k)).mapM num).bind fun vs=>some (k,ns,vs)) else none)=none:=by
       obtain h|h:=g
       ·rw[jFj h]
       ·rw[h,c];split<;>rfl
      rw[hp];refine⟨fun j ns vs h=>(by cases h),fun _ w' ns vs ok h=>?_⟩;rw[jTj d] at h;cases h;rfl
    ·have hp:(if rest.length=kn k+kv k then(((rest.take (kn k)).mapM nmG).bind fun ns=>((rest.drop (kn k)).mapM num).bind fun vs=>some (k,ns,vs)) else none)=none:=by
      by_cases a:rest.length=kn k+kv k
      ·rw[jTj a];cases hm:(rest.take (kn k)).mapM nmG with
       | none=>rfl
       | some _=>exact absurd ⟨by omega,by rw[hm];rfl⟩ l
      ·rw[jFj a]
     rw[hp,c];refine⟨fun j ns vs h=>(by cases h),fun _ w' ns vs ok h=>?_⟩;rw[wz QfF,jTj rfl] at h;cases h;rfl
theorem Qd1 {e:Type}{d a:List e}{i:Nat}{x:e}(c:d.drop i=x::a):i<d.length/\d[i]?=some x/\d.drop (i+1)=a:=by
 have b:i<d.length:=by
  obtain h|h:=Nat.lt_or_ge i d.length
  ·exact h
  ·rw[List.drop_eq_nil_of_le h] at c;cases c
 have:=List.drop_eq_getElem_cons b;rw[c] at this;refine⟨b,?_,(List.cons.inj this).2.symm⟩;rw[jej b];exact congrArg some (List.cons.inj this).1.symm
theorem bnd {a b:Type}{q:Option a}{f:a->Option b}{x:a}{r:Option b}(h:q=some x)(e:f x=r):q.bind f=r:=by rw[h];exact e
def sumN:Nat->Wrd->Nat
 | x,[]=>x
 | x,b::l=>sumN ((353*x+b.toNat) % 9999649) l
theorem QlM:∀(l:Wrd) (x:Nat),x<9999649->sumN x l<9999649
 | [],_,h=>h
 | b::l,x,_=>QlM l _ (Nat.mod_lt _ (by decide))
theorem QlD {step:Int×Int->Option (Int×Int⊕Int)}(l:Wrd)(j:l.length<=2000)
  (h:∀x i:Int,step (x,i)=if i<((mkS l).size:Int) then(if Qg (353*x) then(UY (mkS l) i).bind fun b=>if Qg ((353*x)+(IntKind.wrap .i64 b)) then if Qg (i+1) then some (.inl ((Int.tmod ((353*x)+(IntKind.wrap .i64 b)) 9999649),(i+1))) else none else none else none) else some (.inr x)) :
  ∀(a:Wrd) (i x k:Nat),l.drop i=a->i<=l.length->x<9999649->a.length<k->QU step k ((x:Int),(i:Int))=some ((sumN x a:Nat):Int)
 | _,_,_,0,_,_,_,hk=>absurd hk (by omega)
 | [],i,x,k+1,hd,hi,_,_=>by
  have g:i=l.length:=by have:=List.drop_eq_nil_iff.1 hd;omega
  refine ZP ?_;rw[h,jFj (by rw[Qp];omega)];rfl
 | b::a,i,x,k+1,hd,hi,hx,hk=>by
  obtain⟨d,e,c⟩:=Qjo hd;have f:b.toNat<256:=b.toNat_lt;have n:=QlD l j h a (i+1) ((353*x+b.toNat) % 9999649) k c d (Nat.mod_lt _ (by decide)) (by simp at hk;omega);rw[W8 (s':=(((((353*x+b.toNat) % 9999649:Nat)):Int),((i+1:Nat):Int)))]
  ·exact n
  ·have m:IntKind.wrap .i64 (b.toNat:Int)=(b.toNat:Int):=Qem (i64 (by omega) (by omega));have hc:(353:Int)*(x:Int)+(b.toNat:Int)=((353*x+b.toNat:Nat):Int):=by simp
   rw[h,jTj (by rw[Qp];omega),jTj (i64 (by omega) (by omega)),Qhq,e,Option.map_some,jBj,m,jTj (i64 (by omega) (by omega)),jTj (i64 (by omega) (by omega)),hc];rfl
def digK:Nat->Nat->Wrd
 | 0,_=>[]
 | k+1,x=>digK k (x / 10)++[UInt8.ofNat (48+x % 10)]
theorem QlJ:∀(k x:Nat),(digK k x).length=k
 | 0,_=>rfl
 | k+1,x=>by unfold digK;simp[QlJ k]
def dig7 (l:Wrd):Wrd:=digK 7 (sumN 1 l)
theorem Qmr:∀k:Fin 10,IntKind.wrap .u8 (48+((k.val:Nat):Int))=((48+k.val:Nat):Int):=by decide
theorem Qmc {k:Nat}(h:k<10):IntKind.wrap .u8 (48+(k:Int))=((48+k:Nat):Int):=Qmr ⟨k,h⟩
theorem Qlk {n:Nat}(j:3000<=n){l:Wrd}(g:l.length<=2000):QkO n (mkS l)=some (mkS (dig7 l)):=by unfold QkO dig7;have d:QU (QkS n (mkS l)) n (1,0)=_:=QlD l g (fun _ _=>rfl) l 0 1 n rfl (Nat.zero_le _) (by decide) (by omega);have i:=QlM l 1 (by decide);rw[d,jBj];generalize sumN 1 l=x at i ⊢;have e:∀a:Nat,Int.tdiv (a:Int) 10=((a / 10:Nat):Int):=fun _=>rfl;have f:∀a:Nat,Int.tmod (a:Int) 10=((a % 10:Nat):Int):=fun _=>rfl;simp only[e,f];have m:∀a:Nat,a % 10<10:=fun a=>Nat.mod_lt _ (by decide);have b:∀a:Nat,Qg (48+((a % 10:Nat):Int)):=fun a=>i64 (by have:=m a;omega) (by have:=m a;omega);have c:∀a:Nat,a<9999649->Qg ((a / 10:Nat):Int):=fun a h=>i64 (by omega) (by omega);rw[jTj (b _),jTj (c _ (by omega)),jTj (b _),jTj (c _ (by omega)),jTj (b _),jTj (c _ (by omega)),jTj (b _),jTj (c _ (by omega)),jTj (b _),jTj (c _ (by omega)),jTj (b _),jTj (c _ (by omega)),jTj (b _),jTj (c _ (by omega))];simp only[Qmc (m _)];rfl
theorem Qli (l:Wrd):(dig7 l).length=7:=QlJ 7 _
theorem Qlq:∀(k x:Nat),US (digK k x)
 | 0,_=>fun c hc=>by cases hc
 | k+1,x=>QgJ.2 ⟨Qlq k _,Qbl (Nat.mod_lt _ (by decide))⟩
theorem Qlz {d:Type}{p:d->Bool}:∀{l:List d},l.dropWhile p=[]↔∀x,x∈l->p x=true
 | []=>⟨fun _ x b=>(by cases b),fun _=>rfl⟩
 | a::l=>by
  rw[List.dropWhile_cons];by_cases h:p a=true
  ·rw[jTj h,Qlz (l:=l)];constructor
   ·intro c x b;cases b with
    | head=>exact h
    | tail _ b=>exact c x b
   ·intro c x b;exact c x (jmj _ b)
  ·rw[jFj h];exact⟨fun e=>(by cases e),fun c=>absurd (c a jMj) h⟩
theorem QlT {d:Type}{p:d->Bool}:∀{l r:List d} {a:d},l.dropWhile p=a::r->¬p a=true
 | b::l,r,a,h=>by
  rw[List.dropWhile_cons] at h;by_cases c:p b=true
  ·rw[jTj c] at h;exact QlT h
  ·rw[jFj c] at h;cases h;exact c
theorem trim_nil {l cs:Wrd}:Lib.trimS l cs=[]↔∀x,x∈l->cs.contains x=true:=by
 unfold Lib.trimS Lib.trimLeftS Lib.trimRightS;rw[Qlz];constructor
 ·intro h;cases b:l.reverse.dropWhile (cs.contains ·) with
  | nil=>exact fun x c=>Qlz.1 b x (List.mem_reverse.2 c)
  | cons a r =>
   exact absurd (h a (by rw[b];simp)) (QlT b)
 ·intro h x c;have b:l.reverse.dropWhile (cs.contains ·)=[]:=Qlz.2 fun y d=>h y (List.mem_reverse.1 d);rw[b] at c;cases c
theorem QlI (b:UInt8):([48,49,50,51,52,53,54,55,56,57]:Wrd).contains b=true↔48<=b.toNat/\b.toNat<=57:=by
 rw[List.contains_iff_mem];constructor
 ·intro h;simp only[List.mem_cons,List.not_mem_nil,or_false] at h;obtain h|h|h|h|h|h|h|h|h|h:=h<;>subst h<;>decide
 ·intro h;have:b.toNat=48\/b.toNat=49\/b.toNat=50\/b.toNat=51\/b.toNat=52\/b.toNat=53\/b.toNat=54\/b.toNat=55\/b.toNat=56\/b.toNat=57:=by omega
  have e:∀c:UInt8,b.toNat=c.toNat->b=c:=fun c hc=>UInt8.toNat_inj.1 hc;obtain h|h|h|h|h|h|h|h|h|h:=this
  ·rw[e 48 h];decide
  ·rw[e 49 h];decide
  ·rw[e 50 h];decide
  ·rw[e 51 h];decide
  ·rw[e 52 h];decide
  ·rw[e 53 h];decide
  ·rw[e 54 h];decide
  ·rw[e 55 h];decide
  ·rw[e 56 h];decide
  ·rw[e 57 h];decide
theorem QlY (n:Nat){l:Wrd}(a:l.length<=2000):∃s,QkW n (mkS l) ⟨#[48,49,50,51,52,53,54,55,56,57]⟩=some s/\(s.toList==(⟨#[]⟩:jSj).toList)=decide (US l):=by
 refine⟨mkS (Lib.trimS l [48,49,50,51,52,53,54,55,56,57]),?_,?_⟩
 ·unfold QkW;rw[jTj ⟨by rw[Qp];omega,by decide,by decide⟩,VN];rfl
 ·rw[show(⟨#[]⟩:jSj)=mkS [] from rfl,Qfb];have:(Lib.trimS l [48,49,50,51,52,53,54,55,56,57]=[])↔US l:=trim_nil.trans ⟨fun h c hc=>(QlI c).1 (h c hc),fun h c hc=>(QlI c).2 (h c hc)⟩;by_cases h:US l
  ·rw[jDj h,jDj (this.2 h)]
  ·rw[jEj h,jEj (mt this.1 h)]
def evOf (m:Int)(t:Tri):Ev:=(m,mkS (kw t.1),t.2.1.map mkS,t.2.2,⟨#[]⟩)
def recX (l:Wrd):Ev⊕Int :=
 if l.length<8 then .inr 25
 else if l[l.length - 8]?=some 35/\US (l.drop (l.length - 8+1)) then
  if dig7 (l.take (l.length - 8))=l.drop (l.length - 8+1) then
   match spl 32 (l.take (l.length - 8)) with
   | []=>.inr 25
   | w::wsx=>match num w,Jl wsx with
    | some m,some t=>if chk (evOf m t)=0 then .inl (evOf m t) else .inr 25
    | _,_=>.inr 25
  else .inr 27
 else .inr 25
theorem Qey {wsx:List Wrd}{t:Tri}(h:Jl wsx=some t):t.2.1.length=kn t.1/\t.2.2.length=kv t.1/\∃w c,wsx=w::c/\w=kw t.1/\c.length=kn t.1+kv t.1/\t.2.1=c.take (kn t.1)/\(c.drop (kn t.1)).mapM num=some t.2.2:=by
 unfold Jl at h;cases wsx with
 | nil=>cases h
 | cons w c =>
  dsimp only at h;cases hk:zl w with
  | none=>rw[hk] at h;cases h
  | some k =>
   rw[hk] at h;dsimp only at h;split at h;case isFalse=>cases h
   rename_i f;cases ha:(c.take (kn k)).mapM nmG with
   | none=>rw[ha] at h;cases h
   | some a =>
    rw[ha,jBj] at h;cases hb:(c.drop (kn k)).mapM num with
    | none=>rw[hb] at h;cases h
    | some b =>
     rw[hb,jBj] at h;cases h;have i:=ux ha;have j:=ux hb;have e:∀{l a:List Wrd},l.mapM nmG=some a->a=l:=by
      intro l;induction l with
      | nil=>intro a h;cases h;rfl
      | cons x l ih =>
       intro a h;rw[List.mapM_cons] at h;unfold nmG at h;by_cases g:x=[]
       ·rw[jTj g] at h;cases h
       ·rw[jFj g] at h;cases f:l.mapM (fun w=>if w=[] then none else some w) with
        | none =>
         have d : l.mapM nmG=none:=f;change(some x >>= fun a=>(l.mapM nmG) >>= fun b=>pure (a::b))=some a at h;rw[d] at h;cases h
        | some b =>
         have d : l.mapM nmG=some b:=f;change(some x >>= fun a=>(l.mapM nmG) >>= fun b=>pure (a::b))=some a at h;rw[d] at h;cases h;rw[ih d]
     refine⟨by rw[i];simp;omega,by rw[j];simp;omega,w,c,rfl,JV hk,f,e ha,hb⟩
theorem Ql6 (ns:List Wrd):(ns.map mkS).map Sd=ns.map eS:=by rw[List.map_map];rfl
theorem Qb8 {p:Wrd}(h:p.length<=2000):OkW (spl 32 p):=by
 refine⟨by rw[qO];have:p.count 32<=p.length:=List.count_le_length;omega,fun w d=>?_⟩;have:∀{c:UInt8} {l w:Wrd},w∈spl c l->w.length<=l.length:=by
  intro c l w d;obtain⟨a,b,h⟩:=List.append_of_mem d;have e:=uL c l;rw[h] at e;rw[<-e];clear e h d;have glue_len:∀(L:List Wrd),w∈L->w.length<=(glue c L).length:=by
   intro L;induction L with
   | nil=>intro h;cases h
   | cons x L ih =>
    intro h;cases L with
    | nil =>
     cases h with
     | head=>exact jLj _
     | tail _ h=>cases h
    | cons y L =>
     show w.length<=(x++c::glue c (y::L)).length;cases h with
     | head=>simp
     | tail _ h=>have:=ih h;simp at this ⊢;omega
  exact glue_len _ (by simp)
 have:=this d;omega
theorem Qma {n:Nat}(r:3000<=n){p:Wrd}(hp:p.length<=2000){w:Wrd}{wsx:List Wrd}(f:spl 32 p=w::wsx){m:Int}{t:Tri}(g:Jl wsx=some t) :
  Wv n m (mkS (kw t.1)) (t.2.1.map eS) (t.2.2.map I) ⟨#[]⟩=some (chk (evOf m t)):=by
 obtain⟨k,l,w0,d,rfl,v,u,e,o⟩:=Qey g;have q:=jN t.1;have ok:=Qb8 hp;rw[f] at ok;have b:∀s,s∈(evOf m t).2.2.1->s.size<n:=fun s h=>by obtain⟨x,c,rfl⟩:=List.mem_map.1 h;rw[e] at c;have:=ok.2 x (jmj _ (jmj _ (List.mem_of_mem_take c)));rw[Qp];omega
 have i:(evOf m t).2.2.1.length<=6:=by show(t.2.1.map mkS).length<=6;rw[jlj];omega
 have j:(evOf m t).2.2.2.1.length<=8:=by show t.2.2.length<=8;omega
 have a:=Qcw (n:=n) (by omega) (evOf m t) i j b;unfold evOf at a;dsimp only at a;rw[Ql6] at a;exact a
def Qmp (x:Ev⊕Int)(num:Int):Int×jSj×jVj×jVj×jSj×Int:=match x with
 | .inl e=>(e.1,e.2.1,e.2.2.1.map Sd,e.2.2.2.1.map I,e.2.2.2.2,QD (e.1 != num) 11)
 | .inr e=>(0,⟨#[]⟩,[],[],⟨#[]⟩,e)
theorem Qmg {n:Nat}(j:3000<=n){l:Wrd}(K:l.length<=2000)(A:Int):QkN n (mkS l) A=some (Qmp (recX l) A):=by
 unfold QkN recX;rw[Qp,jTj (i64 (by omega) (by omega)),jTj (i64 (by omega) (by omega))];by_cases z:l.length<8
 ·rw[jTj (by omega),jTj z];rfl
 rw[jFj (by omega),jFj z];obtain⟨q,C⟩:∃q,l.length - 8=q:=⟨_,rfl⟩
 have o:((l.length:Int) - 7) - 1=(q:Int):=by omega
 have E:q+8=l.length:=by omega
 rw[o,C,Qhq];obtain⟨c,hc⟩:∃c,l[q]?=some c:=⟨_,jej (by omega)⟩
 rw[hc,Option.map_some,jBj];by_cases f:c=35;case neg =>
  have g : ¬((c.toNat:Int)=35):=fun e=>f (UInt8.toNat_inj.1 (by show c.toNat=35;omega));rw[jFj g,jFj (fun h=>f (Option.some.inj h.1))];rfl
 subst f;rw[jTj (by decide),jTj (i64 (by omega) (by omega)),show(q:Int)+1=((q+1:Nat):Int) from rfl,Qhp l (by omega),jBj];obtain⟨s,s1,G⟩:=QlY n (l:=l.drop (q+1)) (by simp;omega);rw[s1,jBj,G];by_cases b:US (l.drop (q+1));case neg=>rw[jTj (by rw[jEj b];rfl),jFj (fun h=>b h.2)];rfl
 rw[jFj (by rw[jDj b];decide),jTj ⟨rfl,b⟩,QjT l (by omega),jBj,Qlk j (by simp;omega),jBj,Qfb];by_cases d:dig7 (l.take q)=l.drop (q+1);case neg=>rw[jTj (by rw[jEj d];rfl),jFj d];rfl
 rw[jFj (by rw[jDj d];decide),jTj d];have hp:(l.take q).length<=2000:=by simp;omega
 generalize l.take q=p at hp ⊢;rw[ue j hp,jBj];have ok:=Qb8 hp;cases hs:spl 32 p with
 | nil=>exact absurd hs (zK 32 p)
 | cons w wsx =>
  have k:el Vg ((w::wsx).map eS) 0=some (mkS w):=Qby (i:=0) rfl;rw[hs] at ok;have y:OkW wsx:=⟨by have:=ok.1;simp at this;omega,fun x F=>ok.2 x (jmj _ F)⟩
  have u:=ok.1;simp only[List.length_cons] at u;rw[k,jBj,QeQ j (ok.2 w jMj),jBj,jTj (by simp;omega)];dsimp only;rw[show((w::wsx).map eS).drop (Int.toNat 1)=wsx.map eS from rfl,uZ j _ y,jBj];obtain⟨H,J⟩:=Qaa wsx;cases hnum:num w with
  | none=>rw[jFj (by simp)];rfl
  | some m =>
   rw[jTj (show(some m).isSome=true from rfl),Qia hnum];cases hpw:Jl wsx with
   | none =>
    cases hev:evX wsx with
    | none=>rw[jFj (by simp)];rfl
    | some r =>
     obtain⟨w',ns,vs,v⟩:=r;have:=J hpw w' ns vs v hev;subst this;rw[jFj (by simp)];rfl
   | some t =>
    have hev:=H t.1 t.2.1 t.2.2 hpw;rw[hev];dsimp only;rw[jTj rfl,Qma j hp hs hpw,jBj];by_cases a:chk (evOf m t)=0
    ·rw[jTj a,jTj a,QR,jBj];show _=some (m,mkS (kw t.1),(t.2.1.map mkS).map Sd,t.2.2.map I,(⟨#[]⟩:jSj),_);rw[Ql6];rfl
    ·rw[jFj a,jFj a];rfl
def recP:List Wrd->Nat->List Ev×Nat×Int
 | [],_=>([],0,0)
 | [p],_=>([],0,if p=[] then 0 else 28)
 | p::q::L,k=>match recX p with
  | .inr e=>([],0,e)
  | .inl a=>if a.1=(k:Int)+1 then(a::(recP (q::L) (k+1)).1,p.length+1+(recP (q::L) (k+1)).2.1,(recP (q::L) (k+1)).2.2) else([],0,11)
theorem QlF {l:Wrd}{e:Int}(h:recX l=.inr e):e=25\/e=27:=by
 unfold recX at h;repeat' split at h
 all_goals first|(cases h;exact .inl rfl)|(cases h;exact .inr rfl)|cases h
theorem QlS (n:Nat)(l:Wrd):QkM n (mkS l)=some (Lib.indexByte l 10):=by
 unfold QkM;have e:(⟨#[10]⟩:jSj)=mkS [10]:=rfl;rw[e,Qfb];by_cases h:[10]=l
 ·rw[jTj (jDj h),<-h];rfl
 ·rw[jFj (by simpa using h)];unfold Un;rw[VN];rfl
theorem Qmn (n:Nat){a b:Wrd}(h:(10:UInt8)∉a)(d:(a++10::b).length<=2000):QkR n (mkS (a++10::b))=some (mkS a,mkS b,true):=by
 unfold QkR QkQ;have c:a.length+b.length+1<=2000:=by simp at d;omega
 rw[QlS,jBj,Qbn b h,jTj (by omega),QjT _ (by simp),jBj,jTj (i64 (by omega) (by omega)),show(a.length:Int)+1=((a.length+1:Nat):Int) from rfl,Qhp _ (by simp),jBj];simp
theorem Ql9 (n:Nat){a:Wrd}(h:(10:UInt8)∉a):QkR n (mkS a)=some (mkS a,⟨#[]⟩,false):=by unfold QkR QkQ;rw[QlS,jBj,Qlp h,jFj (by decide)];rfl
theorem QlV {s p q:Wrd}{L:List Wrd}(h:spl 10 s=p::q::L):∃s',s=p++10::s'/\(10:UInt8)∉p/\spl 10 s'=q::L:=by have c:=uL 10 s;have a:=fun x b=>Qlh 10 s x b;rw[h] at c a;refine⟨glue 10 (q::L),c.symm,a p jMj,Qc6 10 _ (by simp) fun x b=>a x (jmj _ b)⟩
theorem Qmd {s p:Wrd}(h:spl 10 s=[p]):s=p/\(10:UInt8)∉s:=by have a:=uL 10 s;have b:=Qlh 10 s p (by rw[h];simp);rw[h] at a;have:s=p:=a.symm;exact⟨this,by rw[this];exact b⟩
theorem Qmu {k:Nat}(h:k<=5000):Wi 88 k:=QjA (by decide) h
def rcvE (a:Nat)(acc:List Ev)(r:List Ev×Nat×Int):(Int×Int×jVj)⊕(Int×jVj) :=
 if r.2.2=0 then .inr (((a+r.2.1:Nat):Int),(acc++r.1).map Q5) else .inl (((a+r.2.1:Nat):Int),r.2.2,(acc++r.1).map Q5)
theorem QlH {n:Nat}(v:3000<=n)(l:Wrd)(y:l.length<=2000):∀(L:List Wrd) (s:Wrd) (a:Nat) (acc:List Ev) (K:Nat),spl 10 s=L->l.drop a=s->a<=l.length->acc.length<=a->L.length<K ->
  QU (QkJ n (mkS l)) K ((a:Int),acc.map Q5)=some (rcvE a acc (recP L acc.length))
 | _,_,_,_,0,_,_,_,_,h=>absurd h (by omega)
 | [],s,_,_,_+1,hs,_,_,_,_=>absurd hs (zK 10 s)
 | [p],s,a,acc,K+1,hs,hd,ha,hc,hK=>by
  obtain⟨rfl,o⟩:=Qmd hs;refine ZP ?_;unfold QkJ recP rcvE;dsimp only;by_cases hp:s=[]
  ·subst hp;have:a=l.length:=by have:=List.drop_eq_nil_iff.1 hd;omega
   rw[jFj (by rw[Qp];omega),jTj rfl];simp
  ·have A:a<l.length:=by
    obtain h|h:=Nat.lt_or_ge a l.length
    ·exact h
    ·rw[List.drop_eq_nil_of_le h] at hd;exact absurd hd.symm hp
   rw[jTj (by rw[Qp];omega),Qhp l ha,hd,jBj,Ql9 n o,jBj,jFj (show ¬(false=true) by decide)];rw[jFj hp,jFj (by decide)];simp
 | p::q::L,s,a,acc,K+1,hs,hd,ha,hc,hK=>by
  obtain⟨s',rfl,o,t⟩:=QlV hs;have g:(p++10::s').length=l.length - a:=by rw[<-hd];simp
  have z:p.length+s'.length+1=l.length - a:=by simp at g;omega
  have f:=Qmn n (a:=p) (b:=s') o (by omega);have i:∀r,QkN n (mkS p) (((acc.map Q5).length:Int)+1)=some (Qmp r (((acc.map Q5).length:Int)+1))->recX p=r->QkJ n (mkS l) ((a:Int),acc.map Q5)=(match r with
    | .inr e=>some (.inr (.inl ((a:Int),e,acc.map Q5)))
    | .inl ev=>if ev.1=(acc.length:Int)+1 then some (.inl (((a+(p.length+1):Nat):Int),(acc++[ev]).map Q5)) else some (.inr (.inl ((a:Int),11,acc.map Q5)))):=by
   intro r k j;unfold QkJ;dsimp only;rw[jlj] at k ⊢;rw[jTj (by rw[Qp];omega),Qhp l ha,hd,jBj,f,jBj,jTj rfl,jTj (i64 (by omega) (by omega))];cases r with
   | inr e =>
    have x:=QlF j;have d : QkN n (mkS p) ((acc.length:Int)+1)=some (0,⟨#[]⟩,[],[],⟨#[]⟩,e):=k;rw[d,jBj];dsimp only;rw[jFj (by omega)]
   | inl ev =>
    dsimp only;by_cases hev:ev.1=(acc.length:Int)+1
    ·have u:QD (ev.1 != (acc.length:Int)+1) 11=0:=by rw[hev];simp[QD]
     have d : QkN n (mkS p) ((acc.length:Int)+1)=some (ev.1,ev.2.1,ev.2.2.1.map Sd,ev.2.2.2.1.map I,ev.2.2.2.2,0):=by rw[k,<-u];rfl
     rw[d,jBj,jTj hev];dsimp only;rw[jTj rfl,jTj (Qmu (by omega)),Qp,jTj (i64 (by omega) (by omega)),jTj (i64 (by omega) (by omega)),List.map_append];rfl
    ·have u:QD (ev.1 != (acc.length:Int)+1) 11=11:=by simp[QD,hev]
     have d : QkN n (mkS p) ((acc.length:Int)+1)=some (ev.1,ev.2.1,ev.2.2.1.map Sd,ev.2.2.2.1.map I,ev.2.2.2.2,11):=by rw[k,<-u];rfl
     rw[d,jBj,jFj hev];dsimp only;rw[jFj (by decide)]
  have c:=i (recX p) (Qmg v (by omega) _) rfl;unfold recP;cases j:recX p with
  | inr e =>
   rw[j] at c;have x:=QlF j;refine(ZP c).trans ?_;unfold rcvE;dsimp only;rw[jFj (by omega)];simp
  | inl ev =>
   rw[j] at c;dsimp only at c ⊢;by_cases hev:ev.1=(acc.length:Int)+1
   ·rw[jTj hev] at c ⊢;have m : l.drop (a+(p.length+1))=s':=by rw[<-List.drop_drop,hd];simp
    have w:=QlH v l y (q::L) s' (a+(p.length+1)) (acc++[ev]) K t m (by omega) (by simp;omega) (by simp at hK ⊢;omega);rw[jaj,List.length_singleton] at w;refine(W8 c).trans (w.trans ?_);unfold rcvE;dsimp only;rw[List.append_assoc,List.singleton_append,show a+(p.length+1)+(recP (q::L) (acc.length+1)).2.1=a+(p.length+1+(recP (q::L) (acc.length+1)).2.1) by omega]
   ·rw[jFj hev] at c ⊢;refine(ZP c).trans ?_;unfold rcvE;simp
theorem QlK {n:Nat}(d:3000<=n){l:Wrd}(c:l.length<=2000):QkU n (mkS l)=some ((recP (spl 10 l) 0).1.map Q5,((recP (spl 10 l) 0).2.1:Int),(recP (spl 10 l) 0).2.2):=by
 unfold QkU;have b:l.count 10<=l.length:=List.count_le_length;have h:QU (QkJ n (mkS l)) n (0,[])=_:=QlH d l c (spl 10 l) l 0 [] n rfl rfl (Nat.zero_le _) (jLj _) (by rw[qO];omega);rw[jFj (by rw[Qp];omega),h,jBj];unfold rcvE;simp only[List.length_nil,List.nil_append,Nat.zero_add];by_cases a:(recP (spl 10 l) 0).2.2=0
 ·rw[jTj a];dsimp only;rw[a]
 ·rw[jFj a]
abbrev dat (s:jSj):Wrd:=s.data.toList
def VX (e:Ev):List Wrd:=Lib.itoa e.1::dat e.2.1::(e.2.2.1.map dat++e.2.2.2.1.map Lib.itoa)
def Qf5 (e:Ev):Wrd:=Lib.join (VX e) [32]
def recL (e:Ev):Wrd:=Qf5 e++35::dig7 (Qf5 e)++[10]
theorem map_dat (l:List jSj):(l.map dat).map eS=l.map Sd:=by rw[List.map_map];exact List.map_congr_left fun s _=>by show eS (dat s)=Sd s;unfold eS dat;rw[UA]
theorem qV (l:List Wrd):(l.map mkS).map dat=l:=by
 rw[List.map_map];conv=>rhs;rw[<-List.map_id l]
 exact List.map_congr_left fun p _=>VN p
theorem Qbp (c:UInt8):∀L:List Wrd,glue c L=Lib.join L [c]
 | []=>rfl
 | [p]=>(Lib.join_one p [c]).symm
 | p::q::L=>by show p++c::glue c (q::L)=_;rw[Qbp c (q::L),Lib.join_cons,Lib.join_cons];simp[Lib.joinTail]
theorem uH (n:Nat){a:Int}(h:Qg a):Wr n a=some (mkS (Lib.itoa a)):=by unfold Wr;rw[jTj h];rfl
theorem Qfp:∀L:List Wrd,jx (L.map eS)=some (L.map mkS)
 | []=>rfl
 | p::L=>by rw[jCj,jx,show JY (eS p)=some (mkS p) from rfl,Qfp L];rfl
theorem Qje (n:Nat)(L:List Wrd)(sep:Wrd)(a:L.length<=1000000)(b:(Lib.join L sep).length<=1000000):ZI n (L.map eS) (mkS sep)=some (mkS (Lib.join L sep)):=by unfold ZI;rw[Qfp,jBj];have e:(L.map mkS).map (·.data.toList)=L:=qV L;unfold QjE;rw[e,VN,jTj ⟨by rw[jlj];omega,by omega⟩];rfl
theorem QfO {n:Nat}(d:3000<=n)(l:List Int)(c:l.length<=60)(h:∀v,v∈l->Qg v):Wu n (l.map I)=some ((l.map Lib.itoa).map eS):=by
 unfold Wu;have:=Y4 (step:=WK n (l.map I)) (E:=jVj) (fun out=>out) l (fun v=>[eS (Lib.itoa v)]) (fun _=>jLj _)
  (fun i out x a e=>by have hi:=(jGj a).1;have b:=h x (jgj a);unfold WK;dsimp only;rw[jTj (ZF a),Ei a,jBj,uH n b,jBj,jTj (UO (by decide) (by omega)),jTj (by unfold Qg;omega)];rfl)
  (fun out _=>by unfold WK;dsimp only;rw[jFj (by simp)]) (k:=n) (by omega)
 rw[this,jBj,wQ,List.map_map];rfl
theorem ub (b:Nat):∀(L:List Wrd),(∀w,w∈L->w.length<=b)->(Lib.joinTail [32] L).length<=(b+1)*L.length
 | [],_=>by simp[Lib.joinTail]
 | w::L,h=>by have d:=h w jMj;have a:=ub b L fun x c=>h x (jmj _ c);simp only[Lib.joinTail,jCj,List.flatten_cons,jaj,List.length_cons,List.length_nil] at a ⊢;rw[Nat.mul_add];omega
theorem QhZ (k:Ki):(kw k).length<=7:=by cases k<;>decide
theorem QeT {e:Ev}{k:Ki}(a:Good e k):(VX e).length<=9/\∀w,w∈VX e->w.length<=24:=by
 have g:=jN k;have c:=QhZ k;refine⟨?_,fun w b=>?_⟩
 ·have:=a.names;have:=a.vals;unfold VX;simp;omega
 ·unfold VX at b;obtain h|h:=List.mem_cons.1 b
  ·rw[h];have:=qa (n:=e.1) (by have:=a.num;omega) (by have:=a.num;omega);omega
  obtain h|h:=List.mem_cons.1 h
  ·rw[h];show e.2.1.data.toList.length<=24;rw[a.kind];omega
  obtain h|h:=List.mem_append.1 h
  ·obtain⟨s,d,rfl⟩:=List.mem_map.1 h;have:=a.name s d;unfold Yw at this;simp only[jAj,decide_eq_true_eq] at this;show s.data.toList.length<=24;rw[dlen];omega
  ·obtain⟨v,f,rfl⟩:=List.mem_map.1 h;have:=a.val v f;have:=qa (n:=v) (by omega) (by omega);omega
theorem Qiv {e:Ev}{k:Ki}(d:Good e k):(Qf5 e).length<=300:=by obtain⟨b,a⟩:=QeT d;unfold Qf5;unfold VX at b a ⊢;rw[Lib.join_cons,jaj];have g:=a _ jMj;have c:=ub 24 _ fun w f=>a w (jmj _ f);simp only[List.length_cons] at b c;omega
theorem QhN {a:Type}(f:a->D)(l:List a):Vk (l.map f)=true↔l=[]:=by cases l<;>simp[Vk]
theorem Qmo {n:Nat}(i:3000<=n){e:Ev}{k:Ki}(b:Good e k):QkZ n e.1 e.2.1 (e.2.2.1.map Sd) (e.2.2.2.1.map I) e.2.2.2.2=some (mkS (Qf5 e)):=by
 have o:=jN k;have j:=b.names;have l:=b.vals;have h:=Qje n (VX e) [32] (by have:=(QeT b).1;omega) (by have:=Qiv b;unfold Qf5 at this;omega);have f:=QfO i e.2.2.2.1 (by omega) fun v g=>i64 (by have:=b.val v g;omega) (by have:=b.val v g;omega);have m:(VX e).map eS=.v (.string (mkS (Lib.itoa e.1)))::.v (.string e.2.1)::(e.2.2.1.map Sd++(e.2.2.2.1.map Lib.itoa).map eS):=by unfold VX;rw[jCj,jCj,List.map_append,map_dat];show eS (Lib.itoa e.1)::eS (dat e.2.1)::_=_;rw[show eS (dat e.2.1)=.v (.string e.2.1) by unfold eS dat;rw[UA]];rfl
 have a : ZI n (.v (.string (mkS (Lib.itoa e.1)))::.v (.string e.2.1)::(e.2.2.1.map Sd++(e.2.2.2.1.map Lib.itoa).map eS)) ⟨#[32]⟩=some (mkS (Qf5 e)):=by rw[<-m];exact h
 unfold QkZ;rw[uH n (i64 (by have:=b.num;omega) (by have:=b.num;omega)),jBj,jTj (QjA (by decide) (by simp;omega))];by_cases c:e.2.2.1=[]
 ·rw[jTj ((QhN _ _).2 c),f,jBj,jTj (QjA (by decide) (by simp;omega))];rw[c,jnj,List.nil_append] at a;by_cases d:e.2.2.2.1.map Lib.itoa=[]
  ·rw[jTj ((QhN _ _).2 d)];rw[d,jnj] at a;rw[a];rfl
  ·rw[jFj (mt (QhN _ _).1 d),a];rfl
 ·rw[jFj (mt (QhN _ _).1 c),f,jBj,jTj (QjA (by decide) (by simp;omega)),a];rfl
theorem QlE {n:Nat}(d:3000<=n){e:Ev}{k:Ki}(c:Good e k):QkX n e.1 e.2.1 (e.2.2.1.map Sd) (e.2.2.2.1.map I) e.2.2.2.2=some (mkS (recL e)):=by have f:=Qiv c;have g:=Qli (Qf5 e);unfold QkX;have b:(⟨#[35]⟩:jSj)=mkS [35]:=rfl;have a:(⟨#[10]⟩:jSj)=mkS [10]:=rfl;rw[Qmo d c,jBj,b,a,jTj (by rw[Qp,Qp];simp;omega),Qlk d (by omega),jBj,Qat,Qat,Qat,jTj (by rw[Qp,Qp];simp;omega),jTj (by rw[Qp,Qp];simp;omega)];unfold recL;simp
theorem Qmf {e:Ev}{k:Ki}(a:Good e k):(recL e).length<=310:=by have b:=Qiv a;have c:=Qli (Qf5 e);unfold recL;simp;omega
theorem QrT:∀(L:List Wrd) (k:Nat),(recP L k).1.length<=L.length
 | [],_=>jLj _
 | [p],_=>Nat.zero_le _
 | p::q::L,k=>by
  unfold recP;cases hx:recX p with
  | inr e=>exact Nat.zero_le _
  | inl ev =>
   dsimp only;by_cases hev:ev.1=(k:Int)+1
   ·rw[jTj hev];have:=QrT (q::L) (k+1);simp at this ⊢;omega
   ·rw[jFj hev];exact Nat.zero_le _
abbrev Qrv (l:Wrd):List Ev:=(recP (spl 10 l) 0).1
abbrev Qr0 (l:Wrd):Int:=(recP (spl 10 l) 0).2.2
theorem Qtm {l:Wrd}(c:l.length<=2000):(Qrv l).length<=2001:=by have a:=QrT (spl 10 l) 0;have b:l.count 10<=l.length:=List.count_le_length;rw[qO] at a;show(recP (spl 10 l) 0).1.length<=2001;omega
theorem QsK {n:Nat}(f:3000<=n){l:Wrd}(d:l.length<=2000){e:Ev}(g:QnI e):Qob n (mkS l) e.1 e.2.1 (e.2.2.1.map Sd) (e.2.2.2.1.map I) e.2.2.2.2 =
  some (if QK [Qr0 l,chk e,QD (e.1 != ((Qrv l).length:Int)+1) 11]=0 then(mkS (l++recL e),0) else(⟨#[]⟩,QK [Qr0 l,chk e,QD (e.1 != ((Qrv l).length:Int)+1) 11])):=by
 have a:=Qtm d;have b:(recP (spl 10 l) 0).1.length<=2001:=a;unfold Qob;rw[QlK f d,jBj,VS (by omega) e g,jBj];dsimp only;rw[jlj,jTj (i64 (by omega) (by omega)),QR,jBj,uT (by omega),jBj];by_cases h:QK [Qr0 l,chk e,QD (e.1 != ((Qrv l).length:Int)+1) 11]=0
 ·have hc:=Zl h (chk e) (by simp);obtain⟨k,c⟩:=Qec hc;have i:=Qmf c;rw[jTj h,jTj h,QlE f c,jBj,jTj (by rw[Qp,Qp];omega),Qat,jFj (by rw[Qp];simp;omega)]
 ·rw[jFj h,jFj h]
def Qay (r:Reg):List Wrd:=(kD r.mirrors).map dat
theorem Qgu {n:Nat}(g j:jVj)(o p:Int)(r t:Bool)(u v w:Int)(d f:jVj)(ms:List Mir)(z:ms.length<=4000)(y:ms.length<n) :
  QU (Zk n g j o p r t u v w d (ms.map Q1) f) n (.inl 0)=some (if ms.filter isA=[] then .inl () else .inr ((ms.filter isA).map Q1)):=by
 have q:=Vr (step:=Zk n g j o p r t u v w d (ms.map Q1) f) (E:=Unit⊕jVj) (fun(s:List Mir) (m:Mir)=>.inl (if isA m=true then s++[m] else s)) (fun s=>if s=[] then .inl () else .inr (s.map Q1))
  (fun i s=>if s=[] then .inl (i:Int) else .inr ((i:Int),s.map Q1)) ms (fun i s=>s.length<=i)
  (fun i s m c A=>by
   have hi:=(jGj c).1;refine⟨?_,by
    show(if isA m=true then s++[m] else s).length<=i+1;split
    ·rw[jaj,List.length_singleton];omega
    ·omega⟩
   by_cases b:s=[]
   ·subst b;rw[jTj rfl];unfold Zk;dsimp only;rw[jTj (ZF c),jTj ⟨Int.natCast_nonneg i,ZF c⟩,Zc unM c,jBj];unfold isA;by_cases a:m.2.2.2.2.2=true
    ·rw[jTj a,jTj a,jTj (by unfold Qg;omega),jFj (by simp)];rfl
    ·rw[jFj a,jFj a,jTj (by unfold Qg;omega),jTj rfl];rfl
   ·rw[jFj b];unfold Zk;dsimp only;rw[jTj (ZF c),jTj ⟨Int.natCast_nonneg i,ZF c⟩,Zc unM c,jBj];unfold isA;by_cases a:m.2.2.2.2.2=true
    ·rw[jTj a,jTj a,jTj (UO (by decide) (by rw[jlj];omega)),jTj (by unfold Qg;omega),jFj (by simp),List.map_append];rfl
    ·rw[jFj a,jFj a,jTj (by unfold Qg;omega),jFj b];rfl)
  (fun s _=>by
   by_cases b:s=[]
   ·subst b;rw[jTj rfl,jTj rfl];unfold Zk;dsimp only;rw[jFj (by simp)]
   ·rw[jFj b,jFj b];unfold Zk;dsimp only;rw[jFj (by simp)]) (s:=[]) (k:=n) (jLj _) y
 have e:∀(l:List Mir) (s:List Mir),Kw (E:=Unit⊕jVj) (fun(s:List Mir) (m:Mir)=>.inl (if isA m=true then s++[m] else s)) (fun s=>if s=[] then .inl () else .inr (s.map Q1)) l s=(if s++l.filter isA=[] then .inl () else .inr ((s++l.filter isA).map Q1)):=by
  intro l;induction l with
  | nil=>intro s;simp[Kw]
  | cons x l ih =>
   intro s;show Kw (E:=Unit⊕jVj) (fun(s:List Mir) (m:Mir)=>.inl (if isA m=true then s++[m] else s)) (fun s=>if s=[] then .inl () else .inr (s.map Q1)) l (if isA x=true then s++[x] else s)=_;rw[ih];by_cases h:isA x=true
   ·rw[jTj h,List.filter_cons_of_pos h,List.append_assoc];rfl
   ·rw[jFj h,List.filter_cons_of_neg h]
 rw[e] at q;exact q
theorem QiU {n:Nat}(j:3000<=n)(x:jSj)(d e:jVj){c:Nat}{r:Reg}(h:Inv c r)(hc:c<=40):VB n x d e r.tick r.level r.filled r.tripped r.light r.heat r.money (r.sectors.map Sd) (r.mirrors.map Q1) (r.offers.map Zs)=some ((Qay r).map eS):=by
 have g:=h.lenM;have f:(r.mirrors.filter isA).length<=r.mirrors.length:=List.length_filter_le _ _;unfold VB Qay;rw[Qgu _ _ _ _ _ _ _ _ _ _ _ r.mirrors (by omega) (by omega),jBj,map_dat];unfold kD;by_cases b:r.mirrors.filter isA=[]
 ·rw[jTj b,b];rfl
 ·rw[jFj b];dsimp only;have q:=Y4 (step:=Wm n d e r.tick r.level r.filled r.tripped r.light r.heat r.money (r.sectors.map Sd) (r.mirrors.map Q1) (r.offers.map Zs) ((r.mirrors.filter isA).map Q1)) (E:=jVj) (fun out=>out) (r.mirrors.filter isA) (fun x=>[Sd x.1]) (fun _=>jLj _)
   (fun i out x a l=>by have hi:=(jGj a).1;unfold Wm QZ;dsimp only;rw[jTj (ZF a),jTj ⟨Int.natCast_nonneg i,ZF a⟩,Zc unM a,jBj,jBj,jTj (UO (by decide) (by omega)),jTj (by unfold Qg;omega)];rfl)
   (fun out _=>by unfold Wm;dsimp only;rw[jFj (by simp)]) (k:=n) (by omega)
  rw[q,jBj,wQ,List.map_map];rfl
theorem Qbc (s:jSj):∀(m p:Nat),E4 s m p=true->∀i,p<=i->i<p+m->yG i (Kf s i)
 | 0,p,_,i,h1,h2=>absurd h2 (by omega)
 | m+1,p,h,i,h1,h2=>by
  unfold E4 at h;simp only[jAj,decide_eq_true_eq] at h;by_cases hi:i=p
  ·subst hi;exact h.1
  ·exact Qbc s m (p+1) h.2 i (by omega) (by omega)
theorem QeJ {s:jSj}(h:Yw s=true):∀c,c∈dat s->48<=c.toNat:=fun c hc=>by
 unfold Yw at h;simp only[jAj,decide_eq_true_eq] at h;obtain⟨i,hi,e⟩:=List.mem_iff_getElem.1 hc;have d:(dat s)[i]?=some c:=by rw[jej hi,e]
 have a:=kx d;rw[show mkS (dat s)=s from UA s] at a;have b:=Qbc s s.size 0 h.2 i (Nat.zero_le _) (by rw[<-dlen s];show i<0+(dat s).length;omega);rw[a] at b;unfold yG at b;omega
theorem Qh0 (k:Ki):∀c,c∈kw k->48<=c.toNat:=by cases k<;>decide
theorem QcQ {e:Ev}{k:Ki}(a:Good e k):∀w,w∈VX e->∀c,c∈w->48<=c.toNat:=fun w b c hc=>by
 unfold VX at b;obtain h|h:=List.mem_cons.1 b
 ·rw[h] at hc;exact(QdM (by have:=a.num;omega) c hc).1
 obtain h|h:=List.mem_cons.1 h
 ·rw[h,show dat e.2.1=kw k from a.kind] at hc;exact Qh0 k c hc
 obtain h|h:=List.mem_append.1 h
 ·obtain⟨s,d,rfl⟩:=List.mem_map.1 h;exact QeJ (a.name s d) c hc
 ·obtain⟨v,f,rfl⟩:=List.mem_map.1 h;exact(QdM (a.val v f).1 c hc).1
theorem QlU {e:Ev}{k:Ki}(a:Good e k):spl 32 (Qf5 e)=VX e:=by unfold Qf5;rw[<-Qbp];exact Qc6 32 _ (by unfold VX;simp) fun w b hc=>absurd (QcQ a w b 32 hc) (by decide)
theorem QlL:∀(L:List Wrd),(∀w,w∈L->∀c,c∈w->48<=c.toNat)->∀c,c∈Lib.join L [32]->c=32\/48<=c.toNat
 | [],_,c,hc=>by cases hc
 | w::L,h,c,hc=>by
  rw[Lib.join_cons] at hc;obtain hc|hc:=List.mem_append.1 hc
  ·exact .inr (h w jMj c hc)
  ·have b:∀(L:List Wrd),(∀w,w∈L->∀c,c∈w->48<=c.toNat)->c∈Lib.joinTail [32] L->c=32\/48<=c.toNat:=by
    intro L;induction L with
    | nil=>intro _ hc;simp[Lib.joinTail] at hc
    | cons w L ih =>
     intro h hc;rw[show Lib.joinTail [32] (w::L)=32::w++Lib.joinTail [32] L by simp[Lib.joinTail]] at hc;obtain hc|hc:=List.mem_append.1 hc
     ·obtain hc|hc:=List.mem_cons.1 hc
      ·exact .inl hc
      ·exact .inr (h w jMj c hc)
     ·exact ih (fun w a=>h w (jmj _ a)) hc
   exact b L (fun w a=>h w (jmj _ a)) hc
def QkV (e:Ev):Wrd:=Qf5 e++35::dig7 (Qf5 e)
theorem Qlw (e:Ev):recL e=QkV e++[10]:=rfl
theorem Ql8 (e:Ev):(QkV e).length=(Qf5 e).length+8:=by unfold QkV;simp[Qli]
theorem QlX {e:Ev}{k:Ki}(a:Good e k):(10:UInt8)∉QkV e:=fun h=>by
 unfold QkV at h;obtain h|h:=List.mem_append.1 h
 ·obtain h|h:=QlL _ (QcQ a) 10 h
  ·cases h
  ·exact absurd h (by decide)
 ·obtain h|h:=List.mem_cons.1 h
  ·cases h
  ·exact absurd (Qlq 7 _ 10 h).1 (by decide)
theorem Qi8 {l:List jSj}(h:∀s,s∈l->Yw s=true):(l.map dat).mapM nmG=some (l.map dat):=by
 induction l with
 | nil=>rfl
 | cons s l ih =>
  have a:=h s jMj;have b:¬dat s=[]:=fun e=>by unfold Yw at a;simp only[jAj,decide_eq_true_eq] at a;exact a.1.1 (by rw[<-dlen s];show(dat s).length=0;rw[e];rfl)
  rw[jCj,List.mapM_cons,ih fun s a=>h s (jmj _ a),show nmG (dat s)=some (dat s) by unfold nmG;rw[jFj b]];rfl
theorem QhV {l:List Int}(h:∀v,v∈l->0<=v/\v<=999999999):(l.map Lib.itoa).mapM num=some l:=by
 induction l with
 | nil=>rfl
 | cons v l ih =>
  have b:=h v jMj;rw[jCj,List.mapM_cons,ih fun s a=>h s (jmj _ a),uv b.1 (by omega)];rfl
theorem ur {e:Ev}{k:Ki}(a:Good e k):Jl (VX e).tail=some (k,e.2.2.1.map dat,e.2.2.2.1):=by unfold VX;show Jl (dat e.2.1::(e.2.2.1.map dat++e.2.2.2.1.map Lib.itoa))=_;unfold Jl;dsimp only;rw[show zl (dat e.2.1)=some k by rw[show dat e.2.1=kw k from a.kind];exact qZ k];dsimp only;have b:=a.names;have c:=a.vals;rw[jTj (by simp;omega),List.take_left' (by simp;exact b),List.drop_left' (by simp;exact b),Qi8 a.name,jBj,QhV a.val,jBj]
theorem Qe8 {e:Ev}{k:Ki}(a:Good e k):chk e=0:=by unfold chk;rw[jTj (WS.2 a.num),a.kind,qZ];dsimp only;rw[jTj ⟨a.names,a.vals⟩,jTj (List.all_eq_true.2 a.name),jTj (show e.2.2.2.1.all valB=true from List.all_eq_true.2 fun v b=>jDj (WS.2 (a.val v b))),jTj a.text]
theorem QgT {e:Ev}{k:Ki}(c:Good e k):evOf e.1 (k,e.2.2.1.map dat,e.2.2.2.1)=e:=by
 obtain⟨m,d,ns,vs,a⟩:=e;have f:d=mkS (kw k):=by rw[<-UA d];exact congrArg mkS c.kind
 have g:a=⟨#[]⟩:=by have h:a.size=0:=c.text;have b:a.data.toList=[]:=List.eq_nil_of_length_eq_zero (by rw[dlen];exact h);rw[<-UA a,b];rfl
 unfold evOf;dsimp only;have b:(ns.map dat).map mkS=ns:=by
  rw[List.map_map];conv=>rhs;rw[<-List.map_id ns]
  exact List.map_congr_left fun s _=>UA s
 rw[f,g,b]
theorem Ql0 {e:Ev}{k:Ki}(a:Good e k):recX (QkV e)=.inl e:=by
 have g:=Ql8 e;have b:(QkV e).length - 8=(Qf5 e).length:=by omega
 have d:(QkV e).take ((QkV e).length - 8)=Qf5 e:=by rw[b];unfold QkV;simp
 have f:(QkV e)[(QkV e).length - 8]?=some 35:=by rw[b];unfold QkV;simp
 have c:(QkV e).drop ((QkV e).length - 8+1)=dig7 (Qf5 e):=by rw[b];unfold QkV;simp
 have h:=a.num;unfold recX;rw[jFj (by omega),f,c,d,jTj ⟨rfl,Qlq 7 _⟩,jTj rfl,QlU a];have hp:=ur a;unfold VX at hp ⊢;dsimp only;rw[uv (by omega) (by omega)];rw[show Jl (dat e.2.1::(e.2.2.1.map dat++e.2.2.2.1.map Lib.itoa))=_ from hp];dsimp only;rw[QgT a,jTj (Qe8 a)]
def AllG (l:List Ev):Prop:=∀e,e∈l->∃k,Good e k
def Numd:Nat->List Ev->Prop
 | _,[]=>True
 | k,e::l=>e.1=(k:Int)+1/\Numd (k+1) l
theorem Qlv:∀(l:List Ev) (t:Wrd),AllG l->spl 10 (l.flatMap recL++t)=l.map QkV++spl 10 t
 | [],_,_=>rfl
 | e::l,t,h=>by obtain⟨k,a⟩:=h e jMj;rw[List.flatMap_cons,Qlw,List.append_assoc,List.append_assoc];show spl 10 (QkV e++10::(l.flatMap recL++t))=_;rw[Qfr 10 _ _ (QlX a),Qlv l t fun x b=>h x (jmj _ b)];rfl
theorem QlG:∀(l:List Ev) (R:List Wrd) (k:Nat),AllG l->Numd k l->R≠[]->recP (l.map QkV++R) k=(l++(recP R (k+l.length)).1,(l.flatMap recL).length+(recP R (k+l.length)).2.1,(recP R (k+l.length)).2.2)
 | [],R,k,_,_,_=>by simp
 | e::l,R,k,hg,hn,hR=>by
  obtain⟨j,c⟩:=hg e jMj;have f:=QlG l R (k+1) (fun x d=>hg x (jmj _ d)) hn.2 hR;obtain⟨q,L,a⟩:∃q L,l.map QkV++R=q::L:=by
   cases h:l.map QkV++R with
   | nil=>exact absurd (List.append_eq_nil_iff.1 h).2 hR
   | cons q L=>exact⟨q,L,rfl⟩
  have b:recP (QkV e::q::L) k=(e::(recP (q::L) (k+1)).1,(QkV e).length+1+(recP (q::L) (k+1)).2.1,(recP (q::L) (k+1)).2.2):=by
   conv=>lhs;unfold recP
   rw[Ql0 c];dsimp only;rw[jTj hn.1]
  rw[jCj,List.cons_append,a,b,<-a,f,show k+1+l.length=k+(e::l).length by simp;omega];simp only[List.cons_append,List.flatMap_cons,jaj,Qlw,List.length_singleton,jPj,true_and,and_true];omega
theorem Ql1 {l:List Ev}(a:AllG l)(b:Numd 0 l){t:Wrd}(c:(10:UInt8)∉t):recP (spl 10 (l.flatMap recL++t)) 0=(l,(l.flatMap recL).length,if t=[] then 0 else 28):=by rw[Qlv l t a,Qc5 10 t c,QlG l [t] 0 a b (by simp)];simp[recP]
def Qp0:Nat->List Ev->List Nat
 | _,[]=>[]
 | s,e::l=>(s+(recL e).length)::Qp0 (s+(recL e).length) l
theorem Qr2:∀(l:List Ev) (s x:Nat),x∈Qp0 s l->s<=x
 | [],_,x,h=>by cases h
 | e::l,s,x,h=>by
  obtain h|h:=List.mem_cons.1 h
  ·omega
  ·have:=Qr2 l _ x h;omega
theorem Qsz:∀(l:List Ev) (s size:Nat),AllG l->s<=size->∃t:Wrd,(l.flatMap recL).take (size - s)=(l.take ((Qp0 s l).countP (·<=size))).flatMap recL++t/\(10:UInt8)∉t/\(Qp0 s l).countP (·<=size)<=l.length
 | [],s,size,_,_=>⟨[],by simp[Qp0]⟩
 | e::l,s,size,hg,hs=>by
  obtain⟨k,d⟩:=hg e jMj;by_cases h:s+(recL e).length<=size
  ·obtain⟨t,b,c,g⟩:=Qsz l (s+(recL e).length) size (fun x a=>hg x (jmj _ a)) h;have hc:(Qp0 s (e::l)).countP (·<=size)=(Qp0 (s+(recL e).length) l).countP (·<=size)+1:=by show((s+(recL e).length)::Qp0 (s+(recL e).length) l).countP _=_;rw[List.countP_cons_of_pos (by simpa using h)]
   refine⟨t,?_,c,by rw[hc];simp;omega⟩;rw[hc,List.take_succ_cons,List.flatMap_cons,List.flatMap_cons,List.append_assoc,<-b,List.take_append,List.take_of_length_le (by omega),show size - s - (recL e).length=size - (s+(recL e).length) by omega]
  ·have hc:(Qp0 s (e::l)).countP (·<=size)=0:=by
    rw[List.countP_eq_zero];intro x a;obtain a|a:=List.mem_cons.1 a
    ·simp;omega
    ·have:=Qr2 _ _ _ a;simp;omega
   refine⟨(QkV e).take (size - s),?_,fun f=>QlX d (List.mem_of_mem_take f),by rw[hc];exact Nat.zero_le _⟩;have i:(recL e).length=(QkV e).length+1:=by rw[Qlw];simp
   rw[hc,List.take_zero,List.flatMap_nil,List.nil_append,List.flatMap_cons,Qlw,List.take_append_of_le_length (by simp;omega),List.take_append_of_le_length (by omega)]
theorem QrV:∀(a:List Ev) (b:List Ev) (k:Nat),Numd k (a++b)↔Numd k a/\Numd (k+a.length) b
 | [],b,k=>by simp[Numd]
 | e::a,b,k=>by have h:=QrV a b (k+1);rw[show k+1+a.length=k+(e::a).length by simp;omega] at h;show(e.1=(k:Int)+1/\Numd (k+1) (a++b))↔(e.1=(k:Int)+1/\Numd (k+1) a)/\_;rw[h,and_assoc]
theorem wc {e:Ev}{k:Ki}(a:Good e k):QnI e:=by
 have h:=jN k;have c:=a.names;have d:=a.vals;have f:=QhZ k;have g:=a.text;refine⟨?_,by omega,by omega,by omega,fun s b=>?_⟩
 ·rw[<-dlen];show e.2.1.data.toList.length<=40;rw[a.kind];omega
 ·have:=a.name s b;unfold Yw at this;simp only[jAj,decide_eq_true_eq] at this;omega
def ansL (wsx:List Wrd):Wrd:=if wsx=[] then[110,111,110,101] else Lib.join wsx [32]
theorem Qh5 (b:Nat)(wsx:List Wrd)(h:∀w,w∈wsx->w.length<=b):(Lib.join wsx [32]).length<=(b+1)*wsx.length:=by
 cases wsx with
 | nil=>simp[Lib.join_nil]
 | cons w l =>
  have c:=h w jMj;have d:=ub b l fun x a=>h x (jmj _ a);rw[Lib.join_cons,jaj,List.length_cons,Nat.mul_add];omega
theorem QtJ (k:Ki):25*kn k+10*kv k<=75:=by cases k<;>decide
theorem Qtw {e:Ev}{k:Ki}(a:Good e k):(recL e).length<=96:=by
 have f:=ub 24 (e.2.2.1.map dat) fun w d=>by obtain⟨s,m,rfl⟩:=List.mem_map.1 d;have:=a.name s m;unfold Yw at this;simp only[jAj,decide_eq_true_eq] at this;show s.data.toList.length<=24;rw[dlen];omega
 have g:=ub 9 (e.2.2.2.1.map Lib.itoa) fun w d=>by obtain⟨v,n,rfl⟩:=List.mem_map.1 d;have:=a.val v n;exact qa (by omega) (by omega)
 have i:=QhZ k;have o:=QtJ k;have h:=a.num;have p:(Lib.itoa e.1).length<=4:=by rw[Ed (by omega)];exact(qi e.1.toNat).2.2.2.2 4 (by decide) (by omega)
 have q:(dat e.2.1).length<=7:=by rw[show dat e.2.1=kw k from a.kind];exact i
 have l:Qf5 e=Lib.itoa e.1++(32::dat e.2.1++Lib.joinTail [32] (e.2.2.1.map dat)++Lib.joinTail [32] (e.2.2.2.1.map Lib.itoa)):=by unfold Qf5 VX;rw[Lib.join_cons];simp[Lib.joinTail]
 have b:=a.names;have c:=a.vals;rw[jlj] at f g;have j:=Qli (Qf5 e);unfold recL;rw[jaj,jaj,List.length_cons,j,l];simp only[jaj,List.length_cons,List.length_nil];rw[b] at f;rw[c] at g;omega
theorem Qsd:∀{l:List Ev},AllG l->(l.flatMap recL).length<=96*l.length
 | [],_=>by simp
 | e::l,h=>by obtain⟨k,a⟩:=h e jMj;have c:=Qtw a;have d:=Qsd (l:=l) fun x b=>h x (jmj _ b);rw[List.flatMap_cons,jaj,List.length_cons];omega
theorem Qsp:∀(l cnt:List Ev) (i:Nat) (c:List Ev),rep i cnt l=.inr c->AllG l/\Numd i l
 | [],cnt,i,c,h=>⟨fun e a=>(by cases a),trivial⟩
 | e::l,cnt,i,c,h=>by
  unfold rep at h;by_cases a:Uk i cnt e=0
  ·rw[jTj a] at h;obtain⟨d,f⟩:=Qsp l _ _ c h;obtain⟨k,g,j,_⟩:=jY a;refine⟨fun x b=>?_,j,f⟩;obtain rfl|b:=List.mem_cons.1 b
   ·exact⟨k,g⟩
   ·exact d x b
  ·rw[jFj a] at h;cases h
theorem QqY (i:Nat)(cnt:List Ev)(e:Ev)(l:List Ev):rep i cnt (e::l)=if Uk i cnt e=0 then rep (i+1) (YV cnt e) l else .inl ((i:Int)+1,Uk i cnt e):=rfl
theorem Qsq:∀(a b cnt:List Ev) (i:Nat) (c:List Ev),rep i cnt (a++b)=.inr c->∃d,rep i cnt a=.inr d/\rep (i+a.length) d b=.inr c
 | [],b,cnt,i,c,h=>⟨cnt,rfl,h⟩
 | e::a,b,cnt,i,c,h=>by
  rw[List.cons_append,QqY] at h;by_cases f:Uk i cnt e=0
  ·rw[jTj f] at h;obtain⟨d,g,j⟩:=Qsq a b _ _ c h;refine⟨d,by rw[QqY,jTj f];exact g,?_⟩;rw[show i+(e::a).length=i+1+a.length by simp;omega];exact j
  ·rw[jFj f] at h;cases h
theorem Qst:∀{l:List Ev} {k i:Nat} {e:Ev},Numd k l->l[i]?=some e->e.1=((k+i:Nat):Int)+1
 | [],_,_,_,_,h=>by simp at h
 | x::l,k,0,e,h,a=>by
  have:x=e:=by simpa using a
  subst this;exact h.1
 | x::l,k,i+1,e,h,a=>by have:=Qst h.2 (by simpa using a:l[i]?=some e);rw[this];omega
theorem Qrq {l:List Ev}(h:Numd 0 l)(w:Nat):Numd 0 (l.take w):=by rw[<-List.take_append_drop w l] at h;exact((QrV _ _ 0).1 h).1
theorem Qo3 {l:List Ev}(h:AllG l)(w:Nat):AllG (l.take w):=fun e a=>h e (List.mem_of_mem_take a)
theorem Qth {n:Nat}(g:3000<=n){s:Wrd}(j:s.length<=2000){m c:List Ev}(o:m.length<=20)(d:AllG m){p:Nat}{err:Int}(i:recP (spl 10 s) 0=(m,p,err))(b:err=0\/err=28)(hc:rep 0 [] m=.inr c):Qk0 n (mkS s)=some (0,m.map Q5,c.map Q5,Wd (QN c)):=by
 have h:=EZ (n:=n) (by omega) m (by omega) (fun e l=>by obtain⟨k,f⟩:=d e l;exact wc f);rw[hc] at h;unfold Qk0;rw[QlK g j,jBj,i];dsimp only;by_cases a:err=0
 ·rw[jTj a,h.1,jBj];dsimp only;rw[jTj rfl]
 ·rw[jFj a,jTj (b.resolve_left a),h.1,jBj];dsimp only;rw[jTj rfl]
theorem QrC (x:jSj):∀(l:List Mir) (s:Int×Int),Kw (E:=Int×Int) (fun s m=>.inl (cg x s m)) (fun s=>s) l s=(s.1+(ki x l).1,s.2+(ki x l).2)
 | [],s=>by show s=(s.1+0,s.2+0);rw[Int.add_zero,Int.add_zero]
 | m::l,s=>by
  have e:ki x (m::l)=((cg x (0,0) m).1+(ki x l).1,(cg x (0,0) m).2+(ki x l).2):=QrC x l (cg x (0,0) m);show Kw (E:=Int×Int) (fun s m=>.inl (cg x s m)) (fun s=>s) l (cg x s m)=_;rw[QrC x l,e];unfold cg;by_cases h:m.2.1=x
  ·rw[jTj h,jTj h];by_cases a:isA m=true
   ·rw[jTj a,jTj a];show(s.1+1+(ki x l).1,s.2+1+(ki x l).2)=(s.1+(0+1+(ki x l).1),s.2+(0+1+(ki x l).2))
    congr 1<;>omega
   ·rw[jFj a,jFj a];show(s.1+1+(ki x l).1,s.2+(ki x l).2)=(s.1+(0+1+(ki x l).1),s.2+(0+(ki x l).2))
    congr 1<;>omega
  ·rw[jFj h,jFj h];show(s.1+(ki x l).1,s.2+(ki x l).2)=(s.1+(0+(ki x l).1),s.2+(0+(ki x l).2))
   congr 1<;>omega
theorem Qo1 (x:jSj)(m:Mir)(l:List Mir):ki x (m::l)=((if m.2.1=x then 1 else 0)+(ki x l).1,(if m.2.1=x then(if isA m=true then 1 else 0) else 0)+(ki x l).2):=by
 have e:ki x (m::l)=((cg x (0,0) m).1+(ki x l).1,(cg x (0,0) m).2+(ki x l).2):=QrC x l (cg x (0,0) m);rw[e];unfold cg;by_cases h:m.2.1=x
 ·rw[jTj h,jTj h,jTj h];by_cases a:isA m=true
  ·rw[jTj a,jTj a];rfl
  ·rw[jFj a,jFj a];rfl
 ·rw[jFj h,jFj h,jFj h]
theorem QsA {ss:List jSj}(c:ss.Nodup):∀(ms:List Mir),(∀m,m∈ms->m.2.1∈ss)->sumA (fun x=>(ki x ms).1) ss=(ms.length:Int)/\sumA (fun x=>(ki x ms).2) ss=((kD ms).length:Int)
 | [],_=>⟨Qqs ss,Qqs ss⟩
 | m::ms,hs=>by
  obtain⟨h,i⟩:=QsA c ms fun x j=>hs x (jmj _ j);have d:=hs m jMj;refine⟨?_,?_⟩
  ·rw[QqU (f:=fun x=>(ki x (m::ms)).1) (g:=fun x=>(ki x ms).1) (x:=m.2.1) (v:=1) (by show(ki m.2.1 (m::ms)).1=_;rw[Qo1,jTj rfl]) (fun a b=>by show(ki a (m::ms)).1=_;rw[Qo1,jFj (fun e=>b e.symm),Int.zero_add]) c d,h,List.length_cons]
   omega
  ·rw[QqU (f:=fun x=>(ki x (m::ms)).2) (g:=fun x=>(ki x ms).2) (x:=m.2.1) (v:=if isA m=true then 1 else 0) (by show(ki m.2.1 (m::ms)).2=_;rw[Qo1];dsimp only;rw[jTj rfl]) (fun a b=>by show(ki a (m::ms)).2=_;rw[Qo1];dsimp only;rw[jFj (fun e=>b e.symm),Int.zero_add]) c d,i]
   unfold kD;by_cases b:isA m=true
   ·rw[jTj b,List.filter_cons_of_pos b,jCj,List.length_cons];omega
   ·rw[jFj b,List.filter_cons_of_neg b,Int.zero_add]
theorem Qr5 (x:jSj):∀ms:List Mir,(0<=(ki x ms).1/\(ki x ms).1<=(ms.length:Int))/\0<=(ki x ms).2/\(ki x ms).2<=(ms.length:Int)
 | []=>⟨⟨Int.le_refl 0,Int.le_refl 0⟩,Int.le_refl 0,Int.le_refl 0⟩
 | m::ms=>by
  have h:=Qr5 x ms;rw[Qo1,List.length_cons];dsimp only;split
  ·split<;>omega
  ·omega
theorem Qsn {a:Type}(f:a->jSj)(g:jSj->Int):∀(l:List a) (s:Int),Kw (E:=Int) (fun(s:Int) (m:a)=>.inl (s+g (f m))) (fun s=>s) l s=s+sumA g (l.map f)
 | [],s=>by show s=s+0;rw[Int.add_zero]
 | m::l,s=>by
  show Kw (E:=Int) (fun(s:Int) (m:a)=>.inl (s+g (f m))) (fun s=>s) l (s+g (f m))=s+(g (f m)+sumA g (l.map f))
  rw[Qsn f g l,Int.add_assoc]
theorem Qqg {l c:List Ev}(v:l.length<=16)(r:AllG l):∀(a pre cnt:List Ev) (K:Nat),l=pre++a->rep pre.length cnt a=.inr c->cnt.length<=pre.length->a.length<K ->
  QU (QmT 5000 (l.map Q5)) K ((pre.length:Int),cnt.map Q5)=some (c.map Q5)
 | _,_,_,0,_,_,_,hk=>absurd hk (by omega)
 | [],pre,cnt,K+1,hd,hr,_,_=>by
  rw[List.append_nil] at hd;have:cnt=c:=by cases hr;rfl
  subst this;refine ZP ?_;unfold QmT;dsimp only;rw[jFj (by rw[jlj,hd];omega)]
 | e::a,pre,cnt,K+1,hd,hr,hc,hk=>by
  have o:l.length=pre.length+(a.length+1):=by rw[hd];simp
  have m:l[pre.length]?=some e:=by rw[hd,List.getElem?_append_right (jLj _),Nat.sub_self];rfl
  obtain⟨k,f⟩:=r e (jgj m);rw[QqY] at hr;by_cases i:Uk pre.length cnt e=0;case neg=>rw[jFj i] at hr;cases hr
  rw[jTj i] at hr;obtain⟨w,u,p,n⟩:=jY i;have t:Qg ((pre.length:Int)+1):=inI (by omega) (by omega);have j:(YV cnt e).length<=pre.length+1:=by
   unfold YV;split
   ·simp;omega
   ·simp;omega
  have s:=Qqg v r a (pre++[e]) (YV cnt e) K (by rw[hd];simp) (by rw[jaj];exact hr) (by rw[jaj];exact j) (by simpa using hk);rw[jaj,List.length_singleton] at s;refine(W8 ?_).trans s;unfold QmT YV;dsimp only;rw[jTj (ZF m),el_E m,jBj];dsimp only;by_cases d:isU e=true
  ·have b:k=.undo:=by rw[Xr f] at d;exact of_decide_eq_true d
   subst b;rw[jTj d] at n;have q:=List.length_pos_iff.2 (Qen n);have g:((cnt.map Q5).take (Int.toNat (((cnt.map Q5).length:Int) - 1)))=cnt.dropLast.map Q5:=by
    rw[jlj,List.dropLast_eq_take,List.map_take];congr 1
    omega
   rw[jTj (keq (l:=#[117,110,100,111]) f.kind rfl),jTj (by rw[jlj];omega),jTj (by rw[jlj];exact inI (by omega) (by omega)),jTj (by rw[jlj];omega),jTj t,jTj d,g];rfl
  ·have b:k≠.undo:=fun h=>d (by rw[Xr f];exact jDj h);rw[jFj (kne (l:=#[117,110,100,111]) f.kind (kwn b)),jTj (UO (by decide) (by rw[jlj];omega)),jTj t,jFj d,List.map_append];rfl
theorem Qsg {l c:List Ev}(a:l.length<=16)(d:AllG l)(b:rep 0 [] l=.inr c):Qna 5000 (l.map Q5)=some (c.map Q5):=by unfold Qna;have:=Qqg a d l [] [] 5000 rfl b (jLj _) (by omega);rw[show QU (QmT 5000 (l.map Q5)) 5000 (0,[])=_ from this,jBj]
theorem Qs3 {l:List Ev}(z:l.length<=16)(f:AllG l)(b:Numd 0 l)(w:Int):∀(a:List Ev) (i K:Nat),l.drop i=a->i<=l.length->a.length<K ->
  QU (Qnd 5000 (l.map Q5) w) K (mkS ((l.take i).flatMap recL),(i:Int))=some (mkS (l.flatMap recL))
 | _,_,0,_,_,h=>absurd h (by omega)
 | [],i,K+1,hd,hi,_=>by
  have r:i=l.length:=by have:=List.drop_eq_nil_iff.1 hd;omega
  refine ZP ?_;unfold Qnd;dsimp only;rw[jFj (by rw[jlj];omega),r,List.take_length]
 | e::a,i,K+1,hd,hi,hK=>by
  obtain⟨s,d,j⟩:=Qd1 hd;obtain⟨k,x⟩:=f e (jgj d);have g:=Qsd (Qo3 f i);rw[List.length_take] at g;have u:=Ql1 (Qo3 f i) (Qrq b i) (t:=[]) (by simp);rw[List.append_nil,jTj rfl] at u;have m:Qr0 ((l.take i).flatMap recL)=0:=by show(recP _ 0).2.2=0;rw[u]
  have o:Qrv ((l.take i).flatMap recL)=l.take i:=by show(recP _ 0).1=_;rw[u]
  have p:=Qst b d;have c:=QsK (n:=5000) (by decide) (l:=(l.take i).flatMap recL) (by omega) (wc x);have A:QK [Qr0 ((l.take i).flatMap recL),chk e,QD (e.1 != ((Qrv ((l.take i).flatMap recL)).length:Int)+1) 11]=0:=by rw[m,Qe8 x,o,List.length_take,p,show min i l.length=i by omega,Nat.zero_add];simp[QK,QD]
  rw[jTj A] at c;have v:l.take (i+1)=l.take i++[e]:=by rw[List.take_add_one,d];rfl
  have q:(l.take (i+1)).flatMap recL=(l.take i).flatMap recL++recL e:=by rw[v,List.flatMap_append];simp
  have y:0<(recL e).length:=by rw[Qlw];simp
  have C:=Qs3 z f b w a (i+1) K j s (by simp at hK;omega);refine(W8 ?_).trans C;unfold Qnd;dsimp only;rw[jTj (ZF d),el_E d,jBj,c,jBj];dsimp only;rw[jTj rfl,Qp,Qp,jFj (by rw[jaj];omega),jTj (i64 (by omega) (by omega)),q];rfl
theorem QsF {pre:List Wrd}(h:pre≠[])(w:Wrd):Lib.join (pre++[w]) [32]=Lib.join pre [32]++(32::w):=by
 cases pre with
 | nil=>exact absurd rfl h
 | cons x r =>
  rw[List.cons_append,Lib.join_cons,Lib.join_cons];unfold Lib.joinTail;simp
theorem QqS {b:List jSj}(n:b.length<=16)(f:∀w,w∈b->w.size<=24){t33:Int}{t34:jSj×Int}:∀(a pre:List jSj) (K:Nat),b=pre++a->a.length<K ->
  QU (QmY 5000 (b.map Sd,0) t33 t34) K (mkS (ansL (pre.map dat)),(pre.length:Int))=some (mkS (ansL (b.map dat)))
 | _,_,0,_,hk=>absurd hk (by omega)
 | [],pre,K+1,hd,_=>by rw[List.append_nil] at hd;refine ZP ?_;unfold QmY;dsimp only;rw[jFj (by rw[jlj,hd];omega),hd]
 | w::a,pre,K+1,hd,hk=>by
  have c:b[pre.length]?=some w:=by rw[hd,List.getElem?_append_right (jLj _),Nat.sub_self];rfl
  have o:=(jGj c).1;have q:=f w (jgj c);have h:Qg ((pre.length:Int)+1):=inI (by omega) (by omega);have g:=QqS n f (t33:=t33) (t34:=t34) a (pre++[w]) K (by rw[hd];simp) (by simpa using hk);rw[jaj,List.length_singleton] at g;refine(W8 ?_).trans g;unfold QmY;dsimp only;rw[jTj (ZF c),el_S c,jBj];by_cases hp:pre=[]
  ·subst hp;rw[jTj (show(([]:List jSj).length:Int)=0 from rfl),jTj h];have e:ansL (([]++[w]:List jSj).map dat)=dat w:=by unfold ansL;rw[jFj (by simp)];exact Lib.join_one _ _
   rw[e,UA];rfl
  ·have p:=List.length_pos_iff.2 hp;have m:=Qh5 24 (pre.map dat) (fun x c=>by obtain⟨y,r,rfl⟩:=List.mem_map.1 c;have:=f y (by rw[hd];exact List.mem_append_left _ r);show y.data.toList.length<=24;rw[dlen];omega)
   rw[jlj] at m;have d:pre.map dat≠[]:=fun e=>hp (List.map_eq_nil_iff.1 e);have i:ansL (pre.map dat)=Lib.join (pre.map dat) [32]:=jFj d;have j:ansL ((pre++[w]).map dat)=Lib.join (pre.map dat) [32]++(32::dat w):=by unfold ansL;rw[jFj (by simp),List.map_append];exact QsF d (dat w)
   have k:(⟨#[32]⟩:jSj)++w=mkS (32::dat w):=by
    conv=>lhs;rw[<-UA w]
    exact Qat [32] _
   have l:(dat w).length<=24:=by show w.data.toList.length<=24;rw[dlen];omega
   rw[jFj (by omega),k,i,jTj (by show 1+w.size<=_;omega),jTj (by rw[Qp,Qp,List.length_cons];omega),jTj h,Qat,j];rfl
theorem Qs2:Qn4 5000=some [Sd ⟨#[97,105,109,101,100]⟩]:=by kernel_rfl
theorem QtN (evs cnt:jVj){c:Nat}{r:Reg}(a:Inv c r)(hc:c<=40)(g:∀w,w∈kD r.mirrors->w.size<=24) :
  Qj 5000 evs cnt r.tick r.level r.filled r.tripped r.light r.heat r.money (r.sectors.map Sd) (r.mirrors.map Q1) (r.offers.map Zs)=some (mkS (ansL (Qay r)),0):=by
 have d:=a.lenM;have b:(Qay r).length<=40:=by unfold Qay kD;have:(r.mirrors.filter isA).length<=r.mirrors.length:=List.length_filter_le _ _;simp only[jlj];omega
 unfold Qj;refine bnd (show Kq 5000=some 0 from rfl) ?_;refine bnd (show Kq 5000=some 0 from rfl) ?_;rw[W4 (by decide),jBj,jTj (by rfl),Qs2,jBj,show el Vg [Sd ⟨#[97,105,109,101,100]⟩] 0=some ⟨#[97,105,109,101,100]⟩ from rfl,jBj,jFj (by decide),jFj (by decide),jTj rfl,jTj (by decide),jFj (by decide),QiU (by decide) _ _ _ a hc,jBj];by_cases h:Qay r=[]
 ·rw[jTj (by rw[h];rfl),h];rfl
 ·have j:0<(Qay r).length:=List.length_pos_iff.2 h;have i:=Qh5 24 (Qay r) (fun x e=>by obtain⟨y,f,rfl⟩:=List.mem_map.1 e;have:=g y f;show y.data.toList.length<=24;rw[dlen];omega)
  have:=Qje 5000 (Qay r) [32] (by omega) (by omega);rw[jFj (by rw[jlj];omega),show ZI 5000 ((Qay r).map eS) ⟨#[32]⟩=_ from this,jBj];unfold ansL;rw[jFj h]
def endB (b:Bmr):Bmr:=(b.1,b.2.1,if b.2.2=.aims then Bst.lit else Bst.stood)
theorem Qrs:∀(bs:List Bmr) (ms:List Mir),bs.map kyB=ms.map kyM->(((bs.map endB).filter fun m=>decide (m.2.2=.lit)).map fun m=>m.1)=kD ms
 | [],[],_=>rfl
 | [],m::ms,h=>by simp at h
 | b::bs,[],h=>by simp at h
 | b::bs,m::ms,h=>by
  rw[jCj,jCj,List.cons.injEq] at h;have d:=Qrs bs ms h.2;have e:b.1=m.1:=congrArg (fun x:Kyt=>x.1) h.1;have a:decide (b.2.2=.aims)=isA m:=congrArg (fun x:Kyt=>x.2.2) h.1;unfold kD at d ⊢;rw[jCj];by_cases c:b.2.2=.aims
  ·rw[jDj c] at a;rw[List.filter_cons_of_pos (by unfold endB;simp[c]),List.filter_cons_of_pos a.symm,jCj,jCj,d,<-e];rfl
  ·rw[jEj c] at a;rw[List.filter_cons_of_neg (by unfold endB;simp[c]),List.filter_cons_of_neg (by rw[<-a];decide),d]
theorem Qq3:∀(bs:List Bmr) (ms:List Mir),bs.map kyB=ms.map kyM->(bs.map endB).all (fun m=>decide (m.2.2=.stood))=((((kD ms).map Sd).length:Int)==0)
 | [],[],_=>rfl
 | [],m::ms,h=>by simp at h
 | b::bs,[],h=>by simp at h
 | b::bs,m::ms,h=>by
  rw[jCj,jCj,List.cons.injEq] at h;have d:=Qq3 bs ms h.2;have a:decide (b.2.2=.aims)=isA m:=congrArg (fun x:Kyt=>x.2.2) h.1;unfold kD at d ⊢;rw[jCj,List.all_cons];by_cases c:b.2.2=.aims
  ·rw[jDj c] at a;rw[List.filter_cons_of_pos a.symm,show(endB b).2.2=.lit from jTj c,jEj (by decide),Bool.false_and,eq_comm,beq_eq_false_iff_ne,jCj,jCj,List.length_cons];omega
  ·rw[jEj c] at a;rw[List.filter_cons_of_neg (by rw[<-a];decide),<-d,show(endB b).2.2=.stood from jFj c,jDj rfl,Bool.true_and]
theorem QrJ:QnD 5000=some true:=by kernel_rfl
theorem Qs9 {ms:List Mir}{bs:List Bmr}(h:Tied ms bs):∀w,w∈kD ms->w.size<=24:=fun w a=>by unfold kD at a;obtain⟨m,f,rfl⟩:=List.mem_map.1 a;obtain⟨i,hi⟩:=List.mem_iff_getElem?.1 (List.mem_filter.1 f).1;obtain⟨b,d,e,_⟩:=Qry h hi;have c:b.1=m.1:=congrArg (fun x:Kyt=>x.1) e;have:=(h.ok.nm b (jgj d)).1;unfold Yw at this;simp only[jAj,decide_eq_true_eq] at this;rw[<-c];omega
theorem QtB {l c:List Ev}(z:l.length<=16)(t:∀e,e∈l->QnI e)(g:rep 0 [] l=.inr c){x y:Int}{t10:Int×jVj×jVj×jRj}{t17:jVj×Int} :
  QU (QmZ 5000 (l.map Q5,x,y) t10 t17 (outF (QN c) 0 0)) 5000 (0,0)=some ((kD (QN c).mirrors).length:Int):=by
 obtain⟨b,m⟩:=QqX l [] 0 c wD (jLj 0) g;have a:=qR b (by omega);have p:=a.lenM;have r:=a.secs;have f:=Qss b c.length (jLj _);rw[List.take_length] at f;have q:=Vr (step:=QmZ 5000 (l.map Q5,x,y) t10 t17 (outF (QN c) 0 0)) (E:=Int) (fun(s:Int) (x:jSj)=>.inl (s+(ki x (QN c).mirrors).2)) (fun s=>s) (fun i s=>((s,(i:Int)):Int×Int)) (QN c).sectors (fun i s=>0<=s/\s<=100*(i:Int))
  (fun i s x d u=>by
   have hi:=(jGj d).1;have w:=Qr5 x (QN c).mirrors;have o:ZG (QN c).sectors x=true:=Qpa.2 (jgj d);have h:QnU 5000 (l.map Q5) x=some ((ki x (QN c).mirrors).1,(ki x (QN c).mirrors).2,0):=by have:=QrH (n:=5000) (by decide) l (by omega) t x;rw[g] at this;exact this.trans (congrArg some (jTj (by rw[o];rfl)))
   refine⟨?_,by show 0<=s+(ki x (QN c).mirrors).2/\s+(ki x (QN c).mirrors).2<=100*((i+1:Nat):Int);simp only[Int.natCast_add,Int.natCast_one];omega⟩
   unfold QmZ outF;dsimp only;rw[jTj (ZF d),el_S d,jBj,h,jBj];dsimp only;rw[jTj rfl,jTj (by unfold Qg;omega),jTj (by unfold Qg;omega)];rfl)
  (fun s _=>by unfold QmZ outF;dsimp only;rw[jFj (by simp)]) (s:=0) (by simp) (k:=5000) (by omega)
 obtain⟨v,j⟩:=QsA f.sc (QN c).mirrors f.ms;have e:=Qsn (fun x:jSj=>x) (fun x=>(ki x (QN c).mirrors).2) (QN c).sectors 0;rw[List.map_id',j,Int.zero_add] at e;exact q.trans (congrArg some e)
theorem Qtf {l c:List Ev}(o:l.length<=16)(q:∀e,e∈l->QnI e)(k:rep 0 [] l=.inr c){x y:Int}{evs cnt:jVj}{bs:List Bmr}(a:Tied (QN c).mirrors bs) :
  QmG 5000 (l.map Q5,x,y) (0,evs,cnt,Wd (QN c)) ((kD (QN c).mirrors).map Sd,0) (outF (QN c) 0 0) 0 100 (bs.map encW)=some true:=by
 obtain⟨i,n⟩:=QqX l [] 0 c wD (jLj 0) k;have f:=qR i (by omega);have j:=QrP a;have p:=a.ok.len;have h:(kD (QN c).mirrors).length<=16:=by unfold kD;have:((QN c).mirrors.filter isA).length<=(QN c).mirrors.length:=List.length_filter_le _ _;rw[jlj];omega
 have g:OkF (bs.map endB):=QrF a.ok endB fun m=>⟨rfl,rfl⟩
 have d:=Qs9 a;have b:=QqS h d (t33:=((kD (QN c).mirrors).length:Int)) (t34:=(mkS (ansL (Qay (QN c))),0)) (kD (QN c).mirrors) [] 5000 rfl (by omega);have b:QU (QmY 5000 ((kD (QN c).mirrors).map Sd,0) ((kD (QN c).mirrors).length:Int) (mkS (ansL (Qay (QN c))),0)) 5000 (⟨#[110,111,110,101]⟩,0)=some (mkS (ansL (Qay (QN c)))):=b;unfold QmG;rw[Qtv a.ok,jBj];dsimp only;rw[jTj rfl,show runM 8 bs=bs.map endB from Qtn bs a.day,Qtz g,jBj,Qs6 g,jBj];dsimp only;rw[jTj rfl,jTj rfl,Qrs bs _ a.eq,Qq3 bs _ a.eq,Qpw _ (by omega) (by omega),jBj,jTj rfl,jFj (by simp),QtB o q k,jBj];refine bnd (QtN evs cnt f (by omega) d) ?_;dsimp only;rw[b,jBj,jTj (by rw[jlj]),jTj rfl,jTj (by rw[beqS];exact jDj rfl),QrJ,jBj]
def Qs4 (n:Nat)(b:jVj)(t9:jVj×Int×Int)(t10:Int×jVj×jVj×jRj):Option Bool :=
 if t10.1=0 then
  if((t9.1).length:Int)>((b).length:Int) then
   none
  else
  if(0:Int)<=0/\0<=((t9.1).length:Int)/\((t9.1).length:Int)<=((b).length:Int)/\(b=[]\/5=5) then
  (Qm2 n t9.1 ((b.take (Int.toNat ((t9.1).length:Int))).drop (Int.toNat 0))).bind fun c =>
  if c=true then
   (Qnv n t9.1).bind fun t17 =>
   (QkT n t9.1).bind fun t18 =>
   if t17.2=0 then
    if t18.2.2.2.2.2.2.2.2.2.2.2=0 then
     if((t18.2.2.2.2.2.2.2.1).length:Int)>18 then
      none
     else
     (Qna n t9.1).bind fun d =>
     (QU (JD n t9 t10 t17 t18 d) n (.inl 0)).bind fun a=>match a with
      | (.inl _)=>(
       QmG n t9 t10 t17 t18 0 100 ([]))
      | (.inr a)=>(
       QmG n t9 t10 t17 t18 a.1 a.2.1 a.2.2)
    else
    none
   else
   none
  else
  none
  else none
 else
 none
theorem Qtg {l c:List Ev}{w:Nat}(A:l.length<=16)(z:∀e,e∈l->QnI e)(p:AllG l)(C:w<=l.length)(i:rep 0 [] (l.take w)=.inr c){x y:Int} :
  Qs4 5000 (l.map Q5) ((l.take w).map Q5,x,y) (0,(l.take w).map Q5,c.map Q5,Wd (QN c))=some true:=by
 have o:(l.take w).length=w:=by rw[List.length_take];omega
 have d:∀e,e∈l.take w->QnI e:=fun e m=>z e (List.mem_of_mem_take m);obtain⟨h,u⟩:=QqX _ [] 0 c wD (jLj 0) i;have g:=qR h (by omega);have f:Qm2 5000 ((l.take w).map Q5) (((l.map Q5).take (Int.toNat (w:Int))).drop (Int.toNat 0))=some true:=by
  rw[jtj,<-List.map_take];exact QqK _ (fun e m=>by obtain⟨j,q⟩:=p e (List.mem_of_mem_take m);have:=jN j;have:=q.names;have:=q.vals;omega) (by omega) (by omega) (by decide)
 have s:Qnv 5000 ((l.take w).map Q5)=some ((kD (QN c).mirrors).map Sd,0):=by have:=QrY (n:=5000) (by decide) (l.take w) (by omega) d;rw[i] at this;exact this
 have t:QkT 5000 ((l.take w).map Q5)=some (outF (QN c) 0 0):=by have:=QlW (n:=5000) (by decide) (l.take w) (by omega) d;rw[i] at this;exact this
 have v:=g.secs;obtain⟨bs,k,a⟩:=Qr3 (t9:=((l.take w).map Q5,x,y)) (t10:=(0,(l.take w).map Q5,c.map Q5,Wd (QN c))) (t17:=((kD (QN c).mirrors).map Sd,0)) (t18:=outF (QN c) 0 0) h (by omega) c.length 0 5000 [] (by omega) (by omega) QsO;have a:QU (JD 5000 ((l.take w).map Q5,x,y) (0,(l.take w).map Q5,c.map Q5,Wd (QN c)) ((kD (QN c).mirrors).map Sd,0) (outF (QN c) 0 0) (c.map Q5)) 5000 (.inl 0)=some (exW bs):=a;have r:=Qtf (l:=l.take w) (x:=x) (y:=y) (evs:=(l.take w).map Q5) (cnt:=c.map Q5) (by omega) d i k;unfold Qs4;dsimp only;rw[jTj rfl,jFj (by rw[jlj,jlj];omega),jTj ⟨Int.le_refl 0,Int.natCast_nonneg _,by rw[jlj,jlj];omega,.inr rfl⟩,jlj,o,f,jBj,jTj rfl,s,jBj,t,jBj];dsimp only;rw[jTj rfl,jTj (show(outF (QN c) 0 0).2.2.2.2.2.2.2.2.2.2.2=0 from rfl),jFj (by show ¬((((QN c).sectors.map Sd).length:Int)>18);rw[jlj];omega),Qsg (by omega) (Qo3 p w) i,jBj,a,jBj];cases bs with
 | nil=>exact r
 | cons b bs=>exact r
theorem QqL (l:List Ev){b:Int}(H:0<=b/\b<=65535):Qn3 5000 (l.map Q5) b=some true:=by
 unfold Qn3;refine bnd (QqW (n:=5000) (by decide) l 16 (by decide)) ?_;by_cases o:l.length<=16/\∀e,e∈l->QnI e;case neg=>rw[jFj (by simpa using o),QrJ,jBj]
 rw[jTj (jDj o)];obtain⟨v,z⟩:=o;refine bnd (QrE (n:=5000) (by decide) l (by omega) z) ?_;cases hc:rep 0 [] l with
 | inl p=>rw[jFj (show ¬(repD (.inl p)).2.2.2.2.2.2.2.2.2.2.2=0 from QrD _ _ _ _ hc),QrJ,jBj]
 | inr c =>
  rw[jTj (show(repD (.inr c)).2.2.2.2.2.2.2.2.2.2.2=0 from rfl)];obtain⟨g,d⟩:=Qsp l [] 0 c hc;have C:=Qsd g;refine bnd (Qs3 v g d b l 0 5000 rfl (Nat.zero_le _) (by omega)) ?_;obtain⟨A,E⟩:∃A:Nat,b=(A:Int):=⟨b.toNat,by omega⟩
  have u:IntKind.wrap .i64 b=(A:Int):=by rw[E];exact Qem (i64 (by omega) (by omega))
  have s:Int.tmod (IntKind.wrap .i64 b) (((mkS (l.flatMap recL)).size:Int)+1)=((A % ((l.flatMap recL).length+1):Nat):Int):=by rw[u,Qp];rfl
  have i:A % ((l.flatMap recL).length+1)<(l.flatMap recL).length+1:=Nat.mod_lt _ (by omega);rw[jTj (by rw[Qp];exact i64 (by omega) (by omega)),jTj (by rw[Qp];omega),s];generalize A % ((l.flatMap recL).length+1)=sz at i;obtain⟨t,f,r,m⟩:=Qsz l 0 sz g (Nat.zero_le _);rw[Nat.sub_zero] at f;generalize (Qp0 0 l).countP (·<=sz)=w at f m;rw[QjT _ (by omega),jBj];have q:=Ql1 (Qo3 g w) (Qrq d w) r;rw[<-f] at q;have j:((l.flatMap recL).take sz).length<=2000:=by rw[List.length_take];omega
  obtain⟨G,h,F⟩:=Qsq (l.take w) (l.drop w) [] 0 c (by rw[List.take_append_drop];exact hc);refine bnd (QlK (n:=5000) (by decide) j) ?_;refine bnd (Qth (n:=5000) (by decide) j (by rw[List.length_take];omega) (Qo3 g w) q (by split<;>simp) h) ?_;rw[q];dsimp only;have a:=fun x y:Int=>Qtg (x:=x) (y:=y) v z g m h;by_cases k:t=[]
  ·rw[jTj k,jTj rfl];exact a _ _
  ·rw[jFj k,jFj (by decide),jTj rfl];exact a _ _
theorem Qqv (a:jVj)(e:okAs [(false,[.lst true [.int .i64,.str,.lst false [.str],.lst false [.int .i64],.str]]),(false,[.int .u16])] a):Computes cx 3 a (.v (.bool true)):=by obtain⟨j,l,rfl,f,c⟩:=QeA e;obtain⟨h,rfl⟩:=QtA (QhJ f);obtain⟨k,m,rfl,g,d⟩:=QeA c;obtain⟨i,rfl,b⟩:=ok_i (QhJ g);have b1:=QtD b;cases Qj3 d;exact Qqi (QqL h b1)
end Go.Proofs.YtmhkcfjajpjigaaGreatDoor
