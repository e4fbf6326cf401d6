/- Lists that are accepted; registers as rows of values. An own text. -/
import Derived.Test.YtljabneifpkbjaaGreatDoorPAsk
set_option maxRecDepth 20000
namespace Go.Proofs.YtljabneifpkbjaaGreatDoor
open Go.SX
def okB (l:List Ev) (b:Nat):Bool:=decide (l.length≤b∧∀ e,e∈l→Yf e) && (match rep 0 [] l with
 | .inr _=>true
 | .inl _=>false)
theorem Qf9 {n:Nat} (hn:100≤n) (l:List Ev) (b:Nat) (hb:b≤30):Qe7 n (l.map Zr) (b:Int)=some (okB l b):=by
 unfold Qe7 okB
 rw [wu hn l b (by omega),jBj]
 by_cases h:l.length≤b∧∀ e,e∈l→Yf e
 ·rw [jTj (jDj h),yp hn l (by omega) h.2,jBj,jDj h]
  cases hr:rep 0 [] l with
  | inl p =>
   have hne:¬ p.2=0:=yn _ _ _ _ hr
   show some (p.2 == 0)=_
   rw [show (p.2 == 0)=false by simpa using hne];rfl
  | inr c=>rfl
 ·rw [jFj (by simpa using h),jEj h];rfl
theorem QgZ {l:List Ev} {b:Nat} (h:okB l b=true):(l.length≤b∧∀ e,e∈l→Yf e)∧∃ c,rep 0 [] l=.inr c:=by
 unfold okB at h
 rw [jAj] at h
 obtain ⟨h1,h2⟩:=h
 refine ⟨of_decide_eq_true h1,?_⟩
 cases hr:rep 0 [] l with
 | inl p=>rw [hr] at h2;cases h2
 | inr c=>exact ⟨c,rfl⟩
theorem Qf0 (c:List Ev):repD (.inr c)=((QD c).tick,(QD c).level,(QD c).filled,(QD c).tripped,(QD c).light,(QD c).heat,(QD c).money,(QD c).sectors.map Sd,(QD c).mirrors.map QY,(QD c).offers.map Zj,0,0):=rfl
end Go.Proofs.YtljabneifpkbjaaGreatDoor
