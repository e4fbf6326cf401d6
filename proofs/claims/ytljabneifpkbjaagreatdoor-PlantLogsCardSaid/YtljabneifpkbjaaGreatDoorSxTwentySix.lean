/- What the printed contracts lean on where a map is looked up. -/
import Derived.Test.YtljabneifpkbjaaGreatDoorSxTwentyFour
namespace Go.SX
theorem Qdv {α:Type} {un:D→Option α} {enc:α→D} (hun:∀ {d:D} {x:α},un d=some x→d=enc x) {k:Value} {es:jVj} {x:α} (h:(VY k es).bind un=some x):VY k es=some (enc x):=by
 obtain ⟨d,h1,h2⟩:=ZX h
 rw [h1,hun h2]
theorem mno {k:Value} {es:jVj} (h:¬ (VY k es).isSome=true):VY k es=none:=by
 cases hm:VY k es with
 | none=>rfl
 | some x=>rw [hm] at h;exact absurd rfl h
theorem QbG {k:Value} {z x:D} {es:jVj} (hm:mok k es=true) (h:VY k es=some x):Zi true k z es=some (.tup [x,B true]):=by
 unfold Zi;rw [hm,h]
theorem QaB {k:Value} {z:D} {es:jVj} (hm:mok k es=true) (h:VY k es=none):Zi true k z es=some (.tup [z,B false]):=by
 unfold Zi;rw [hm,h]
theorem QO {ok:Bool} {z r:D} {es:jVj} {k c:jSj} {l:List UInt8} (h:k.data.toList=l) (hc:c.data.toList=l) (hl:Zi ok (.string c) z es=some r):Zi ok (.string k) z es=some r:=by
 have:k=c:=by
  cases k;cases c
  simp only [ByteArray.mk.injEq]
  exact Array.toList_inj.1 (h.trans hc.symm)
 rw [this];exact hl
end Go.SX
