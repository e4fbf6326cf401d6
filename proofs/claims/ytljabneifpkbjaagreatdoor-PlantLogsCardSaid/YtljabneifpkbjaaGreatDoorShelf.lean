/- What strings.Join and strconv.Itoa compute, from the kit's shelf. An own text; the layings and the lines of 'Builder.Extra' as the kit's tools lay-shelf.mjs and lay-plain.mjs print them for this seat. -/
import Derived.Test.YtljabneifpkbjaaGreatDoorBase
import Derived.WalkKit
import Derived.WalkSpells
import Derived.WalkLawsBesides
import Derived.Laws.Externs
import Derived.Shelf.Strings.OnBuilder
import Derived.Shelf.Strconv.Itoa3
import Derived.Shelf.LaysM
set_option linter.unusedVariables false
set_option linter.unusedSimpArgs false
set_option linter.unnecessarySimpa false
set_option maxRecDepth 10000
namespace Go.Proofs.YtljabneifpkbjaaGreatDoor
open Go.SX Go.RowKit Go.Shelf
def Tryz.lays156_ren:Go.Shelf.Ren:=⟨fun | 156=>107 | 165=>192 | 166=>193 | 169=>194 | 240=>218 | 241=>219 | 276=>235 | 277=>236 | n=>n,fun | 31=>28 | 9=>9 | 3=>3 | 4=>4 | 0=>0 | 20=>20 | 72=>227 | 76=>231 | 70=>225 | 37=>111 | 75=>230 | 127=>248 | 164=>264 | 5=>5 | 80=>99 | n=>n,fun | n=>n⟩
theorem Tryz.lays156:Go.Proofs.Lays.n156 Tryz.prog Tryz.lays156_ren:={
 mixed:=by kernel_rfl
 f156:=Tryz.func107.trans (congrArg some (by kernel_rfl))
 f165:=Tryz.func192.trans (congrArg some (by kernel_rfl))
 f166:=Tryz.func193.trans (congrArg some (by kernel_rfl))
 f169:=Tryz.func194.trans (congrArg some (by kernel_rfl))
 f240:=Tryz.func218.trans (congrArg some (by kernel_rfl))
 f241:=Tryz.func219.trans (congrArg some (by kernel_rfl))
 f276:=Tryz.func235.trans (congrArg some (by kernel_rfl))
 f277:=Tryz.func236.trans (congrArg some (by kernel_rfl))
 t0:=Tryz.underlying0
 a0:=Tryz.isAgg0
 z0:=Tryz.sizeOf0
 v0:=Tryz.zeroValue0
 t3:=Tryz.underlying3
 a3:=Tryz.isAgg3
 z3:=Tryz.sizeOf3
 v3:=Tryz.zeroValue3
 t4:=Tryz.underlying4
 a4:=Tryz.isAgg4
 z4:=Tryz.sizeOf4
 v4:=Tryz.zeroValue4
 t9:=Tryz.underlying9
 a9:=Tryz.isAgg9
 z9:=Tryz.sizeOf9
 v9:=Tryz.zeroValue9
 t20:=Tryz.underlying20
 a20:=Tryz.isAgg20
 z20:=Tryz.sizeOf20
 v20:=Tryz.zeroValue20
 t31:=Tryz.underlying28
 a31:=Tryz.isAgg28
 z31:=Tryz.sizeOf28
 v31:=Tryz.zeroValue28
 t37:=Tryz.underlying111
 a37:=Tryz.isAgg111
 z37:=Tryz.sizeOf111
 v37:=Tryz.zeroValue111
 t70:=Tryz.underlying225
 a70:=Tryz.isAgg225
 z70:=Tryz.sizeOf225
 v70:=Tryz.zeroValue225
 t72:=Tryz.underlying227
 a72:=Tryz.isAgg227
 z72:=Tryz.sizeOf227
 v72:=Tryz.zeroValue227
 t75:=Tryz.underlying230
 a75:=Tryz.isAgg230
 z75:=Tryz.sizeOf230
 v75:=Tryz.zeroValue230
 t76:=Tryz.underlying231
 a76:=Tryz.isAgg231
 z76:=Tryz.sizeOf231
 v76:=Tryz.zeroValue231
 t127:=Tryz.underlying248
 a127:=Tryz.isAgg248
 z127:=Tryz.sizeOf248
 v127:=Tryz.zeroValue248
 t164:=Tryz.underlying264
 a164:=Tryz.isAgg264
 z164:=Tryz.sizeOf264
 v164:=Tryz.zeroValue264 }
theorem Tryz.Builder_Extra_156:Builder.Extra Tryz.prog Tryz.lays156_ren:={
 sizeBuilder:=by kernel_rfl
 liesBuilder:=by kernel_rfl
 t5:=Tryz.underlying5
 a5:=Tryz.isAgg5
 z5:=Tryz.sizeOf5
 v5:=Tryz.zeroValue5
 infoByte:=by kernel_rfl
 cellsByte:=by kernel_rfl
 sizeByte:=by kernel_rfl
 neB5:=by decide }
def Tryz.laysM171_ren:Go.Shelf.Ren:=⟨fun | 171=>105 | 243=>191 | 246=>217 | 283=>231 | 284=>232 | 285=>233 | 286=>234 | 129=>243 | 317=>242 | 318=>244 | 319=>245 | 320=>246 | 337=>249 | 338=>250 | n=>n,fun | 3=>3 | 9=>9 | 2=>2 | 4=>4 | 171=>258 | 0=>0 | 53=>259 | 37=>111 | 5=>5 | 173=>262 | 212=>272 | 51=>267 | 20=>20 | 213=>273 | 46=>255 | 232=>282 | 233=>283 | n=>n,fun | 17=>1 | 18=>4 | 19=>5 | n=>n⟩
theorem Tryz.laysM171:Go.Proofs.LaysM.n171 Tryz.prog Tryz.laysM171_ren:={
 mixed:=by kernel_rfl
 f129:=Tryz.func243.trans (congrArg some (by kernel_rfl))
 f171:=Tryz.func105.trans (congrArg some (by kernel_rfl))
 f243:=Tryz.func191.trans (congrArg some (by kernel_rfl))
 f246:=Tryz.func217.trans (congrArg some (by kernel_rfl))
 f283:=Tryz.func231.trans (congrArg some (by kernel_rfl))
 f284:=Tryz.func232.trans (congrArg some (by kernel_rfl))
 f285:=Tryz.func233.trans (congrArg some (by kernel_rfl))
 f286:=Tryz.func234.trans (congrArg some (by kernel_rfl))
 f317:=Tryz.func242.trans (congrArg some (by kernel_rfl))
 f318:=Tryz.func244.trans (congrArg some (by kernel_rfl))
 f319:=Tryz.func245.trans (congrArg some (by kernel_rfl))
 f320:=Tryz.func246.trans (congrArg some (by kernel_rfl))
 f337:=Tryz.func249.trans (congrArg some (by kernel_rfl))
 f338:=Tryz.func250.trans (congrArg some (by kernel_rfl))
 t0:=Tryz.underlying0
 a0:=Tryz.isAgg0
 z0:=Tryz.sizeOf0
 v0:=Tryz.zeroValue0
 t2:=Tryz.underlying2
 a2:=Tryz.isAgg2
 z2:=Tryz.sizeOf2
 v2:=Tryz.zeroValue2
 t3:=Tryz.underlying3
 a3:=Tryz.isAgg3
 z3:=Tryz.sizeOf3
 v3:=Tryz.zeroValue3
 t4:=Tryz.underlying4
 a4:=Tryz.isAgg4
 z4:=Tryz.sizeOf4
 v4:=Tryz.zeroValue4
 t5:=Tryz.underlying5
 a5:=Tryz.isAgg5
 z5:=Tryz.sizeOf5
 v5:=Tryz.zeroValue5
 t9:=Tryz.underlying9
 a9:=Tryz.isAgg9
 z9:=Tryz.sizeOf9
 v9:=Tryz.zeroValue9
 t20:=Tryz.underlying20
 a20:=Tryz.isAgg20
 z20:=Tryz.sizeOf20
 v20:=Tryz.zeroValue20
 t37:=Tryz.underlying111
 a37:=Tryz.isAgg111
 z37:=Tryz.sizeOf111
 v37:=Tryz.zeroValue111
 t46:=Tryz.underlying255
 a46:=Tryz.isAgg255
 z46:=Tryz.sizeOf255
 v46:=Tryz.zeroValue255
 t51:=Tryz.underlying267
 a51:=Tryz.isAgg267
 z51:=Tryz.sizeOf267
 v51:=Tryz.zeroValue267
 t53:=Tryz.underlying259
 a53:=Tryz.isAgg259
 z53:=Tryz.sizeOf259
 v53:=Tryz.zeroValue259
 t171:=Tryz.underlying258
 a171:=Tryz.isAgg258
 z171:=Tryz.sizeOf258
 v171:=Tryz.zeroValue258
 t173:=Tryz.underlying262
 a173:=Tryz.isAgg262
 z173:=Tryz.sizeOf262
 v173:=Tryz.zeroValue262
 t212:=Tryz.underlying272
 a212:=Tryz.isAgg272
 z212:=Tryz.sizeOf272
 v212:=Tryz.zeroValue272
 t213:=Tryz.underlying273
 a213:=Tryz.isAgg273
 z213:=Tryz.sizeOf273
 t232:=Tryz.underlying282
 a232:=Tryz.isAgg282
 z232:=Tryz.sizeOf282
 v232:=Tryz.zeroValue282
 t233:=Tryz.underlying283
 a233:=Tryz.isAgg283
 z233:=Tryz.sizeOf283
 v233:=Tryz.zeroValue283
 g17:=by kernel_rfl
 g18:=by kernel_rfl
 g19:=by kernel_rfl
 i0:=by kernel_rfl
 i2:=by kernel_rfl
 i3:=by kernel_rfl
 i4:=by kernel_rfl
 i5:=by kernel_rfl
 i9:=by kernel_rfl
 i20:=by kernel_rfl
 i37:=by kernel_rfl
 i46:=by kernel_rfl
 i51:=by kernel_rfl
 i53:=by kernel_rfl
 i171:=by kernel_rfl
 i173:=by kernel_rfl
 i212:=by kernel_rfl
 i232:=by kernel_rfl
 i233:=by kernel_rfl
 m17:=by kernel_rfl
 m18:=by kernel_rfl
 m19:=by kernel_rfl }
theorem QdK {w:World} {F:Nat→Prop} (h:GAt w F 1 pow10D):Lib.TabIs Tryz.prog w "internal/strconv.uint64pow10" .u64 Lib.pow10Tab:=by
 obtain ⟨⟨h1,h2,h3⟩,cs,t,fz,h4,h5⟩:=h
 have hg:Tryz.prog.globalNamed "internal/strconv.uint64pow10"=some 1:=by kernel_rfl
 unfold Lib.TabIs World.var?
 rw [hg]
 simp only [jBj,h4,jIj]
 apply Array.ext
 ·rw [h5];simp [pow10D,D.cells]
 ·intro i hi1 hi2
  have hi:i < Lib.pow10Tab.length:=by simpa using hi2
  have hc:pow10D.cells[i]?=some (.v (.int .u64 Lib.pow10Tab[i])):=by
   simp [pow10D,D.cells,hi]
  obtain ⟨y,y1,y2⟩:=h3 i _ hc
  rw [dr_v y2] at y1
  unfold World.cell? at y1
  simp only [h4,Nat.zero_add] at y1
  have y3:cs[i]?=some (Value.int IntKind.u64 Lib.pow10Tab[i]):=y1
  rw [Array.getElem?_eq_getElem hi1] at y3
  rw [Option.some.inj y3]
  simp
def Jk (n:Nat) (a:Int):Option jSj:=if Qh a then some ⟨(Lib.itoa a).toArray⟩ else none
theorem jd {n:Nat} {a:Int} {r:jSj} (h:Jk n a=some r):Computes cx 105 [I a] (.v (.string r)):=by
 unfold Jk at h
 split at h
 case isFalse=>cases h
 rename_i hi
 cases h
 intro w F vs hF hG hl hd
 match vs,hl with
 | [x],_ =>
  rw [dr_v (hd 0 _ _ rfl rfl)]
  have ht:=QdK (hG 1 _ rfl)
  refine (Any.strconv_Itoa Tryz.laysM171 a hi.1 hi.2 w ht).mono ?_
  rintro e w' ⟨he,k,os,rfl⟩
  refine ⟨_,he,.v _,⟨rfl,rfl,rfl,?_,fun r hr _=>?_⟩⟩
  ·simp [Sort.grow,World.drewN]
  ·simp only [Sort.grow,World.drewN]
   rw [Array.getElem?_append_left hr]
def yi:jVj→Option (List jSj)
 | []=>some []
 | d::l=>match JR d,yi l with
  | some x,some xs=>some (x::xs)
  | _,_=>none
theorem jX:∀ {l:jVj} {xs:List jSj},yi l=some xs→l=xs.map fun x=>.v (.string x)
 | [],xs,h=>by cases h;rfl
 | d::l,xs,h=>by
  unfold yi at h
  split at h
  ·rename_i x ys h1 h2
   cases h
   rw [YU h1,jX h2];rfl
  ·cases h
def QdS (xs:List jSj) (sep:jSj):jSj:=⟨(Lib.join (xs.map (·.data.toList)) sep.data.toList).toArray⟩
def Jj (n:Nat) (l:jVj) (sep:jSj):Option jSj :=
 (yi l).bind fun xs=>if xs.length≤140737488355328∧(Lib.join (xs.map (·.data.toList)) sep.data.toList).length≤140737488355328 then some (QdS xs sep) else none
theorem jc {n:Nat} {full:Bool} {sz:Nat} {l:jVj} {sep r:jSj} (h:Jj n l sep=some r):Computes cx 107 [.lst full sz l,.v (.string sep)] (.v (.string r)):=by
 unfold Jj at h
 obtain ⟨xs,hx,h⟩:=ZX h
 split at h
 case isFalse=>cases h
 rename_i hi
 cases h
 have hl:=jX hx
 intro w F vs hF hG hvl hd
 match vs,hvl with
 | [a,b],_ =>
  rw [dr_v (hd 1 _ _ rfl rfl)]
  have ha:=hd 0 _ _ rfl rfl
  cases ha with
  | lst _ _ _ a0 cap blk off ys hf hc haa hs hw hdr =>
   cases l with
   | nil =>
    cases xs with
    | cons x xs=>simp at hl
    | nil =>
     refine (Any.strings_Join_none Tryz.lays156 Tryz.Builder_Extra_156 a0 cap sep w).mono ?_
     rintro e w' ⟨he,rfl⟩
     exact ⟨_,he,.v _,Ext.refl _ _⟩
   | cons d0 l0 =>
    obtain ⟨h1,h2,h3⟩:=haa (by simp)
    subst h1
    have hlen:(d0::l0).length=xs.length:=by rw [hl];simp
    rw [hlen]
    refine (Any.strings_Join Tryz.lays156 Tryz.Builder_Extra_156 blk off cap xs sep w ?_ h3 hi.1 (by omega) hi.2).mono ?_
    ·intro j x hj
     have hj' : (d0::l0)[j]?=some (.v (.string x)):=by rw [hl];simp [hj]
     have hz:sz=1:=by have:=hs j _ hj';simpa [D.cells] using this.symm
     subst hz
     have q1:=(hw j _ 0 _ hj' rfl).1
     have q2:=dr_v (hdr j _ 0 _ hj' rfl)
     rw [q2] at q1
     simpa using q1
    ·rintro e w' ⟨he,hb⟩
     exact ⟨_,he,.v _,QbS hb⟩
end Go.Proofs.YtljabneifpkbjaaGreatDoor
