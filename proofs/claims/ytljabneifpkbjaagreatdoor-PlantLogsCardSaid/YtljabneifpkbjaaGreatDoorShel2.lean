/- What strings.Trim, strings.Count and stringslite.IndexByte compute, from the kit's shelf. An own text; the layings as the kit's tools lay-shelf.mjs and lay-plain.mjs print them for this seat. -/
import Derived.Test.YtljabneifpkbjaaGreatDoorShelf
import Derived.Shelf.Small.Strs
import Derived.Shelf.Strings.Search1
import Derived.Shelf.Strings.Search3
import Derived.Shelf.Strings.Count
import Derived.Shelf.Strings.SlTrimAscii
set_option linter.unusedVariables false
set_option linter.unusedSimpArgs false
set_option linter.unnecessarySimpa false
set_option maxRecDepth 10000
namespace Go.Proofs.YtljabneifpkbjaaGreatDoor
open Go.SX Go.RowKit Go.Shelf
def Tryz.lays160_ren:Go.Shelf.Ren:=⟨fun | 160=>127 | 232=>208 | 231=>207 | 227=>209 | 234=>211 | 233=>210 | 236=>213 | 235=>212 | 228=>228 | 271=>230 | 151=>229 | 197=>221 | 120=>241 | 152=>240 | 260=>237 | 137=>247 | 119=>248 | 224=>226 | 225=>225 | 217=>224 | 266=>238 | n=>n,fun | 9=>9 | 4=>4 | 3=>3 | 5=>5 | 117=>242 | 116=>241 | 0=>0 | 124=>245 | 21=>21 | 105=>250 | 46=>255 | 119=>276 | 139=>279 | 138=>278 | n=>n,fun | 3=>2 | 4=>3 | n=>n⟩
theorem Tryz.lays160:Go.Proofs.Lays.n160 Tryz.prog Tryz.lays160_ren:={
 mixed:=by kernel_rfl
 f119:=Tryz.func248.trans (congrArg some (by kernel_rfl))
 f120:=Tryz.func241.trans (congrArg some (by kernel_rfl))
 f137:=Tryz.func247.trans (congrArg some (by kernel_rfl))
 f151:=Tryz.func229.trans (congrArg some (by kernel_rfl))
 f152:=Tryz.func240.trans (congrArg some (by kernel_rfl))
 f160:=Tryz.func127.trans (congrArg some (by kernel_rfl))
 f197:=Tryz.func221.trans (congrArg some (by kernel_rfl))
 f217:=Tryz.func224.trans (congrArg some (by kernel_rfl))
 f224:=Tryz.func226.trans (congrArg some (by kernel_rfl))
 f225:=Tryz.func225.trans (congrArg some (by kernel_rfl))
 f227:=Tryz.func209.trans (congrArg some (by kernel_rfl))
 f228:=Tryz.func228.trans (congrArg some (by kernel_rfl))
 f231:=Tryz.func207.trans (congrArg some (by kernel_rfl))
 f232:=Tryz.func208.trans (congrArg some (by kernel_rfl))
 f233:=Tryz.func210.trans (congrArg some (by kernel_rfl))
 f234:=Tryz.func211.trans (congrArg some (by kernel_rfl))
 f235:=Tryz.func212.trans (congrArg some (by kernel_rfl))
 f236:=Tryz.func213.trans (congrArg some (by kernel_rfl))
 f260:=Tryz.func237.trans (congrArg some (by kernel_rfl))
 f266:=Tryz.func238.trans (congrArg some (by kernel_rfl))
 f271:=Tryz.func230.trans (congrArg some (by kernel_rfl))
 t0:=Tryz.underlying0
 a0:=Tryz.isAgg0
 z0:=Tryz.sizeOf0
 v0:=Tryz.zeroValue0
 t3:=Tryz.underlying3
 a3:=Tryz.isAgg3
 z3:=Tryz.sizeOf3
 v3:=Tryz.zeroValue3
 t4:=Tryz.underlying4
 a4:=Tryz.isAgg4
 z4:=Tryz.sizeOf4
 v4:=Tryz.zeroValue4
 t5:=Tryz.underlying5
 a5:=Tryz.isAgg5
 z5:=Tryz.sizeOf5
 v5:=Tryz.zeroValue5
 t9:=Tryz.underlying9
 a9:=Tryz.isAgg9
 z9:=Tryz.sizeOf9
 v9:=Tryz.zeroValue9
 t21:=Tryz.underlying21
 a21:=Tryz.isAgg21
 z21:=Tryz.sizeOf21
 v21:=Tryz.zeroValue21
 t46:=Tryz.underlying255
 a46:=Tryz.isAgg255
 z46:=Tryz.sizeOf255
 v46:=Tryz.zeroValue255
 t105:=Tryz.underlying250
 a105:=Tryz.isAgg250
 z105:=Tryz.sizeOf250
 v105:=Tryz.zeroValue250
 t116:=Tryz.underlying241
 a116:=Tryz.isAgg241
 z116:=Tryz.sizeOf241
 t117:=Tryz.underlying242
 a117:=Tryz.isAgg242
 z117:=Tryz.sizeOf242
 v117:=Tryz.zeroValue242
 t119:=Tryz.underlying276
 a119:=Tryz.isAgg276
 z119:=Tryz.sizeOf276
 t124:=Tryz.underlying245
 a124:=Tryz.isAgg245
 z124:=Tryz.sizeOf245
 v124:=Tryz.zeroValue245
 t138:=Tryz.underlying278
 a138:=Tryz.isAgg278
 z138:=Tryz.sizeOf278
 v138:=Tryz.zeroValue278
 t139:=Tryz.underlying279
 a139:=Tryz.isAgg279
 z139:=Tryz.sizeOf279
 v139:=Tryz.zeroValue279
 g3:=by kernel_rfl
 g4:=by kernel_rfl }
def Tryz.lays217_ren:Go.Shelf.Ren:=⟨fun | 217=>224 | 266=>238 | n=>n,fun | 9=>9 | 5=>5 | 3=>3 | n=>n,fun | n=>n⟩
theorem Tryz.lays217:Go.Proofs.Lays.n217 Tryz.prog Tryz.lays217_ren:={
 mixed:=by kernel_rfl
 f217:=Tryz.func224.trans (congrArg some (by kernel_rfl))
 f266:=Tryz.func238.trans (congrArg some (by kernel_rfl))
 t3:=Tryz.underlying3
 a3:=Tryz.isAgg3
 z3:=Tryz.sizeOf3
 v3:=Tryz.zeroValue3
 t5:=Tryz.underlying5
 a5:=Tryz.isAgg5
 z5:=Tryz.sizeOf5
 v5:=Tryz.zeroValue5
 t9:=Tryz.underlying9
 a9:=Tryz.isAgg9
 z9:=Tryz.sizeOf9
 v9:=Tryz.zeroValue9 }
def Tryz.lays138_ren:Go.Shelf.Ren:=⟨fun | 138=>196 | 195=>220 | 218=>222 | 143=>197 | 219=>206 | 217=>224 | 225=>225 | 224=>226 | 267=>227 | 266=>238 | 314=>239 | n=>n,fun | 9=>9 | 3=>3 | 4=>4 | 5=>5 | 0=>0 | 46=>255 | 146=>268 | 51=>267 | n=>n,fun | 1=>0 | n=>n⟩
theorem Tryz.lays138:Go.Proofs.Lays.n138 Tryz.prog Tryz.lays138_ren:={
 mixed:=by kernel_rfl
 f138:=Tryz.func196.trans (congrArg some (by kernel_rfl))
 f143:=Tryz.func197.trans (congrArg some (by kernel_rfl))
 f195:=Tryz.func220.trans (congrArg some (by kernel_rfl))
 f217:=Tryz.func224.trans (congrArg some (by kernel_rfl))
 f218:=Tryz.func222.trans (congrArg some (by kernel_rfl))
 f219:=Tryz.func206.trans (congrArg some (by kernel_rfl))
 f224:=Tryz.func226.trans (congrArg some (by kernel_rfl))
 f225:=Tryz.func225.trans (congrArg some (by kernel_rfl))
 f266:=Tryz.func238.trans (congrArg some (by kernel_rfl))
 f267:=Tryz.func227.trans (congrArg some (by kernel_rfl))
 f314:=Tryz.func239.trans (congrArg some (by kernel_rfl))
 t0:=Tryz.underlying0
 a0:=Tryz.isAgg0
 z0:=Tryz.sizeOf0
 v0:=Tryz.zeroValue0
 t3:=Tryz.underlying3
 a3:=Tryz.isAgg3
 z3:=Tryz.sizeOf3
 v3:=Tryz.zeroValue3
 t4:=Tryz.underlying4
 a4:=Tryz.isAgg4
 z4:=Tryz.sizeOf4
 v4:=Tryz.zeroValue4
 t5:=Tryz.underlying5
 a5:=Tryz.isAgg5
 z5:=Tryz.sizeOf5
 v5:=Tryz.zeroValue5
 t9:=Tryz.underlying9
 a9:=Tryz.isAgg9
 z9:=Tryz.sizeOf9
 v9:=Tryz.zeroValue9
 t46:=Tryz.underlying255
 a46:=Tryz.isAgg255
 z46:=Tryz.sizeOf255
 v46:=Tryz.zeroValue255
 t51:=Tryz.underlying267
 a51:=Tryz.isAgg267
 z51:=Tryz.sizeOf267
 v51:=Tryz.zeroValue267
 t146:=Tryz.underlying268
 a146:=Tryz.isAgg268
 z146:=Tryz.sizeOf268
 v146:=Tryz.zeroValue268
 g1:=by kernel_rfl }
theorem QkL {f:FuncId} {x1 x2 y:Value} (h:∀ w:World,Calls Tryz.prog f #[x1,x2] w fun e w'=>e=.returned y∧Below w.heap.size w w'):Computes cx f [.v x1,.v x2] (.v y):=by
 intro w F vs hF hG hl hd
 match vs,hl with
 | [a,b],_ =>
  rw [dr_v (hd 0 _ _ rfl rfl),dr_v (hd 1 _ _ rfl rfl)]
  exact (h w).mono fun e w' hh=>⟨_,hh.1,.v _,QbS hh.2⟩
theorem Qlt {w w' : World} (h:w'=w):Below w.heap.size w w':=by rw [h];exact Below.refl _ _
def Qi6 (n:Nat) (s:jSj) (c:Int):Option Int:=some (Lib.indexByte s.data.toList c.toNat.toUInt8)
theorem QjZ {n:Nat} {s:jSj} {c r:Int} (h:Qi6 n s c=some r):Computes cx 224 [.v (.string s),.v (.int .u8 c)] (.v (.int .i64 r)):=by
 simp only [Qi6,jIj] at h;subst h
 exact QkL fun w=>(Any.stringslite_IndexByte Tryz.lays217 s c w).mono fun e w' hh=>⟨hh.1,Qlt hh.2⟩
def QjA (n:Nat) (s sep:jSj):Option Int:=match sep with
 | ⟨⟨[c]⟩⟩=>some (Lib.countByte s.data.toList c)
 | _=>none
theorem QkY {n:Nat} {s sep:jSj} {r:Int} (h:QjA n s sep=some r):Computes cx 196 [.v (.string s),.v (.string sep)] (.v (.int .i64 r)):=by
 unfold QjA at h
 split at h
 case h_2=>cases h
 rename_i c
 simp only [jIj] at h;subst h
 exact QkL fun w=>(Any.strings_Count_one Tryz.lays138 s c w).mono fun e w' hh=>⟨hh.1,Qlt hh.2⟩
def Qjr (n:Nat) (s cutset:jSj):Option jSj :=
 if s.size≤1000000∧cutset.size≤1000∧cutset.data.toList.all (fun b=>decide (b.toNat < 128))=true then some ⟨(Lib.trimS s.data.toList cutset.data.toList).toArray⟩ else none
theorem Qln {n:Nat} {s cutset r:jSj} (h:Qjr n s cutset=some r):Computes cx 127 [.v (.string s),.v (.string cutset)] (.v (.string r)):=by
 unfold Qjr at h
 split at h
 case isFalse=>cases h
 rename_i hi
 cases h
 exact QkL fun w=>Any.strings_Trim_laid Tryz.lays160 (by kernel_rfl) s cutset w (by omega) (by omega) (ascii_of_all hi.2.2)
end Go.Proofs.YtljabneifpkbjaaGreatDoor
