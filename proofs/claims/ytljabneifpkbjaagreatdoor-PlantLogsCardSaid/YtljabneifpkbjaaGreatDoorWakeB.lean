/- The fixed examples: lines of the console. An own text, printed by an own program. -/
import Derived.Test.YtljabneifpkbjaaGreatDoorWakeD
set_option linter.unusedVariables false
set_option linter.unusedSimpArgs false
set_option linter.unnecessarySimpa false
set_option maxRecDepth 100000
namespace Go.Proofs.YtljabneifpkbjaaGreatDoor
open Go.SX
theorem do18:ComputesO cx 50 [.ptr 0 0 0 0 0,.d (.v (.string ⟨#[97,105,109,32,97,32,55]⟩))] (some cs9) (.d (.tup [.v (.string ⟨#[]⟩),I 29])) cs9 []:=W7 [] [] (b:=0) (ob:=[]) cs9 (by kernel_rfl) trivial
theorem do19:ComputesO cx 50 [.ptr 0 0 0 0 0,.d (.v (.string ⟨#[114,101,115,101,116,32,57]⟩))] (some cs9) (.d (.tup [.v (.string ⟨#[100,111,110,101,32,49,48]⟩),I 0])) cs10 []:=W7 [] [] (b:=0) (ob:=[]) cs9 (by kernel_rfl) trivial
theorem do20:ComputesO cx 50 [.ptr 0 0 0 0 0,.d (.v (.string ⟨#[111,102,102,101,114,32,111,32,57,32,49,48,32,50,48,32,53,48,32,49,48,48]⟩))] (some cs10) (.d (.tup [.v (.string ⟨#[100,111,110,101,32,49,49]⟩),I 0])) G2 []:=W7 [] [] (b:=0) (ob:=[]) cs10 (by kernel_rfl) trivial
theorem do21:ComputesO cx 50 [.ptr 0 0 0 0 0,.d (.v (.string ⟨#[100,101,108,105,118,101,114,32,111,32,57,32,53]⟩))] (some G2) (.d (.tup [.v (.string ⟨#[]⟩),I 14])) G2 []:=W7 [] [] (b:=0) (ob:=[]) G2 (by kernel_rfl) trivial
theorem do22:ComputesO cx 50 [.ptr 0 0 0 0 0,.d (.v (.string ⟨#[100,101,108,105,118,101,114,32,111,32,49,48,32,52,49]⟩))] (some G2) (.d (.tup [.v (.string ⟨#[]⟩),I 16])) G2 []:=W7 [] [] (b:=0) (ob:=[]) G2 (by kernel_rfl) trivial
theorem do23:ComputesO cx 50 [.ptr 0 0 0 0 0,.d (.v (.string ⟨#[100,101,108,105,118,101,114,32,111,32,49,48,32,51,48]⟩))] (some G2) (.d (.tup [.v (.string ⟨#[100,111,110,101,32,49,50]⟩),I 0])) Y1 []:=W7 [] [] (b:=0) (ob:=[]) G2 (by kernel_rfl) trivial
theorem do24:ComputesO cx 50 [.ptr 0 0 0 0 0,.d (.v (.string ⟨#[117,110,100,111]⟩))] (some Y1) (.d (.tup [.v (.string ⟨#[]⟩),I 21])) Y1 []:=W7 [] [] (b:=0) (ob:=[]) Y1 (by kernel_rfl) trivial
theorem do25:ComputesO cx 50 [.ptr 0 0 0 0 0,.d (.v (.string ⟨#[98,111,111,107,115]⟩))] (some Y1) (.d (.tup [.v (.string ⟨#[52,48,48,48,48,48,48,48,32,49,48,48,48,48,48,48,48,32,48]⟩),I 0])) Y1 []:=W7 [] [] (b:=0) (ob:=[]) Y1 (by kernel_rfl) trivial
theorem do26:ComputesO cx 50 [.ptr 0 0 0 0 0,.d (.v (.string ⟨#[111,102,102,101,114,115]⟩))] (some Y1) (.d (.tup [.v (.string ⟨#[111,32,50,48]⟩),I 0])) Y1 []:=W7 [] [] (b:=0) (ob:=[]) Y1 (by kernel_rfl) trivial
theorem do27:ComputesO cx 50 [.ptr 0 0 0 0 0,.d (.v (.string ⟨#[98,105,108,108,32,111,32,49,57]⟩))] (some Y1) (.d (.tup [.v (.string ⟨#[]⟩),I 32])) Y1 []:=W7 [] [] (b:=0) (ob:=[]) Y1 (by kernel_rfl) trivial
theorem do28:ComputesO cx 50 [.ptr 0 0 0 0 0,.d (.v (.string ⟨#[98,105,108,108,32,111,32,50,48]⟩))] (some Y1) (.d (.tup [.v (.string ⟨#[100,111,110,101,32,49,51]⟩),I 0])) VS []:=W7 [] [] (b:=0) (ob:=[]) Y1 (by kernel_rfl) trivial
theorem do29:ComputesO cx 50 [.ptr 0 0 0 0 0,.d (.v (.string ⟨#[98,111,111,107,115]⟩))] (some VS) (.d (.tup [.v (.string ⟨#[52,48,48,48,48,48,48,48,32,49,48,48,48,48,48,48,48,32,45,49,48,48,48]⟩),I 0])) VS []:=W7 [] [] (b:=0) (ob:=[]) VS (by kernel_rfl) trivial
theorem do30:ComputesO cx 50 [.ptr 0 0 0 0 0,.d (.v (.string ⟨#[111,102,102,101,114,115]⟩))] (some VS) (.d (.tup [.v (.string ⟨#[110,111,110,101]⟩),I 0])) VS []:=W7 [] [] (b:=0) (ob:=[]) VS (by kernel_rfl) trivial
theorem do31:ComputesO cx 50 [.ptr 0 0 0 0 0,.d (.v (.string ⟨#[100,101,108,105,118,101,114,32,111,32,50,48,32,49]⟩))] (some VS) (.d (.tup [.v (.string ⟨#[]⟩),I 23])) VS []:=W7 [] [] (b:=0) (ob:=[]) VS (by kernel_rfl) trivial
theorem do32:ComputesO cx 50 [.ptr 0 0 0 0 0,.d (.v (.string ⟨#[115,116,97,116,101]⟩))] (some VS) (.d (.tup [.v (.string ⟨#[102,105,108,108,101,100,32,114,101,97,100,121,32,56,48,48]⟩),I 0])) VS []:=W7 [] [] (b:=0) (ob:=[]) VS (by kernel_rfl) trivial
theorem do33:ComputesO cx 50 [.ptr 0 0 0 0 0,.d (.v (.string ⟨#[100,105,114,116,32,98]⟩))] (some VS) (.d (.tup [.v (.string ⟨#[53,48,48]⟩),I 0])) VS []:=W7 [] [] (b:=0) (ob:=[]) VS (by kernel_rfl) trivial
end Go.Proofs.YtljabneifpkbjaaGreatDoor
