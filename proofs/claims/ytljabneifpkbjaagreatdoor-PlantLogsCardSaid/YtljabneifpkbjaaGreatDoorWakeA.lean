/- The fixed examples: lines of the console. An own text, printed by an own program. -/
import Derived.Test.YtljabneifpkbjaaGreatDoorWakeD
set_option linter.unusedVariables false
set_option linter.unusedSimpArgs false
set_option linter.unnecessarySimpa false
set_option maxRecDepth 100000
namespace Go.Proofs.YtljabneifpkbjaaGreatDoor
open Go.SX
theorem do1:ComputesO cx 50 [.ptr 0 0 0 0 0,.d (.v (.string ⟨#[115,101,99,116,111,114,32,110,32,48]⟩))] (some cs0) (.d (.tup [.v (.string ⟨#[100,111,110,101,32,49]⟩),I 0])) cs1 []:=W7 [] [] (b:=0) (ob:=[]) cs0 (by kernel_rfl) trivial
theorem do2:ComputesO cx 50 [.ptr 0 0 0 0 0,.d (.v (.string ⟨#[109,105,114,114,111,114,32,97,32,110,32,48,32,49,48]⟩))] (some cs1) (.d (.tup [.v (.string ⟨#[100,111,110,101,32,50]⟩),I 0])) cs2 []:=W7 [] [] (b:=0) (ob:=[]) cs1 (by kernel_rfl) trivial
theorem do3:ComputesO cx 50 [.ptr 0 0 0 0 0,.d (.v (.string ⟨#[109,105,114,114,111,114,32,98,32,110,32,48,32,50,48]⟩))] (some cs2) (.d (.tup [.v (.string ⟨#[100,111,110,101,32,51]⟩),I 0])) cs3 []:=W7 [] [] (b:=0) (ob:=[]) cs2 (by kernel_rfl) trivial
theorem do4:ComputesO cx 50 [.ptr 0 0 0 0 0,.d (.v (.string ⟨#[115,111,105,108,32,98,32,49,32,53,48,48]⟩))] (some cs3) (.d (.tup [.v (.string ⟨#[100,111,110,101,32,52]⟩),I 0])) cs4 []:=W7 [] [] (b:=0) (ob:=[]) cs3 (by kernel_rfl) trivial
theorem do5:ComputesO cx 50 [.ptr 0 0 0 0 0,.d (.v (.string ⟨#[97,105,109,32,97,32,49]⟩))] (some cs4) (.d (.tup [.v (.string ⟨#[]⟩),I 30])) cs4 []:=W7 [] [] (b:=0) (ob:=[]) cs4 (by kernel_rfl) trivial
theorem do6:ComputesO cx 50 [.ptr 0 0 0 0 0,.d (.v (.string ⟨#[102,105,108,108,32,50]⟩))] (some cs4) (.d (.tup [.v (.string ⟨#[100,111,110,101,32,53]⟩),I 0])) cs5 []:=W7 [] [] (b:=0) (ob:=[]) cs4 (by kernel_rfl) trivial
theorem do7:ComputesO cx 50 [.ptr 0 0 0 0 0,.d (.v (.string ⟨#[115,117,110,32,50,32,56,48,48]⟩))] (some cs5) (.d (.tup [.v (.string ⟨#[100,111,110,101,32,54]⟩),I 0])) cs6 []:=W7 [] [] (b:=0) (ob:=[]) cs5 (by kernel_rfl) trivial
theorem do8:ComputesO cx 50 [.ptr 0 0 0 0 0,.d (.v (.string ⟨#[97,105,109,32,97,32,51]⟩))] (some cs6) (.d (.tup [.v (.string ⟨#[100,111,110,101,32,55]⟩),I 0])) cs7 []:=W7 [] [] (b:=0) (ob:=[]) cs6 (by kernel_rfl) trivial
theorem do9:ComputesO cx 50 [.ptr 0 0 0 0 0,.d (.v (.string ⟨#[97,105,109,32,98,32,52]⟩))] (some cs7) (.d (.tup [.v (.string ⟨#[100,111,110,101,32,56]⟩),I 0])) cs8 []:=W7 [] [] (b:=0) (ob:=[]) cs7 (by kernel_rfl) trivial
theorem do10:ComputesO cx 50 [.ptr 0 0 0 0 0,.d (.v (.string ⟨#[114,97,116,101]⟩))] (some cs8) (.d (.tup [.v (.string ⟨#[49,54,48,48,48,48,48,48]⟩),I 0])) cs8 []:=W7 [] [] (b:=0) (ob:=[]) cs8 (by kernel_rfl) trivial
theorem do11:ComputesO cx 50 [.ptr 0 0 0 0 0,.d (.v (.string ⟨#[98,111,111,107,115]⟩))] (some cs8) (.d (.tup [.v (.string ⟨#[56,48,48,48,48,48,48,32,56,48,48,48,48,48,48,32,48]⟩),I 0])) cs8 []:=W7 [] [] (b:=0) (ob:=[]) cs8 (by kernel_rfl) trivial
theorem do12:ComputesO cx 50 [.ptr 0 0 0 0 0,.d (.v (.string ⟨#[99,111,117,110,116,32,110]⟩))] (some cs8) (.d (.tup [.v (.string ⟨#[50,32,50]⟩),I 0])) cs8 []:=W7 [] [] (b:=0) (ob:=[]) cs8 (by kernel_rfl) trivial
theorem do13:ComputesO cx 50 [.ptr 0 0 0 0 0,.d (.v (.string ⟨#[100,101,102,101,99,116,32,97,32,53]⟩))] (some cs8) (.d (.tup [.v (.string ⟨#[]⟩),I 31])) cs8 []:=W7 [] [] (b:=0) (ob:=[]) cs8 (by kernel_rfl) trivial
theorem do14:ComputesO cx 50 [.ptr 0 0 0 0 0,.d (.v (.string ⟨#[100,114,97,105,110,32,53]⟩))] (some cs8) (.d (.tup [.v (.string ⟨#[]⟩),I 31])) cs8 []:=W7 [] [] (b:=0) (ob:=[]) cs8 (by kernel_rfl) trivial
theorem do15:ComputesO cx 50 [.ptr 0 0 0 0 0,.d (.v (.string ⟨#[116,114,105,112,32,54]⟩))] (some cs8) (.d (.tup [.v (.string ⟨#[100,111,110,101,32,57]⟩),I 0])) cs9 []:=W7 [] [] (b:=0) (ob:=[]) cs8 (by kernel_rfl) trivial
theorem do16:ComputesO cx 50 [.ptr 0 0 0 0 0,.d (.v (.string ⟨#[97,105,109,101,100]⟩))] (some cs9) (.d (.tup [.v (.string ⟨#[110,111,110,101]⟩),I 0])) cs9 []:=W7 [] [] (b:=0) (ob:=[]) cs9 (by kernel_rfl) trivial
theorem do17:ComputesO cx 50 [.ptr 0 0 0 0 0,.d (.v (.string ⟨#[98,111,111,107,115]⟩))] (some cs9) (.d (.tup [.v (.string ⟨#[52,48,48,48,48,48,48,48,32,52,48,48,48,48,48,48,48,32,48]⟩),I 0])) cs9 []:=W7 [] [] (b:=0) (ob:=[]) cs9 (by kernel_rfl) trivial
end Go.Proofs.YtljabneifpkbjaaGreatDoor
