/-
  A part of the proof that FabricPads answers true at every input. No condition.
-/
import Derived.NoCompiler
import Derived.Test.YtnjjhhbogdiceaaGreatYh
import Derived.Test.YtnjjhhbogdiceaaGreatZg
import Derived.Test.YtnjjhhbogdiceaaGreatV5
set_option linter.unusedVariables false
set_option maxRecDepth 100000
namespace Go.Vm.T3
open Go Go.Vm
abbrev exG : V := .agg [.int .i64 2, .int .i64 1, .int .i64 1, .int .i64 1, .ints .frz .i64 [1, 2]]
abbrev exC (s : Int) : V := .agg [.ints .frz .i64 [0, 0, 1, 1, 1, 1, s, 0, 0, 0, 0, 0, 0, 0, 0, 0, 0, 0], .ints .frz .i64 [2, 0], .ints .frz .i64 [1, 0], .ints .frz .i64 [0, 0]]
abbrev exA (r : Int) : V := .agg [.int .i64 2, .int .i64 1, .int .i64 1, .int .i64 1, .ints .frz .i64 [1, 2], .ints .frz .i64 [0, 0, 1, 1, 1, 1, 2, 0, 0, 0, 0, 0, 0, 0, 0, 0, 0, 0], .ints .frz .i64 [2, 0], .ints .frz .i64 [1, 0], .ints .frz .i64 [0, 0], .ints .bor .i64 [-1, -1, 6, 6, 6, 6, 1, -1, -1, -1, -1, -1, -1, -1, -1, -1, -1, -1], .ints .bor .i64 [r], .vals .bor 29 [], .bools .bor []]
abbrev exE : V := .agg [.vals .bor 151 [], .vals .bor 151 []]
abbrev exI : V := .agg [.vals .bor 166 [], .bools .bor []]
abbrev exF (r : Int) : V := .agg [.bool false, .ints .new .i64 [r], .vals .new 29 [], .bools .new [], .vals .new 166 []]
noncomputable def exT : List (Nat × Fk) := [(36, w36 (fun R => f36 200)), (25, w25 (fun R => f25 200)), (37, w37 (fun R => f37 200)), (16, w16 (fun R => f16 200)), (50, w50 (fun R => f50 200)), (70, w70 (fun R => f70 200)), (61, w61 (fun R => f61 200)), (63, w63 (fun R => f63 200)), (14, w14 (fun R => f14 200)), (62, w62 (fun R => f62 200)), (32, w32 (fun R => f32 200))]
theorem ex19_0 : pureBody env 200 (callsT env 200 (tabOf exT) spG 30) 19 ([.int .i64 2]) = some ([.agg [.int .i64 2, .int .i64 1, .int .i64 1, .int .i64 1, .ints .frz .i64 [1, 2], .ints .frz .i64 [0, 0, 1, 1, 1, 1, 2, 0, 0, 0, 0, 0, 0, 0, 0, 0, 0, 0], .ints .frz .i64 [2, 0], .ints .frz .i64 [1, 0], .ints .frz .i64 [0, 0], .ints .new .i64 [-1, -1, 6, 6, 6, 6, 1, -1, -1, -1, -1, -1, -1, -1, -1, -1, -1, -1], .ints .new .i64 [], .vals .new 29 [], .bools .new []]]) := by kernel_rfl
theorem ex19_1 : pureBody env 200 (callsT env 200 (tabOf exT) spG 30) 19 ([.int .i64 1]) = some ([.agg [.int .i64 2, .int .i64 1, .int .i64 1, .int .i64 1, .ints .frz .i64 [1, 2], .ints .frz .i64 [0, 0, 1, 1, 1, 1, 1, 0, 0, 0, 0, 0, 0, 0, 0, 0, 0, 0], .ints .frz .i64 [2, 0], .ints .frz .i64 [1, 0], .ints .frz .i64 [0, 0], .ints .new .i64 [-1, -1, 6, 6, 6, 6, 0, -1, -1, -1, -1, -1, -1, -1, -1, -1, -1, -1], .ints .new .i64 [], .vals .new 29 [], .bools .new []]]) := by kernel_rfl
def exl19 : List (List V × List V) := [([.int .i64 2], [.agg [.int .i64 2, .int .i64 1, .int .i64 1, .int .i64 1, .ints .frz .i64 [1, 2], .ints .frz .i64 [0, 0, 1, 1, 1, 1, 2, 0, 0, 0, 0, 0, 0, 0, 0, 0, 0, 0], .ints .frz .i64 [2, 0], .ints .frz .i64 [1, 0], .ints .frz .i64 [0, 0], .ints .new .i64 [-1, -1, 6, 6, 6, 6, 1, -1, -1, -1, -1, -1, -1, -1, -1, -1, -1, -1], .ints .new .i64 [], .vals .new 29 [], .bools .new []]]), ([.int .i64 1], [.agg [.int .i64 2, .int .i64 1, .int .i64 1, .int .i64 1, .ints .frz .i64 [1, 2], .ints .frz .i64 [0, 0, 1, 1, 1, 1, 1, 0, 0, 0, 0, 0, 0, 0, 0, 0, 0, 0], .ints .frz .i64 [2, 0], .ints .frz .i64 [1, 0], .ints .frz .i64 [0, 0], .ints .new .i64 [-1, -1, 6, 6, 6, 6, 0, -1, -1, -1, -1, -1, -1, -1, -1, -1, -1, -1], .ints .new .i64 [], .vals .new 29 [], .bools .new []]])]
theorem ex11_0 : pureBody env 200 (callsT env 200 (tabOf exT) spG 30) 11 ([exA 0]) = some ([.bools .new [true, false, false, false, false, false, false, false, false, false, false, false, false, false, false, false, false, false]]) := by kernel_rfl
theorem ex11_1 : pureBody env 200 (callsT env 200 (tabOf exT) spG 30) 11 ([exA 1]) = some ([.bools .new [false, true, true, true, true, true, true, false, false, false, false, false, false, false, false, false, false, false]]) := by kernel_rfl
def exl11 : List (List V × List V) := [([exA 0], [.bools .new [true, false, false, false, false, false, false, false, false, false, false, false, false, false, false, false, false, false]]), ([exA 1], [.bools .new [false, true, true, true, true, true, true, false, false, false, false, false, false, false, false, false, false, false]])]
theorem ex20_0 : pureBody env 200 (callsT env 200 (tabOf exT) spG 30) 20 ([exA 0, exE, exI]) = some ([exF 1]) := by kernel_rfl
theorem ex20_1 : pureBody env 200 (callsT env 200 (tabOf exT) spG 30) 20 ([exA 1, exE, exI]) = some ([exF 0]) := by kernel_rfl
def exl20 : List (List V × List V) := [([exA 0, exE, exI], [exF 1]), ([exA 1, exE, exI], [exF 0])]
theorem ex10_0 : pureBody env 200 (callsT env 200 (tabOf exT) spG 30) 10 ([exG, exC 2]) = some ([.bool false]) := by kernel_rfl
theorem ex10_1 : pureBody env 200 (callsT env 200 (tabOf exT) spG 30) 10 ([exG, exC 1]) = some ([.bool true]) := by kernel_rfl
def exl10 : List (List V × List V) := [([exG, exC 2], [.bool false]), ([exG, exC 1], [.bool true])]
theorem ex13_0 : pureBody env 200 (callsT env 200 (tabOf exT) spG 30) 13 ([exA 1, .bools .bor [false, true, true, true, true, true, true, false, false, false, false, false, false, false, false, false, false, false]]) = some ([.bool true]) := by kernel_rfl
theorem ex13_1 : pureBody env 200 (callsT env 200 (tabOf exT) spG 30) 13 ([exA 1, .bools .bor [true, false, false, false, false, false, false, false, false, false, false, false, false, false, false, false, false, false]]) = some ([.bool false]) := by kernel_rfl
def exl13 : List (List V × List V) := [([exA 1, .bools .bor [false, true, true, true, true, true, true, false, false, false, false, false, false, false, false, false, false, false]], [.bool true]), ([exA 1, .bools .bor [true, false, false, false, false, false, false, false, false, false, false, false, false, false, false, false, false, false]], [.bool false])]
theorem ex15_0 : pureBody env 200 (callsT env 200 (tabOf exT) spG 30) 15 ([exA 1, .bools .bor [false, true, true, true, true, true, true, false, false, false, false, false, false, false, false, false, false, false]]) = some ([.bools .new [false, true, true, true, true, true, true, false, false, false, false, false, false, false, false, false, false, false]]) := by kernel_rfl
def exl15 : List (List V × List V) := [([exA 1, .bools .bor [false, true, true, true, true, true, true, false, false, false, false, false, false, false, false, false, false, false]], [.bools .new [false, true, true, true, true, true, true, false, false, false, false, false, false, false, false, false, false, false]])]
noncomputable def exT6 : List (Nat × Fk) := [(19, wC exl19), (11, wC exl11), (20, wC exl20), (10, wC exl10), (13, wC exl13), (15, wC exl15), (14, w14 (fun R => f14 200)), (21, w21 (fun R => f21 200))]
theorem ex6 : pureBody env 200 (callsT env 200 (tabOf exT6) spG 30) 6 [] = some [.bool true] := by kernel_rfl
end Go.Vm.T3
