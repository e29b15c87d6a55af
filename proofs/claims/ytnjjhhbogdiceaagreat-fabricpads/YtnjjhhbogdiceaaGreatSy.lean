/-
  A part of the proof that FabricPads answers true at every input. No condition.
-/
import Derived.Shelf.Sort.Plain
import Derived.Shelf.Slices.In.SortNone
import Derived.Test.YtnjjhhbogdiceaaGreatCk
import Derived.Test.YtnjjhhbogdiceaaGreatYa
set_option linter.unusedVariables false
set_option maxRecDepth 100000
namespace Go.Vm.T3
open Go Go.Vm
def layR : Go.Shelf.Ren := ⟨fun | 189 => 84 | 125 => 94 | 257 => 93 | 128 => 103 | 129 => 104 | 294 => 95 | 295 => 96 | 296 => 97 | 297 => 98 | 298 => 99 | 299 => 100 | 216 => 57 | 300 => 101 | 301 => 102 | 328 => 105 | 329 => 106 | 330 => 107 | 331 => 108 | 332 => 109 | 215 => 82 | 343 => 110 | n => n, fun | 28 => 29 | 3 => 3 | 46 => 132 | 0 => 0 | 51 => 182 | 53 => 118 | 4 => 4 | 183 => 177 | 182 => 176 | 131 => 99 | 5 => 5 | 9 => 9 | 218 => 184 | 222 => 188 | 228 => 190 | 229 => 191 | n => n, fun n => n⟩
theorem layS : Go.Proofs.Lays.n189 Go.Proofs.Tryz.prog layR where
  mixed := by kernel_rfl
  f125 := Go.Proofs.Tryz.func94.trans (congrArg some (by kernel_rfl))
  f128 := Go.Proofs.Tryz.func103.trans (congrArg some (by kernel_rfl))
  f129 := Go.Proofs.Tryz.func104.trans (congrArg some (by kernel_rfl))
  f189 := Go.Proofs.Tryz.func84.trans (congrArg some (by kernel_rfl))
  f215 := Go.Proofs.Tryz.func82.trans (congrArg some (by kernel_rfl))
  f216 := Go.Proofs.Tryz.func57.trans (congrArg some (by kernel_rfl))
  f257 := Go.Proofs.Tryz.func93.trans (congrArg some (by kernel_rfl))
  f294 := Go.Proofs.Tryz.func95.trans (congrArg some (by kernel_rfl))
  f295 := Go.Proofs.Tryz.func96.trans (congrArg some (by kernel_rfl))
  f296 := Go.Proofs.Tryz.func97.trans (congrArg some (by kernel_rfl))
  f297 := Go.Proofs.Tryz.func98.trans (congrArg some (by kernel_rfl))
  f298 := Go.Proofs.Tryz.func99.trans (congrArg some (by kernel_rfl))
  f299 := Go.Proofs.Tryz.func100.trans (congrArg some (by kernel_rfl))
  f300 := Go.Proofs.Tryz.func101.trans (congrArg some (by kernel_rfl))
  f301 := Go.Proofs.Tryz.func102.trans (congrArg some (by kernel_rfl))
  f328 := Go.Proofs.Tryz.func105.trans (congrArg some (by kernel_rfl))
  f329 := Go.Proofs.Tryz.func106.trans (congrArg some (by kernel_rfl))
  f330 := Go.Proofs.Tryz.func107.trans (congrArg some (by kernel_rfl))
  f331 := Go.Proofs.Tryz.func108.trans (congrArg some (by kernel_rfl))
  f332 := Go.Proofs.Tryz.func109.trans (congrArg some (by kernel_rfl))
  f343 := Go.Proofs.Tryz.func110.trans (congrArg some (by kernel_rfl))
  t0 := Go.Proofs.Tryz.underlying0
  a0 := Go.Proofs.Tryz.isAgg0
  z0 := Go.Proofs.Tryz.sizeOf0
  v0 := Go.Proofs.Tryz.zeroValue0
  t3 := Go.Proofs.Tryz.underlying3
  a3 := Go.Proofs.Tryz.isAgg3
  z3 := Go.Proofs.Tryz.sizeOf3
  v3 := Go.Proofs.Tryz.zeroValue3
  t4 := Go.Proofs.Tryz.underlying4
  a4 := Go.Proofs.Tryz.isAgg4
  z4 := Go.Proofs.Tryz.sizeOf4
  v4 := Go.Proofs.Tryz.zeroValue4
  t5 := Go.Proofs.Tryz.underlying5
  a5 := Go.Proofs.Tryz.isAgg5
  z5 := Go.Proofs.Tryz.sizeOf5
  v5 := Go.Proofs.Tryz.zeroValue5
  t9 := Go.Proofs.Tryz.underlying9
  a9 := Go.Proofs.Tryz.isAgg9
  z9 := Go.Proofs.Tryz.sizeOf9
  v9 := Go.Proofs.Tryz.zeroValue9
  t28 := Go.Proofs.Tryz.underlying29
  a28 := Go.Proofs.Tryz.isAgg29
  z28 := Go.Proofs.Tryz.sizeOf29
  v28 := Go.Proofs.Tryz.zeroValue29
  t46 := Go.Proofs.Tryz.underlying132
  a46 := Go.Proofs.Tryz.isAgg132
  z46 := Go.Proofs.Tryz.sizeOf132
  v46 := Go.Proofs.Tryz.zeroValue132
  t51 := Go.Proofs.Tryz.underlying182
  a51 := Go.Proofs.Tryz.isAgg182
  z51 := Go.Proofs.Tryz.sizeOf182
  v51 := Go.Proofs.Tryz.zeroValue182
  t53 := Go.Proofs.Tryz.underlying118
  a53 := Go.Proofs.Tryz.isAgg118
  z53 := Go.Proofs.Tryz.sizeOf118
  v53 := Go.Proofs.Tryz.zeroValue118
  t131 := Go.Proofs.Tryz.underlying99
  a131 := Go.Proofs.Tryz.isAgg99
  z131 := Go.Proofs.Tryz.sizeOf99
  v131 := Go.Proofs.Tryz.zeroValue99
  t182 := Go.Proofs.Tryz.underlying176
  a182 := Go.Proofs.Tryz.isAgg176
  z182 := Go.Proofs.Tryz.sizeOf176
  v182 := Go.Proofs.Tryz.zeroValue176
  t183 := Go.Proofs.Tryz.underlying177
  a183 := Go.Proofs.Tryz.isAgg177
  z183 := Go.Proofs.Tryz.sizeOf177
  v183 := Go.Proofs.Tryz.zeroValue177
  t218 := Go.Proofs.Tryz.underlying184
  a218 := Go.Proofs.Tryz.isAgg184
  z218 := Go.Proofs.Tryz.sizeOf184
  v218 := Go.Proofs.Tryz.zeroValue184
  t222 := Go.Proofs.Tryz.underlying188
  a222 := Go.Proofs.Tryz.isAgg188
  z222 := Go.Proofs.Tryz.sizeOf188
  v222 := Go.Proofs.Tryz.zeroValue188
  t228 := Go.Proofs.Tryz.underlying190
  a228 := Go.Proofs.Tryz.isAgg190
  z228 := Go.Proofs.Tryz.sizeOf190
  v228 := Go.Proofs.Tryz.zeroValue190
  t229 := Go.Proofs.Tryz.underlying191
  a229 := Go.Proofs.Tryz.isAgg191
  z229 := Go.Proofs.Tryz.sizeOf191
  v229 := Go.Proofs.Tryz.zeroValue191
theorem sp_env : SpOk Go.Proofs.Tryz.prog env spG :=
  sortSp_ok ⟨_, rfl⟩ (fun p cap w => Go.Proofs.Any.slices_Sort_int_none layS p cap w) (fun blk off cap zs w h1 h2 h3 => Go.Proofs.Any.slices_Sort_int layS blk off cap zs w h1 h2 h3)
theorem sys_env : Sys Go.Proofs.Tryz.prog env spG := ⟨ty_env, fns_env, regs_env, once_env, sp_env⟩
end Go.Vm.T3
