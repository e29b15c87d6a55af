/-
  A part of the proof that FabricPads answers true at every input. No condition.
-/
import Derived.Test.YtnjjhhbogdiceaaGreatSy
import Derived.Test.YtnjjhhbogdiceaaGreatEw
import Derived.Test.YtnjjhhbogdiceaaGreatZa
import Derived.Test.YtnjjhhbogdiceaaGreatZb
import Derived.Test.YtnjjhhbogdiceaaGreatZc
import Derived.Test.YtnjjhhbogdiceaaGreatZd
import Derived.Test.YtnjjhhbogdiceaaGreatZe
import Derived.Test.YtnjjhhbogdiceaaGreatZf
import Derived.Test.YtnjjhhbogdiceaaGreatZg
import Derived.Test.YtnjjhhbogdiceaaGreatZh
set_option linter.unusedVariables false
namespace Go.Vm.T3
open Go Go.Vm
theorem g72 (M : Nat) : Good Go.Proofs.Tryz.prog env 72 (w72 (fun R => f72 M)) := good72 sys_env M
theorem g80 (M : Nat) : Good Go.Proofs.Tryz.prog env 80 (w80 (fun R => f80 M)) := good80 sys_env M
theorem g78 (M : Nat) : Good Go.Proofs.Tryz.prog env 78 (w78 (fun R => f78 M)) := good78 sys_env M (g80 M)
theorem g79 (M : Nat) : Good Go.Proofs.Tryz.prog env 79 (w79 (fun R => f79 M)) := good79 sys_env M (g78 M)
theorem g49 (M : Nat) : Good Go.Proofs.Tryz.prog env 49 (w49 (fun R => f49 M)) := good49 sys_env M
theorem g41 (M : Nat) : Good Go.Proofs.Tryz.prog env 41 (w41 (fun R => f41 M)) := good41 sys_env M (g49 M)
theorem g39 (M : Nat) : Good Go.Proofs.Tryz.prog env 39 (w39 (fun R => f39 M)) := good39 sys_env M (g72 M)
theorem g44 (M : Nat) : Good Go.Proofs.Tryz.prog env 44 (w44 (fun R => f44 M)) := good44 sys_env M
theorem g12 (M : Nat) : Good Go.Proofs.Tryz.prog env 12 (w12 (fun R => f12 M)) := good12 sys_env M
theorem g14 (M : Nat) : Good Go.Proofs.Tryz.prog env 14 (w14 (fun R => f14 M)) := good14 sys_env M
theorem g90 (M : Nat) : Good Go.Proofs.Tryz.prog env 90 (w90 (fun R => f90 M)) := good90 sys_env M
theorem g91 (M : Nat) : Good Go.Proofs.Tryz.prog env 91 (w91 (fun R => f91 M)) := good91 sys_env M
theorem g92 (M : Nat) : Good Go.Proofs.Tryz.prog env 92 (w92 (fun R => f92 M)) := good92 sys_env M (g90 M)
theorem g77 (M : Nat) : Good Go.Proofs.Tryz.prog env 77 (w77 (fun R => f77 M)) := good77 sys_env M (g90 M) (g91 M) (g92 M)
theorem g48 (M : Nat) : Good Go.Proofs.Tryz.prog env 48 (w48 (fun R => f48 M)) := good48 sys_env M (g41 M) (g49 M)
theorem g45 (M : Nat) : Good Go.Proofs.Tryz.prog env 45 (w45 (fun R => f45 M)) := good45 sys_env M (g41 M) (g48 M) (g77 M)
theorem g46 (M : Nat) : Good Go.Proofs.Tryz.prog env 46 (w46 (fun R => f46 M)) := good46 sys_env M (g45 M)
theorem g81 (M : Nat) : Good Go.Proofs.Tryz.prog env 81 (w81 (fun R => f81 M)) := good81 sys_env M
theorem g73 (M : Nat) : Good Go.Proofs.Tryz.prog env 73 (w73 (fun R => f73 M)) := good73 sys_env M
theorem g74 (M : Nat) : Good Go.Proofs.Tryz.prog env 74 (w74 (fun R => f74 M)) := good74 sys_env M (g41 M) (g48 M)
theorem g75 (M : Nat) : Good Go.Proofs.Tryz.prog env 75 (w75 (fun R => f75 M)) := good75 sys_env M (g41 M) (g48 M) (g77 M)
theorem g76 (M : Nat) : Good Go.Proofs.Tryz.prog env 76 (w76 (fun R => f76 M)) := good76 sys_env M (g44 M) (g45 M) (g46 M) (g48 M)
theorem g43 (M : Nat) : Good Go.Proofs.Tryz.prog env 43 (w43 (fun R => f43 M)) := good43 sys_env M (g41 M) (g44 M) (g73 M) (g76 M)
theorem g42 (M : Nat) : Good Go.Proofs.Tryz.prog env 42 (w42 (fun R => f42 M)) := good42 sys_env M (g44 M) (g74 M) (g75 M)
theorem g37 (M : Nat) : Good Go.Proofs.Tryz.prog env 37 (w37 (fun R => f37 M)) := good37 sys_env M (g41 M)
theorem g23 (M : Nat) : Good Go.Proofs.Tryz.prog env 23 (w23 (fun R => f23 M)) := good23 sys_env M (g37 M) (g43 M) (g44 M) (g45 M)
theorem g24 (M : Nat) : Good Go.Proofs.Tryz.prog env 24 (w24 (fun R => f24 M)) := good24 sys_env M (g37 M) (g46 M)
theorem g47 (M : Nat) : Good Go.Proofs.Tryz.prog env 47 (w47 (fun R => f47 M)) := good47 sys_env M (g45 M)
theorem g25 (M : Nat) : Good Go.Proofs.Tryz.prog env 25 (w25 (fun R => f25 M)) := good25 sys_env M (g47 M)
theorem g16 (M : Nat) : Good Go.Proofs.Tryz.prog env 16 (w16 (fun R => f16 M)) := good16 sys_env M
theorem g17 (M : Nat) : Good Go.Proofs.Tryz.prog env 17 (w17 (fun R => f17 M)) := good17 sys_env M
theorem g7 (M : Nat) : Good Go.Proofs.Tryz.prog env 7 (w7 (fun R => f7 M)) := good7 sys_env M
theorem g50 (M : Nat) : Good Go.Proofs.Tryz.prog env 50 (w50 (fun R => f50 M)) := good50 sys_env M (g78 M) (g79 M) (g80 M)
theorem g83 (M : Nat) : Good Go.Proofs.Tryz.prog env 83 (w83 (fun R => f83 M)) := good83 sys_env M (g50 M) (g78 M) (g80 M)
theorem g55 (M : Nat) : Good Go.Proofs.Tryz.prog env 55 (w55 (fun R => f55 M)) := good55 sys_env M
theorem g51 (M : Nat) : Good Go.Proofs.Tryz.prog env 51 (w51 (fun R => f51 M)) := good51 sys_env M
theorem g52 (M : Nat) : Good Go.Proofs.Tryz.prog env 52 (w52 (fun R => f52 M)) := good52 sys_env M
theorem g53 (M : Nat) : Good Go.Proofs.Tryz.prog env 53 (w53 (fun R => f53 M)) := good53 sys_env M (g81 M)
theorem g54 (M : Nat) : Good Go.Proofs.Tryz.prog env 54 (w54 (fun R => f54 M)) := good54 sys_env M (g55 M)
theorem g56 (M : Nat) : Good Go.Proofs.Tryz.prog env 56 (w56 (fun R => f56 M)) := good56 sys_env M (g55 M)
theorem g63 (M : Nat) : Good Go.Proofs.Tryz.prog env 63 (w63 (fun R => f63 M)) := good63 sys_env M (g51 M) (g52 M) (g53 M) (g54 M) (g56 M)
theorem g62 (M : Nat) : Good Go.Proofs.Tryz.prog env 62 (w62 (fun R => f62 M)) := good62 sys_env M
theorem g61 (M : Nat) : Good Go.Proofs.Tryz.prog env 61 (w61 (fun R => f61 M)) := good61 sys_env M (g62 M) (g63 M)
theorem g22 (M : Nat) : Good Go.Proofs.Tryz.prog env 22 (w22 (fun R => f22 M)) := good22 sys_env M (g39 M) (g41 M) (g42 M) (g44 M) (g73 M)
theorem g36 (M : Nat) : Good Go.Proofs.Tryz.prog env 36 (w36 (fun R => f36 M)) := good36 sys_env M (g50 M) (g83 M)
theorem g32 (M : Nat) : Good Go.Proofs.Tryz.prog env 32 (w32 (fun R => f32 M)) := good32 sys_env M (g36 M) (g50 M) (g61 M)
theorem g11 (M : Nat) : Good Go.Proofs.Tryz.prog env 11 (w11 (fun R => f11 M)) := good11 sys_env M (g32 M)
theorem g88 (M : Nat) : Good Go.Proofs.Tryz.prog env 88 (w88 (fun R => f88 M)) := good88 sys_env M
theorem g70 (M : Nat) : Good Go.Proofs.Tryz.prog env 70 (w70 (fun R => f70 M)) := good70 sys_env M (g88 M)
theorem g21 (M : Nat) : Good Go.Proofs.Tryz.prog env 21 (w21 (fun R => f21 M)) := good21 sys_env M
theorem g6 (M : Nat) : Good Go.Proofs.Tryz.prog env 6 (w6 (fun R => f6 M)) := good6 sys_env M (g21 200) (g36 200) (g25 200) (g37 200) (g16 200) (g50 200) (g70 200) (g61 200) (g63 200) (g14 200) (g62 200) (g32 200)
theorem g4 (M : Nat) : Good Go.Proofs.Tryz.prog env 4 (w4 (fun R => f4 M)) := good4 sys_env M (g6 M) (g7 M) (g11 M) (g12 M) (g16 M) (g17 M) (g22 M) (g23 M) (g24 M) (g25 M)
end Go.Vm.T3
