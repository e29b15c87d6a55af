/-
  A part of the proof that FabricPads answers true at every input. No condition.
-/
import Derived.NoCompiler
import Derived.Test.YtnjjhhbogdiceaaGreatE3
import Derived.Test.YtnjjhhbogdiceaaGreatV5
set_option linter.unusedVariables false
set_option maxRecDepth 100000
namespace Go.Vm.T3
open Go Go.Vm
theorem ty_all : tyGo Go.Proofs.Tryz.prog tys 0 tys = true := by kernel_rfl
theorem ty_env : TyOk Go.Proofs.Tryz.prog env.ty := tyB_ok ty_all
theorem fn_at {f : FuncId} {fn : Func} (hf : env.fn f = some fn) : fns[f]? = some (some fn) := by
  have h : (fns[f]?).join = some fn := hf
  cases hg : fns[f]? with
  | none => rw [hg] at h; cases h
  | some o => rw [hg] at h; rw [show o = some fn from h]
theorem fns_mask : fns = maskL (fns.map Option.isSome) Go.Proofs.Tryz.prog.funcs.toList := by kernel_rfl
theorem fns_all : fns.all fnB = true := by kernel_rfl
theorem fns_env : FnsOk Go.Proofs.Tryz.prog env := fnsOk_of (fun _ _ h => fn_at h) fns_mask fns_all
theorem once_all : fns.all onceB = true := by kernel_rfl
theorem once_env : LoopsOnce env := once_of (fun _ _ h => fn_at h) once_all
theorem regs_all : fns.all (regB env) = true := by kernel_rfl
theorem mixed : Go.Proofs.Tryz.prog.follows .mixedOrders = true := by kernel_rfl
theorem regs_env : AllRegions Go.Proofs.Tryz.prog env := all_regions mixed ty_env fun f fn hf => List.all_eq_true.1 regs_all _ (List.mem_of_getElem? (fn_at hf))
end Go.Vm.T3
