/-
  A part of the proof that FabricPads answers true at every input. No condition.
-/
import Derived.Test.YtnjjhhbogdiceaaGreatYd
set_option linter.unusedVariables false
set_option linter.unusedSimpArgs false
set_option maxRecDepth 100000
namespace Go.Vm.T3
open Go Go.Vm
noncomputable def tab55 (M : Nat) : Tab := tabOf []
theorem good55 {P : Go.Program} (S : Sys P env spG) (M : Nat) : Good P env 55 (w55 (fun R => f55 M)) := by
  have hO := S.once
  refine good_of S (M := M) (d := 40) (l := []) (cs := []) (by simp) (by simp) fun xs => ?_
  by_cases hp : ∃ t1 a2 a3 a4, xs = [.ints t1 .i64 a2, .int .i64 a3, .int .i64 a4]
  · obtain ⟨t1, a2, a3, a4, rfl⟩ := hp
    right
    intro R k
    have e := f55_seg (LOr env M (tab55 M) spG) k t1 a2 a3 a4
    rw [LOs_eq (by simp)] at e
    exact e
  · left
    intro R k
    unfold w55
    split
    · exact absurd ⟨_, _, _, _, rfl⟩ hp
    · rfl
noncomputable def tab51 (M : Nat) : Tab := tabOf []
theorem good51 {P : Go.Program} (S : Sys P env spG) (M : Nat) : Good P env 51 (w51 (fun R => f51 M)) := by
  have hO := S.once
  refine good_of S (M := M) (d := 40) (l := []) (cs := []) (by simp) (by simp) fun xs => ?_
  by_cases hp : ∃ t1 a2 t3 a4 t5 a6 t7 a8 t9 a10 t11 a12 t13 a14 t15 a16 t17 a18 t19 a20 a21, xs = [.ro [.ints t1 .i64 a2, .ints t3 .i64 a4, .ints t5 .i64 a6, .ints t7 .i64 a8, .vals t9 125 a10, .ints t11 .i64 a12, .ints t13 .i64 a14, .ints t15 .i64 a16, .vals t17 29 a18, .bools t19 a20], .int .i64 a21]
  · obtain ⟨t1, a2, t3, a4, t5, a6, t7, a8, t9, a10, t11, a12, t13, a14, t15, a16, t17, a18, t19, a20, a21, rfl⟩ := hp
    right
    intro R k
    have e := f51_seg (LOr env M (tab51 M) spG) k t1 t3 t5 t7 t9 t11 t13 t15 t17 t19 a2 a4 a6 a8 a10 a12 a14 a16 a18 a20 a21
    rw [LOs_eq (by simp)] at e
    exact e
  · left
    intro R k
    unfold w51
    split
    · exact absurd ⟨_, _, _, _, _, _, _, _, _, _, _, _, _, _, _, _, _, _, _, _, _, rfl⟩ hp
    · rfl
noncomputable def tab52 (M : Nat) : Tab := tabOf []
theorem good52 {P : Go.Program} (S : Sys P env spG) (M : Nat) : Good P env 52 (w52 (fun R => f52 M)) := by
  have hO := S.once
  refine good_of S (M := M) (d := 40) (l := []) (cs := []) (by simp) (by simp) fun xs => ?_
  by_cases hp : ∃ t1 a2 t3 a4 t5 a6 t7 a8 t9 a10 t11 a12 t13 a14 t15 a16 t17 a18 t19 a20 a21 t22 a23, xs = [.ro [.ints t1 .i64 a2, .ints t3 .i64 a4, .ints t5 .i64 a6, .ints t7 .i64 a8, .vals t9 125 a10, .ints t11 .i64 a12, .ints t13 .i64 a14, .ints t15 .i64 a16, .vals t17 29 a18, .bools t19 a20], .int .i64 a21, .bools t22 a23]
  · obtain ⟨t1, a2, t3, a4, t5, a6, t7, a8, t9, a10, t11, a12, t13, a14, t15, a16, t17, a18, t19, a20, a21, t22, a23, rfl⟩ := hp
    right
    intro R k
    have e := f52_seg (LOr env M (tab52 M) spG) k t1 t3 t5 t7 t9 t11 t13 t15 t17 t19 t22 a2 a4 a6 a8 a10 a12 a14 a16 a18 a20 a21 a23
    rw [LOs_eq (by simp)] at e
    exact e
  · left
    intro R k
    unfold w52
    split
    · exact absurd ⟨_, _, _, _, _, _, _, _, _, _, _, _, _, _, _, _, _, _, _, _, _, _, _, rfl⟩ hp
    · rfl
noncomputable def tab53 (M : Nat) : Tab := tabOf [(81, w81 (fun R => f81 M))]
theorem good53 {P : Go.Program} (S : Sys P env spG) (M : Nat) (g81 : Good P env 81 (w81 (fun R => f81 M))) : Good P env 53 (w53 (fun R => f53 M)) := by
  have hO := S.once
  refine good_of S (M := M) (d := 40) (l := [(81, w81 (fun R => f81 M))]) (cs := []) (by
    intro p hp
    simp only [List.mem_cons, List.not_mem_nil, or_false] at hp
    rcases hp with rfl
    · exact g81) (by simp) fun xs => ?_
  by_cases hp : ∃ t1 a2 t3 a4 t5 a6 t7 a8 t9 a10 t11 a12 t13 a14 t15 a16 t17 a18 t19 a20 a21 t22 a23, xs = [.ro [.ints t1 .i64 a2, .ints t3 .i64 a4, .ints t5 .i64 a6, .ints t7 .i64 a8, .vals t9 125 a10, .ints t11 .i64 a12, .ints t13 .i64 a14, .ints t15 .i64 a16, .vals t17 29 a18, .bools t19 a20], .int .i64 a21, .bools t22 a23]
  · obtain ⟨t1, a2, t3, a4, t5, a6, t7, a8, t9, a10, t11, a12, t13, a14, t15, a16, t17, a18, t19, a20, a21, t22, a23, rfl⟩ := hp
    right
    intro R k
    have e := f53_seg (fun R => f81 M) (LOr env M (tab53 M) spG) k t1 t3 t5 t7 t9 t11 t13 t15 t17 t19 t22 a2 a4 a6 a8 a10 a12 a14 a16 a18 a20 a21 a23
    rw [LOs_eq (by simp)] at e
    exact e
  · left
    intro R k
    unfold w53
    split
    · exact absurd ⟨_, _, _, _, _, _, _, _, _, _, _, _, _, _, _, _, _, _, _, _, _, _, _, rfl⟩ hp
    · rfl
noncomputable def tab54 (M : Nat) : Tab := tabOf [(55, w55 (fun R => f55 M))]
theorem good54 {P : Go.Program} (S : Sys P env spG) (M : Nat) (g55 : Good P env 55 (w55 (fun R => f55 M))) : Good P env 54 (w54 (fun R => f54 M)) := by
  have hO := S.once
  refine good_of S (M := M) (d := 40) (l := [(55, w55 (fun R => f55 M))]) (cs := []) (by
    intro p hp
    simp only [List.mem_cons, List.not_mem_nil, or_false] at hp
    rcases hp with rfl
    · exact g55) (by simp) fun xs => ?_
  by_cases hp : ∃ t1 a2 t3 a4 t5 a6 t7 a8 t9 a10 t11 a12 t13 a14 t15 a16 t17 a18 t19 a20 a21, xs = [.ro [.ints t1 .i64 a2, .ints t3 .i64 a4, .ints t5 .i64 a6, .ints t7 .i64 a8, .vals t9 125 a10, .ints t11 .i64 a12, .ints t13 .i64 a14, .ints t15 .i64 a16, .vals t17 29 a18, .bools t19 a20], .int .i64 a21]
  · obtain ⟨t1, a2, t3, a4, t5, a6, t7, a8, t9, a10, t11, a12, t13, a14, t15, a16, t17, a18, t19, a20, a21, rfl⟩ := hp
    right
    intro R k
    have e := f54_seg (fun R => f55 M) (LOr env M (tab54 M) spG) k t1 t3 t5 t7 t9 t11 t13 t15 t17 t19 a2 a4 a6 a8 a10 a12 a14 a16 a18 a20 a21
    rw [LOs_eq (by simp)] at e
    exact e
  · left
    intro R k
    unfold w54
    split
    · exact absurd ⟨_, _, _, _, _, _, _, _, _, _, _, _, _, _, _, _, _, _, _, _, _, rfl⟩ hp
    · rfl
noncomputable def tab56 (M : Nat) : Tab := tabOf [(55, w55 (fun R => f55 M))]
theorem f56L3_ok (hO : LoopsOnce env) (M : Nat) : SmOk (LOr env M (tab56 M) spG) (smf56L3 (fun R => f56L3S M) (LOr env M (tab56 M) spG)) := by
  intro R l st k h
  show (LOr env M (tab56 M) spG) R 40 56 3 st k = _
  unfold smf56L3
  simp only
  split
  · rename_i t40 x24 t41 x25 t42 x26 t43 x27 t44 x28 t45 x29 t46 x30 t47 x31 t48 x32 t49 x33 x34 x35 x36 t50 x37 x38 x39
    obtain rfl : _ = st := Option.some.inj h
    exact sm_rounds hO (cs := []) (c := (loopOf env 56 3).getD .skip) (by kernel_rfl) (by kernel_rfl) (by simp)
      (S := fun a : Int × Int => (qf56L30 t40 t41 t42 t43 t44 t45 t46 t47 t48 t49 t50 x24 x25 x26 x27 x28 x29 x30 x31 x32 x33 x34 x35 a.1 x37 x38 a.2))
      (B := fun (g : Int × Int → Option R) (a : Int × Int) => f56L3 x24 x25 x26 x27 x28 x29 x30 x31 x32 x33 x34 x35 x37 x38 (fun z0 z1 z2 => k (.exit 0) (ef56L30 t40 t41 t42 t43 t44 t45 t46 t47 t48 t49 t50 x24 x25 x26 x27 x28 x29 x30 x31 x32 x33 x34 x35 z0 x37 x38 z1 z2)) (fun y0 y1 => g (y0, y1)) a.1 a.2)
      (fun g a => by
        have e := f56L3_seg (fun R => f55 M) (LOr env M (tab56 M) spG) g k t40 t41 t42 t43 t44 t45 t46 t47 t48 t49 t50 x24 x25 x26 x27 x28 x29 x30 x31 x32 x33 x34 x35 x37 x38 a.1 a.2
        rw [LOs_eq (by simp)] at e
        exact e) (x36, x39)
  · have h' : fillS _ l = some st := h
    simp only [smf56L3] at h'
    rw [h']
theorem good56 {P : Go.Program} (S : Sys P env spG) (M : Nat) (g55 : Good P env 55 (w55 (fun R => f55 M))) : Good P env 56 (w56 (fun R => f56 M)) := by
  have hO := S.once
  refine good_of S (M := M) (d := 40) (l := [(55, w55 (fun R => f55 M))]) (cs := []) (by
    intro p hp
    simp only [List.mem_cons, List.not_mem_nil, or_false] at hp
    rcases hp with rfl
    · exact g55) (by simp) fun xs => ?_
  by_cases hp : ∃ t1 a2 t3 a4 t5 a6 t7 a8 t9 a10 t11 a12 t13 a14 t15 a16 t17 a18 t19 a20 a21 t22 a23, xs = [.ro [.ints t1 .i64 a2, .ints t3 .i64 a4, .ints t5 .i64 a6, .ints t7 .i64 a8, .vals t9 125 a10, .ints t11 .i64 a12, .ints t13 .i64 a14, .ints t15 .i64 a16, .vals t17 29 a18, .bools t19 a20], .int .i64 a21, .bools t22 a23]
  · obtain ⟨t1, a2, t3, a4, t5, a6, t7, a8, t9, a10, t11, a12, t13, a14, t15, a16, t17, a18, t19, a20, a21, t22, a23, rfl⟩ := hp
    right
    intro R k
    have e := f56_seg (fun R => f55 M) (fun R => f56L3S M) (LOr env M (tab56 M) spG) k t1 t3 t5 t7 t9 t11 t13 t15 t17 t19 t22 a2 a4 a6 a8 a10 a12 a14 a16 a18 a20 a21 a23
    rw [LOs_eq (by
      intro s hs
      simp only [List.mem_cons, List.not_mem_nil, or_false] at hs
      rcases hs with rfl
      · exact f56L3_ok hO M)] at e
    exact e
  · left
    intro R k
    unfold w56
    split
    · exact absurd ⟨_, _, _, _, _, _, _, _, _, _, _, _, _, _, _, _, _, _, _, _, _, _, _, rfl⟩ hp
    · rfl
end Go.Vm.T3
