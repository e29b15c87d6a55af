/-
  A part of the proof that FabricPads answers true at every input. No condition.
-/
import Derived.Test.YtnjjhhbogdiceaaGreatYa
set_option linter.unusedVariables false
set_option linter.unusedSimpArgs false
set_option maxRecDepth 100000
namespace Go.Vm.T3
open Go Go.Vm
noncomputable def tab72 (M : Nat) : Tab := tabOf []
theorem f72L3_ok (hO : LoopsOnce env) (M : Nat) : SmOk (LOr env M (tab72 M) spG) (smf72L3 (fun R => f72L3S M) (LOr env M (tab72 M) spG)) := by
  intro R l st k h
  show (LOr env M (tab72 M) spG) R 40 72 3 st k = _
  unfold smf72L3
  simp only
  split
  · rename_i x4 t8 x5 x6 u0 x7
    obtain rfl : _ = st := Option.some.inj h
    exact sm_rounds hO (cs := []) (c := (loopOf env 72 3).getD .skip) (by kernel_rfl) (by kernel_rfl) (by simp)
      (S := fun a : Int × (List Int) => (qf72L30 t8 x4 x5 a.1 a.2))
      (B := fun (g : Int × (List Int) → Option R) (a : Int × (List Int)) => f72L3 x4 x5 (fun z0 z1 z2 => k (.exit 0) (ef72L30 t8 x4 x5 z0 z1 z2)) (fun y0 y1 => g (y0, y1)) a.1 a.2)
      (fun g a => by
        have e := f72L3_seg (LOr env M (tab72 M) spG) g k t8 x4 x5 a.1 a.2
        rw [LOs_eq (by simp)] at e
        exact e) (x6, x7)
  · have h' : fillS _ l = some st := h
    simp only [smf72L3] at h'
    rw [h']
theorem good72 {P : Go.Program} (S : Sys P env spG) (M : Nat) : Good P env 72 (w72 (fun R => f72 M)) := by
  have hO := S.once
  refine good_of S (M := M) (d := 40) (l := []) (cs := []) (by simp) (by simp) fun xs => ?_
  by_cases hp : ∃ a1 t2 a3, xs = [.int .i64 a1, .ints t2 .u8 a3]
  · obtain ⟨a1, t2, a3, rfl⟩ := hp
    right
    intro R k
    have e := f72_seg (fun R => f72L3S M) (LOr env M (tab72 M) spG) k t2 a1 a3
    rw [LOs_eq (by
      intro s hs
      simp only [List.mem_cons, List.not_mem_nil, or_false] at hs
      rcases hs with rfl
      · exact f72L3_ok hO M)] at e
    exact e
  · left
    intro R k
    unfold w72
    split
    · exact absurd ⟨_, _, _, rfl⟩ hp
    · rfl
noncomputable def tab80 (M : Nat) : Tab := tabOf []
theorem good80 {P : Go.Program} (S : Sys P env spG) (M : Nat) : Good P env 80 (w80 (fun R => f80 M)) := by
  have hO := S.once
  refine good_of S (M := M) (d := 40) (l := []) (cs := []) (by simp) (by simp) fun xs => ?_
  by_cases hp : ∃ a1 a2 a3 a4 t5 a6, xs = [.agg [.int .i64 a1, .int .i64 a2, .int .i64 a3, .int .i64 a4, .ints t5 .i64 a6]]
  · obtain ⟨a1, a2, a3, a4, t5, a6, rfl⟩ := hp
    right
    intro R k
    have e := f80_seg (LOr env M (tab80 M) spG) k t5 a1 a2 a3 a4 a6
    rw [LOs_eq (by simp)] at e
    exact e
  · left
    intro R k
    unfold w80
    split
    · exact absurd ⟨_, _, _, _, _, _, rfl⟩ hp
    · rfl
noncomputable def tab78 (M : Nat) : Tab := tabOf [(80, w80 (fun R => f80 M))]
theorem good78 {P : Go.Program} (S : Sys P env spG) (M : Nat) (g80 : Good P env 80 (w80 (fun R => f80 M))) : Good P env 78 (w78 (fun R => f78 M)) := by
  have hO := S.once
  refine good_of S (M := M) (d := 40) (l := [(80, w80 (fun R => f80 M))]) (cs := []) (by
    intro p hp
    simp only [List.mem_cons, List.not_mem_nil, or_false] at hp
    rcases hp with rfl
    · exact g80) (by simp) fun xs => ?_
  by_cases hp : ∃ a1 a2 a3 a4 t5 a6, xs = [.agg [.int .i64 a1, .int .i64 a2, .int .i64 a3, .int .i64 a4, .ints t5 .i64 a6]]
  · obtain ⟨a1, a2, a3, a4, t5, a6, rfl⟩ := hp
    right
    intro R k
    have e := f78_seg (fun R => f80 M) (LOr env M (tab78 M) spG) k t5 a1 a2 a3 a4 a6
    rw [LOs_eq (by simp)] at e
    exact e
  · left
    intro R k
    unfold w78
    split
    · exact absurd ⟨_, _, _, _, _, _, rfl⟩ hp
    · rfl
noncomputable def tab79 (M : Nat) : Tab := tabOf [(78, w78 (fun R => f78 M))]
theorem good79 {P : Go.Program} (S : Sys P env spG) (M : Nat) (g78 : Good P env 78 (w78 (fun R => f78 M))) : Good P env 79 (w79 (fun R => f79 M)) := by
  have hO := S.once
  refine good_of S (M := M) (d := 40) (l := [(78, w78 (fun R => f78 M))]) (cs := []) (by
    intro p hp
    simp only [List.mem_cons, List.not_mem_nil, or_false] at hp
    rcases hp with rfl
    · exact g78) (by simp) fun xs => ?_
  by_cases hp : ∃ a1 a2 a3 a4 t5 a6, xs = [.agg [.int .i64 a1, .int .i64 a2, .int .i64 a3, .int .i64 a4, .ints t5 .i64 a6]]
  · obtain ⟨a1, a2, a3, a4, t5, a6, rfl⟩ := hp
    right
    intro R k
    have e := f79_seg (fun R => f78 M) (LOr env M (tab79 M) spG) k t5 a1 a2 a3 a4 a6
    rw [LOs_eq (by simp)] at e
    exact e
  · left
    intro R k
    unfold w79
    split
    · exact absurd ⟨_, _, _, _, _, _, rfl⟩ hp
    · rfl
noncomputable def tab49 (M : Nat) : Tab := tabOf []
theorem good49 {P : Go.Program} (S : Sys P env spG) (M : Nat) : Good P env 49 (w49 (fun R => f49 M)) := by
  have hO := S.once
  refine good_of S (M := M) (d := 40) (l := []) (cs := []) (by simp) (by simp) fun xs => ?_
  by_cases hp : ∃ a1 a2 a3 a4 t5 a6, xs = [.agg [.int .i64 a1, .int .i64 a2, .int .i64 a3, .int .i64 a4, .ints t5 .i64 a6]]
  · obtain ⟨a1, a2, a3, a4, t5, a6, rfl⟩ := hp
    right
    intro R k
    have e := f49_seg (LOr env M (tab49 M) spG) k t5 a1 a2 a3 a4 a6
    rw [LOs_eq (by simp)] at e
    exact e
  · left
    intro R k
    unfold w49
    split
    · exact absurd ⟨_, _, _, _, _, _, rfl⟩ hp
    · rfl
noncomputable def tab41 (M : Nat) : Tab := tabOf [(49, w49 (fun R => f49 M))]
theorem good41 {P : Go.Program} (S : Sys P env spG) (M : Nat) (g49 : Good P env 49 (w49 (fun R => f49 M))) : Good P env 41 (w41 (fun R => f41 M)) := by
  have hO := S.once
  refine good_of S (M := M) (d := 40) (l := [(49, w49 (fun R => f49 M))]) (cs := []) (by
    intro p hp
    simp only [List.mem_cons, List.not_mem_nil, or_false] at hp
    rcases hp with rfl
    · exact g49) (by simp) fun xs => ?_
  by_cases hp : ∃ a1 a2 a3 a4 t5 a6, xs = [.agg [.int .i64 a1, .int .i64 a2, .int .i64 a3, .int .i64 a4, .ints t5 .i64 a6]]
  · obtain ⟨a1, a2, a3, a4, t5, a6, rfl⟩ := hp
    right
    intro R k
    have e := f41_seg (fun R => f49 M) (LOr env M (tab41 M) spG) k t5 a1 a2 a3 a4 a6
    rw [LOs_eq (by simp)] at e
    exact e
  · left
    intro R k
    unfold w41
    split
    · exact absurd ⟨_, _, _, _, _, _, rfl⟩ hp
    · rfl
noncomputable def tab39 (M : Nat) : Tab := tabOf [(72, w72 (fun R => f72 M))]
theorem good39 {P : Go.Program} (S : Sys P env spG) (M : Nat) (g72 : Good P env 72 (w72 (fun R => f72 M))) : Good P env 39 (w39 (fun R => f39 M)) := by
  have hO := S.once
  refine good_of S (M := M) (d := 40) (l := [(72, w72 (fun R => f72 M))]) (cs := []) (by
    intro p hp
    simp only [List.mem_cons, List.not_mem_nil, or_false] at hp
    rcases hp with rfl
    · exact g72) (by simp) fun xs => ?_
  by_cases hp : ∃ a1 a2 a3 a4 t5 a6, xs = [.agg [.int .u8 a1, .int .u8 a2, .int .u8 a3, .int .u8 a4, .ints t5 .u8 a6]]
  · obtain ⟨a1, a2, a3, a4, t5, a6, rfl⟩ := hp
    right
    intro R k
    have e := f39_seg (fun R => f72 M) (LOr env M (tab39 M) spG) k t5 a1 a2 a3 a4 a6
    rw [LOs_eq (by simp)] at e
    exact e
  · left
    intro R k
    unfold w39
    split
    · exact absurd ⟨_, _, _, _, _, _, rfl⟩ hp
    · rfl
noncomputable def tab44 (M : Nat) : Tab := tabOf []
theorem f44L2_ok (hO : LoopsOnce env) (M : Nat) : SmOk (LOr env M (tab44 M) spG) (smf44L2 (fun R => f44L2S M) (LOr env M (tab44 M) spG)) := by
  intro R l st k h
  show (LOr env M (tab44 M) spG) R 40 44 2 st k = _
  unfold smf44L2
  simp only
  split
  · rename_i t7 x4 x5 x6
    obtain rfl : _ = st := Option.some.inj h
    exact sm_rounds hO (cs := []) (c := (loopOf env 44 2).getD .skip) (by kernel_rfl) (by kernel_rfl) (by simp)
      (S := fun a : Int => (qf44L20 t7 x4 x5 a))
      (B := fun (g : Int → Option R) (a : Int) => f44L2 x4 x5 (fun z0 z1 z2 z3 => k .ret (ef44L20 t7 x4 x5 z0 z1 z2 z3)) (fun z0 z1 => k (.exit 0) (ef44L21 t7 x4 x5 z0 z1)) (fun y0 => g y0) a)
      (fun g a => by
        have e := f44L2_seg (LOr env M (tab44 M) spG) g k t7 x4 x5 a
        rw [LOs_eq (by simp)] at e
        exact e) x6
  · have h' : fillS _ l = some st := h
    simp only [smf44L2] at h'
    rw [h']
theorem good44 {P : Go.Program} (S : Sys P env spG) (M : Nat) : Good P env 44 (w44 (fun R => f44 M)) := by
  have hO := S.once
  refine good_of S (M := M) (d := 40) (l := []) (cs := []) (by simp) (by simp) fun xs => ?_
  by_cases hp : ∃ t1 a2 a3, xs = [.ints t1 .i64 a2, .int .i64 a3]
  · obtain ⟨t1, a2, a3, rfl⟩ := hp
    right
    intro R k
    have e := f44_seg (fun R => f44L2S M) (LOr env M (tab44 M) spG) k t1 a2 a3
    rw [LOs_eq (by
      intro s hs
      simp only [List.mem_cons, List.not_mem_nil, or_false] at hs
      rcases hs with rfl
      · exact f44L2_ok hO M)] at e
    exact e
  · left
    intro R k
    unfold w44
    split
    · exact absurd ⟨_, _, _, rfl⟩ hp
    · rfl
noncomputable def tab12 (M : Nat) : Tab := tabOf []
theorem f12L3_ok (hO : LoopsOnce env) (M : Nat) : SmOk (LOr env M (tab12 M) spG) (smf12L3 (fun R => f12L3S M) (LOr env M (tab12 M) spG)) := by
  intro R l st k h
  show (LOr env M (tab12 M) spG) R 40 12 3 st k = _
  unfold smf12L3
  simp only
  split
  · rename_i x4 t8 x5 x6 u0 x7
    obtain rfl : _ = st := Option.some.inj h
    exact sm_rounds hO (cs := []) (c := (loopOf env 12 3).getD .skip) (by kernel_rfl) (by kernel_rfl) (by simp)
      (S := fun a : Int × (List Bool) => (qf12L30 t8 x4 x5 a.1 a.2))
      (B := fun (g : Int × (List Bool) → Option R) (a : Int × (List Bool)) => f12L3 x4 x5 (fun z0 z1 z2 => k (.exit 0) (ef12L30 t8 x4 x5 z0 z1 z2)) (fun y0 y1 => g (y0, y1)) a.1 a.2)
      (fun g a => by
        have e := f12L3_seg (LOr env M (tab12 M) spG) g k t8 x4 x5 a.1 a.2
        rw [LOs_eq (by simp)] at e
        exact e) (x6, x7)
  · have h' : fillS _ l = some st := h
    simp only [smf12L3] at h'
    rw [h']
theorem good12 {P : Go.Program} (S : Sys P env spG) (M : Nat) : Good P env 12 (w12 (fun R => f12 M)) := by
  have hO := S.once
  refine good_of S (M := M) (d := 40) (l := []) (cs := []) (by simp) (by simp) fun xs => ?_
  by_cases hp : ∃ a1 t2 a3, xs = [.int .i64 a1, .ints t2 .u8 a3]
  · obtain ⟨a1, t2, a3, rfl⟩ := hp
    right
    intro R k
    have e := f12_seg (fun R => f12L3S M) (LOr env M (tab12 M) spG) k t2 a1 a3
    rw [LOs_eq (by
      intro s hs
      simp only [List.mem_cons, List.not_mem_nil, or_false] at hs
      rcases hs with rfl
      · exact f12L3_ok hO M)] at e
    exact e
  · left
    intro R k
    unfold w12
    split
    · exact absurd ⟨_, _, _, rfl⟩ hp
    · rfl
noncomputable def tab14 (M : Nat) : Tab := tabOf []
theorem f14L4_ok (hO : LoopsOnce env) (M : Nat) : SmOk (LOr env M (tab14 M) spG) (smf14L4 (fun R => f14L4S M) (LOr env M (tab14 M) spG)) := by
  intro R l st k h
  show (LOr env M (tab14 M) spG) R 40 14 4 st k = _
  unfold smf14L4
  simp only
  split
  · rename_i t8 x5 t9 x6 x7
    obtain rfl : _ = st := Option.some.inj h
    exact sm_rounds hO (cs := []) (c := (loopOf env 14 4).getD .skip) (by kernel_rfl) (by kernel_rfl) (by simp)
      (S := fun a : Int => (qf14L40 t8 t9 x5 x6 a))
      (B := fun (g : Int → Option R) (a : Int) => f14L4 x5 x6 (fun z0 z1 z2 z3 => k .ret (ef14L40 t8 t9 x5 x6 z0 z1 z2 z3)) (fun z0 z1 => k (.exit 0) (ef14L41 t8 t9 x5 x6 z0 z1)) (fun y0 => g y0) a)
      (fun g a => by
        have e := f14L4_seg (LOr env M (tab14 M) spG) g k t8 t9 x5 x6 a
        rw [LOs_eq (by simp)] at e
        exact e) x7
  · have h' : fillS _ l = some st := h
    simp only [smf14L4] at h'
    rw [h']
theorem good14 {P : Go.Program} (S : Sys P env spG) (M : Nat) : Good P env 14 (w14 (fun R => f14 M)) := by
  have hO := S.once
  refine good_of S (M := M) (d := 40) (l := []) (cs := []) (by simp) (by simp) fun xs => ?_
  by_cases hp : ∃ t1 a2 t3 a4, xs = [.bools t1 a2, .bools t3 a4]
  · obtain ⟨t1, a2, t3, a4, rfl⟩ := hp
    right
    intro R k
    have e := f14_seg (fun R => f14L4S M) (LOr env M (tab14 M) spG) k t1 t3 a2 a4
    rw [LOs_eq (by
      intro s hs
      simp only [List.mem_cons, List.not_mem_nil, or_false] at hs
      rcases hs with rfl
      · exact f14L4_ok hO M)] at e
    exact e
  · left
    intro R k
    unfold w14
    split
    · exact absurd ⟨_, _, _, _, rfl⟩ hp
    · rfl
noncomputable def tab90 (M : Nat) : Tab := tabOf []
theorem good90 {P : Go.Program} (S : Sys P env spG) (M : Nat) : Good P env 90 (w90 (fun R => f90 M)) := by
  have hO := S.once
  refine good_of S (M := M) (d := 40) (l := []) (cs := []) (by simp) (by simp) fun xs => ?_
  by_cases hp : ∃ a1 a2 a3 a4 t5 a6 a7 a8 a9 a10 a11 a12, xs = [.agg [.int .i64 a1, .int .i64 a2, .int .i64 a3, .int .i64 a4, .ints t5 .i64 a6], .agg [.int .i64 a7, .int .i64 a8, .int .i64 a9, .int .i64 a10], .int .i64 a11, .int .i64 a12]
  · obtain ⟨a1, a2, a3, a4, t5, a6, a7, a8, a9, a10, a11, a12, rfl⟩ := hp
    right
    intro R k
    have e := f90_seg (LOr env M (tab90 M) spG) k t5 a1 a2 a3 a4 a6 a7 a8 a9 a10 a11 a12
    rw [LOs_eq (by simp)] at e
    exact e
  · left
    intro R k
    unfold w90
    split
    · exact absurd ⟨_, _, _, _, _, _, _, _, _, _, _, _, rfl⟩ hp
    · rfl
noncomputable def tab91 (M : Nat) : Tab := tabOf []
theorem good91 {P : Go.Program} (S : Sys P env spG) (M : Nat) : Good P env 91 (w91 (fun R => f91 M)) := by
  have hO := S.once
  refine good_of S (M := M) (d := 40) (l := []) (cs := []) (by simp) (by simp) fun xs => ?_
  by_cases hp : ∃ a1 a2 a3 a4, xs = [.agg [.int .i64 a1, .int .i64 a2, .int .i64 a3, .int .i64 a4]]
  · obtain ⟨a1, a2, a3, a4, rfl⟩ := hp
    right
    intro R k
    have e := f91_seg (LOr env M (tab91 M) spG) k a1 a2 a3 a4
    rw [LOs_eq (by simp)] at e
    exact e
  · left
    intro R k
    unfold w91
    split
    · exact absurd ⟨_, _, _, _, rfl⟩ hp
    · rfl
noncomputable def tab92 (M : Nat) : Tab := tabOf [(90, w90 (fun R => f90 M))]
theorem good92 {P : Go.Program} (S : Sys P env spG) (M : Nat) (g90 : Good P env 90 (w90 (fun R => f90 M))) : Good P env 92 (w92 (fun R => f92 M)) := by
  have hO := S.once
  refine good_of S (M := M) (d := 40) (l := [(90, w90 (fun R => f90 M))]) (cs := []) (by
    intro p hp
    simp only [List.mem_cons, List.not_mem_nil, or_false] at hp
    rcases hp with rfl
    · exact g90) (by simp) fun xs => ?_
  by_cases hp : ∃ a1 a2 a3 a4 t5 a6 a7 a8 a9 a10 a11 a12 a13 a14, xs = [.agg [.int .i64 a1, .int .i64 a2, .int .i64 a3, .int .i64 a4, .ints t5 .i64 a6], .agg [.int .i64 a7, .int .i64 a8, .int .i64 a9, .int .i64 a10], .agg [.int .i64 a11, .int .i64 a12, .int .i64 a13, .int .i64 a14]]
  · obtain ⟨a1, a2, a3, a4, t5, a6, a7, a8, a9, a10, a11, a12, a13, a14, rfl⟩ := hp
    right
    intro R k
    have e := f92_seg (fun R => f90 M) (LOr env M (tab92 M) spG) k t5 a1 a2 a3 a4 a6 a7 a8 a9 a10 a11 a12 a13 a14
    rw [LOs_eq (by simp)] at e
    exact e
  · left
    intro R k
    unfold w92
    split
    · exact absurd ⟨_, _, _, _, _, _, _, _, _, _, _, _, _, _, rfl⟩ hp
    · rfl
noncomputable def tab77 (M : Nat) : Tab := tabOf [(90, w90 (fun R => f90 M)), (91, w91 (fun R => f91 M)), (92, w92 (fun R => f92 M))]
theorem good77 {P : Go.Program} (S : Sys P env spG) (M : Nat) (g90 : Good P env 90 (w90 (fun R => f90 M))) (g91 : Good P env 91 (w91 (fun R => f91 M))) (g92 : Good P env 92 (w92 (fun R => f92 M))) : Good P env 77 (w77 (fun R => f77 M)) := by
  have hO := S.once
  refine good_of S (M := M) (d := 40) (l := [(90, w90 (fun R => f90 M)), (91, w91 (fun R => f91 M)), (92, w92 (fun R => f92 M))]) (cs := []) (by
    intro p hp
    simp only [List.mem_cons, List.not_mem_nil, or_false] at hp
    rcases hp with rfl | rfl | rfl
    · exact g90
    · exact g91
    · exact g92) (by simp) fun xs => ?_
  by_cases hp : ∃ a1 a2 a3 a4 t5 a6 a7 a8 a9 a10 a11 a12 a13 a14, xs = [.agg [.int .i64 a1, .int .i64 a2, .int .i64 a3, .int .i64 a4, .ints t5 .i64 a6], .agg [.int .i64 a7, .int .i64 a8, .int .i64 a9, .int .i64 a10], .agg [.int .i64 a11, .int .i64 a12, .int .i64 a13, .int .i64 a14]]
  · obtain ⟨a1, a2, a3, a4, t5, a6, a7, a8, a9, a10, a11, a12, a13, a14, rfl⟩ := hp
    right
    intro R k
    have e := f77_seg (fun R => f90 M) (fun R => f91 M) (fun R => f92 M) (LOr env M (tab77 M) spG) k t5 a1 a2 a3 a4 a6 a7 a8 a9 a10 a11 a12 a13 a14
    rw [LOs_eq (by simp)] at e
    exact e
  · left
    intro R k
    unfold w77
    split
    · exact absurd ⟨_, _, _, _, _, _, _, _, _, _, _, _, _, _, rfl⟩ hp
    · rfl
noncomputable def tab48 (M : Nat) : Tab := tabOf [(41, w41 (fun R => f41 M)), (49, w49 (fun R => f49 M))]
theorem good48 {P : Go.Program} (S : Sys P env spG) (M : Nat) (g41 : Good P env 41 (w41 (fun R => f41 M))) (g49 : Good P env 49 (w49 (fun R => f49 M))) : Good P env 48 (w48 (fun R => f48 M)) := by
  have hO := S.once
  refine good_of S (M := M) (d := 40) (l := [(41, w41 (fun R => f41 M)), (49, w49 (fun R => f49 M))]) (cs := []) (by
    intro p hp
    simp only [List.mem_cons, List.not_mem_nil, or_false] at hp
    rcases hp with rfl | rfl
    · exact g41
    · exact g49) (by simp) fun xs => ?_
  by_cases hp : ∃ a1 a2 a3 a4 t5 a6 a7, xs = [.agg [.int .i64 a1, .int .i64 a2, .int .i64 a3, .int .i64 a4, .ints t5 .i64 a6], .int .i64 a7]
  · obtain ⟨a1, a2, a3, a4, t5, a6, a7, rfl⟩ := hp
    right
    intro R k
    have e := f48_seg (fun R => f41 M) (fun R => f49 M) (LOr env M (tab48 M) spG) k t5 a1 a2 a3 a4 a6 a7
    rw [LOs_eq (by simp)] at e
    exact e
  · left
    intro R k
    unfold w48
    split
    · exact absurd ⟨_, _, _, _, _, _, _, rfl⟩ hp
    · rfl
noncomputable def tab45 (M : Nat) : Tab := tabOf [(41, w41 (fun R => f41 M)), (48, w48 (fun R => f48 M)), (77, w77 (fun R => f77 M))]
theorem f45L4_ok (hO : LoopsOnce env) (M : Nat) : SmOk (LOr env M (tab45 M) spG) (smf45L4 (fun R => f45L4S M) (LOr env M (tab45 M) spG)) := by
  intro R l st k h
  show (LOr env M (tab45 M) spG) R 40 45 4 st k = _
  unfold smf45L4
  simp only
  split
  · rename_i x13 x14 x15 x16 x17 t25 x18 u0 x19 x20 x21 x22 x23 x24
    obtain rfl : _ = st := Option.some.inj h
    exact sm_rounds hO (cs := []) (c := (loopOf env 45 4).getD .skip) (by kernel_rfl) (by kernel_rfl) (by simp)
      (S := fun a : Int × (List Int) => (qf45L40 t25 a.1 x14 x15 x16 x17 x18 a.2 x20 x21 x22 x23 x24))
      (B := fun (g : Int × (List Int) → Option R) (a : Int × (List Int)) => f45L4 (f41 M) (f48 M) (f77 M) x14 x15 x16 x17 x18 x20 x21 x22 x23 x24 (fun z0 z1 z2 => k (.exit 0) (ef45L40 t25 z0 z1 x14 x15 x16 x17 x18 z2 x20 x21 x22 x23 x24)) (fun y0 y1 => g (y0, y1)) a.1 a.2)
      (fun g a => by
        have e := f45L4_seg (fun R => f41 M) (fun R => f48 M) (fun R => f77 M) (LOr env M (tab45 M) spG) g k t25 x14 x15 x16 x17 x18 x20 x21 x22 x23 x24 a.1 a.2
        rw [LOs_eq (by simp)] at e
        exact e) (x13, x19)
  · have h' : fillS _ l = some st := h
    simp only [smf45L4] at h'
    rw [h']
theorem good45 {P : Go.Program} (S : Sys P env spG) (M : Nat) (g41 : Good P env 41 (w41 (fun R => f41 M))) (g48 : Good P env 48 (w48 (fun R => f48 M))) (g77 : Good P env 77 (w77 (fun R => f77 M))) : Good P env 45 (w45 (fun R => f45 M)) := by
  have hO := S.once
  refine good_of S (M := M) (d := 40) (l := [(41, w41 (fun R => f41 M)), (48, w48 (fun R => f48 M)), (77, w77 (fun R => f77 M))]) (cs := []) (by
    intro p hp
    simp only [List.mem_cons, List.not_mem_nil, or_false] at hp
    rcases hp with rfl | rfl | rfl
    · exact g41
    · exact g48
    · exact g77) (by simp) fun xs => ?_
  by_cases hp : ∃ a1 a2 a3 a4 t5 a6 a7, xs = [.agg [.int .i64 a1, .int .i64 a2, .int .i64 a3, .int .i64 a4, .ints t5 .i64 a6], .int .i64 a7]
  · obtain ⟨a1, a2, a3, a4, t5, a6, a7, rfl⟩ := hp
    right
    intro R k
    have e := f45_seg (fun R => f41 M) (fun R => f48 M) (fun R => f77 M) (fun R => f45L4S M) (LOr env M (tab45 M) spG) k t5 a1 a2 a3 a4 a6 a7
    rw [LOs_eq (by
      intro s hs
      simp only [List.mem_cons, List.not_mem_nil, or_false] at hs
      rcases hs with rfl
      · exact f45L4_ok hO M)] at e
    exact e
  · left
    intro R k
    unfold w45
    split
    · exact absurd ⟨_, _, _, _, _, _, _, rfl⟩ hp
    · rfl
noncomputable def tab46 (M : Nat) : Tab := tabOf [(45, w45 (fun R => f45 M))]
theorem good46 {P : Go.Program} (S : Sys P env spG) (M : Nat) (g45 : Good P env 45 (w45 (fun R => f45 M))) : Good P env 46 (w46 (fun R => f46 M)) := by
  have hO := S.once
  refine good_of S (M := M) (d := 40) (l := [(45, w45 (fun R => f45 M))]) (cs := []) (by
    intro p hp
    simp only [List.mem_cons, List.not_mem_nil, or_false] at hp
    rcases hp with rfl
    · exact g45) (by simp) fun xs => ?_
  by_cases hp : ∃ a1 a2 a3 a4 t5 a6 a7, xs = [.agg [.int .i64 a1, .int .i64 a2, .int .i64 a3, .int .i64 a4, .ints t5 .i64 a6], .int .i64 a7]
  · obtain ⟨a1, a2, a3, a4, t5, a6, a7, rfl⟩ := hp
    right
    intro R k
    have e := f46_seg (fun R => f45 M) (LOr env M (tab46 M) spG) k t5 a1 a2 a3 a4 a6 a7
    rw [LOs_eq (by simp)] at e
    exact e
  · left
    intro R k
    unfold w46
    split
    · exact absurd ⟨_, _, _, _, _, _, _, rfl⟩ hp
    · rfl
noncomputable def tab81 (M : Nat) : Tab := tabOf []
theorem f81L5_ok (hO : LoopsOnce env) (M : Nat) : SmOk (LOr env M (tab81 M) spG) (smf81L5 (fun R => f81L5S M) (LOr env M (tab81 M) spG)) := by
  intro R l st k h
  show (LOr env M (tab81 M) spG) R 40 81 5 st k = _
  unfold smf81L5
  simp only
  split
  · rename_i x4 x5 t9 x6 x7 x8
    obtain rfl : _ = st := Option.some.inj h
    exact sm_rounds hO (cs := []) (c := (loopOf env 81 5).getD .skip) (by kernel_rfl) (by kernel_rfl) (by simp)
      (S := fun a : Int × Int => (qf81L50 t9 x4 a.1 x6 x7 a.2))
      (B := fun (g : Int × Int → Option R) (a : Int × Int) => f81L5 x4 x6 x7 (fun z0 z1 z2 => k (.exit 0) (ef81L50 t9 x4 z0 x6 x7 z1 z2)) (fun y0 y1 => g (y0, y1)) a.1 a.2)
      (fun g a => by
        have e := f81L5_seg (LOr env M (tab81 M) spG) g k t9 x4 x6 x7 a.1 a.2
        rw [LOs_eq (by simp)] at e
        exact e) (x5, x8)
  · have h' : fillS _ l = some st := h
    simp only [smf81L5] at h'
    rw [h']
theorem good81 {P : Go.Program} (S : Sys P env spG) (M : Nat) : Good P env 81 (w81 (fun R => f81 M)) := by
  have hO := S.once
  refine good_of S (M := M) (d := 40) (l := []) (cs := []) (by simp) (by simp) fun xs => ?_
  by_cases hp : ∃ a1 t2 a3, xs = [.int .i64 a1, .bools t2 a3]
  · obtain ⟨a1, t2, a3, rfl⟩ := hp
    right
    intro R k
    have e := f81_seg (fun R => f81L5S M) (LOr env M (tab81 M) spG) k t2 a1 a3
    rw [LOs_eq (by
      intro s hs
      simp only [List.mem_cons, List.not_mem_nil, or_false] at hs
      rcases hs with rfl
      · exact f81L5_ok hO M)] at e
    exact e
  · left
    intro R k
    unfold w81
    split
    · exact absurd ⟨_, _, _, rfl⟩ hp
    · rfl
noncomputable def tab73 (M : Nat) : Tab := tabOf []
theorem good73 {P : Go.Program} (S : Sys P env spG) (M : Nat) : Good P env 73 (w73 (fun R => f73 M)) := by
  have hO := S.once
  refine good_of S (M := M) (d := 40) (l := []) (cs := []) (by simp) (by simp) fun xs => ?_
  by_cases hp : ∃ a1 a2 a3 a4 t5 a6 t7 a8 a9 a10 a11 a12 a13, xs = [.agg [.int .i64 a1, .int .i64 a2, .int .i64 a3, .int .i64 a4, .ints t5 .i64 a6], .agg [.ints t7 .i64 a8, .int .i64 a9, .int .i64 a10, .int .i64 a11, .int .u64 a12], .int .i64 a13]
  · obtain ⟨a1, a2, a3, a4, t5, a6, t7, a8, a9, a10, a11, a12, a13, rfl⟩ := hp
    right
    intro R k
    have e := f73_seg (LOr env M (tab73 M) spG) k t5 t7 a1 a2 a3 a4 a6 a8 a9 a10 a11 a12 a13
    rw [LOs_eq (by simp)] at e
    exact e
  · left
    intro R k
    unfold w73
    split
    · exact absurd ⟨_, _, _, _, _, _, _, _, _, _, _, _, _, rfl⟩ hp
    · rfl
noncomputable def tab74 (M : Nat) : Tab := tabOf [(41, w41 (fun R => f41 M)), (48, w48 (fun R => f48 M))]
theorem f74L3_ok (hO : LoopsOnce env) (M : Nat) : SmOk (LOr env M (tab74 M) spG) (smf74L3 (fun R => f74L3S M) (LOr env M (tab74 M) spG)) := by
  intro R l st k h
  show (LOr env M (tab74 M) spG) R 40 74 3 st k = _
  unfold smf74L3
  simp only
  split
  · rename_i x7 x8 x9 x10 x11 t14 x12 u0 x13
    obtain rfl : _ = st := Option.some.inj h
    exact sm_rounds hO (cs := []) (c := (loopOf env 74 3).getD .skip) (by kernel_rfl) (by kernel_rfl) (by simp)
      (S := fun a : Int × (List Int) => (qf74L30 t14 a.1 x8 x9 x10 x11 x12 a.2))
      (B := fun (g : Int × (List Int) → Option R) (a : Int × (List Int)) => f74L3 (f41 M) (f48 M) x8 x9 x10 x11 x12 (fun z0 z1 z2 => k (.exit 0) (ef74L30 t14 z0 z1 x8 x9 x10 x11 x12 z2)) (fun y0 y1 => g (y0, y1)) a.1 a.2)
      (fun g a => by
        have e := f74L3_seg (fun R => f41 M) (fun R => f48 M) (LOr env M (tab74 M) spG) g k t14 x8 x9 x10 x11 x12 a.1 a.2
        rw [LOs_eq (by simp)] at e
        exact e) (x7, x13)
  · have h' : fillS _ l = some st := h
    simp only [smf74L3] at h'
    rw [h']
theorem good74 {P : Go.Program} (S : Sys P env spG) (M : Nat) (g41 : Good P env 41 (w41 (fun R => f41 M))) (g48 : Good P env 48 (w48 (fun R => f48 M))) : Good P env 74 (w74 (fun R => f74 M)) := by
  have hO := S.once
  refine good_of S (M := M) (d := 40) (l := [(41, w41 (fun R => f41 M)), (48, w48 (fun R => f48 M))]) (cs := []) (by
    intro p hp
    simp only [List.mem_cons, List.not_mem_nil, or_false] at hp
    rcases hp with rfl | rfl
    · exact g41
    · exact g48) (by simp) fun xs => ?_
  by_cases hp : ∃ a1 a2 a3 a4 t5 a6, xs = [.agg [.int .i64 a1, .int .i64 a2, .int .i64 a3, .int .i64 a4, .ints t5 .i64 a6]]
  · obtain ⟨a1, a2, a3, a4, t5, a6, rfl⟩ := hp
    right
    intro R k
    have e := f74_seg (fun R => f41 M) (fun R => f48 M) (fun R => f74L3S M) (LOr env M (tab74 M) spG) k t5 a1 a2 a3 a4 a6
    rw [LOs_eq (by
      intro s hs
      simp only [List.mem_cons, List.not_mem_nil, or_false] at hs
      rcases hs with rfl
      · exact f74L3_ok hO M)] at e
    exact e
  · left
    intro R k
    unfold w74
    split
    · exact absurd ⟨_, _, _, _, _, _, rfl⟩ hp
    · rfl
noncomputable def tab75 (M : Nat) : Tab := tabOf [(41, w41 (fun R => f41 M)), (48, w48 (fun R => f48 M)), (77, w77 (fun R => f77 M))]
theorem f75L4_ok (hO : LoopsOnce env) (M : Nat) : SmOk (LOr env M (tab75 M) spG) (smf75L4 (fun R => f75L4S M) (LOr env M (tab75 M) spG)) := by
  intro R l st k h
  show (LOr env M (tab75 M) spG) R 40 75 4 st k = _
  unfold smf75L4
  simp only
  split
  · rename_i x13 x14 x15 x16 x17 t25 x18 u0 x19 x20 x21 x22 x23 x24
    obtain rfl : _ = st := Option.some.inj h
    exact sm_rounds hO (cs := []) (c := (loopOf env 75 4).getD .skip) (by kernel_rfl) (by kernel_rfl) (by simp)
      (S := fun a : Int × (List Int) => (qf75L40 t25 a.1 x14 x15 x16 x17 x18 a.2 x20 x21 x22 x23 x24))
      (B := fun (g : Int × (List Int) → Option R) (a : Int × (List Int)) => f75L4 (f41 M) (f48 M) (f77 M) x14 x15 x16 x17 x18 x20 x21 x22 x23 x24 (fun z0 z1 z2 => k (.exit 0) (ef75L40 t25 z0 z1 x14 x15 x16 x17 x18 z2 x20 x21 x22 x23 x24)) (fun y0 y1 => g (y0, y1)) a.1 a.2)
      (fun g a => by
        have e := f75L4_seg (fun R => f41 M) (fun R => f48 M) (fun R => f77 M) (LOr env M (tab75 M) spG) g k t25 x14 x15 x16 x17 x18 x20 x21 x22 x23 x24 a.1 a.2
        rw [LOs_eq (by simp)] at e
        exact e) (x13, x19)
  · have h' : fillS _ l = some st := h
    simp only [smf75L4] at h'
    rw [h']
theorem good75 {P : Go.Program} (S : Sys P env spG) (M : Nat) (g41 : Good P env 41 (w41 (fun R => f41 M))) (g48 : Good P env 48 (w48 (fun R => f48 M))) (g77 : Good P env 77 (w77 (fun R => f77 M))) : Good P env 75 (w75 (fun R => f75 M)) := by
  have hO := S.once
  refine good_of S (M := M) (d := 40) (l := [(41, w41 (fun R => f41 M)), (48, w48 (fun R => f48 M)), (77, w77 (fun R => f77 M))]) (cs := []) (by
    intro p hp
    simp only [List.mem_cons, List.not_mem_nil, or_false] at hp
    rcases hp with rfl | rfl | rfl
    · exact g41
    · exact g48
    · exact g77) (by simp) fun xs => ?_
  by_cases hp : ∃ a1 a2 a3 a4 t5 a6 a7, xs = [.agg [.int .i64 a1, .int .i64 a2, .int .i64 a3, .int .i64 a4, .ints t5 .i64 a6], .int .i64 a7]
  · obtain ⟨a1, a2, a3, a4, t5, a6, a7, rfl⟩ := hp
    right
    intro R k
    have e := f75_seg (fun R => f41 M) (fun R => f48 M) (fun R => f77 M) (fun R => f75L4S M) (LOr env M (tab75 M) spG) k t5 a1 a2 a3 a4 a6 a7
    rw [LOs_eq (by
      intro s hs
      simp only [List.mem_cons, List.not_mem_nil, or_false] at hs
      rcases hs with rfl
      · exact f75L4_ok hO M)] at e
    exact e
  · left
    intro R k
    unfold w75
    split
    · exact absurd ⟨_, _, _, _, _, _, _, rfl⟩ hp
    · rfl
noncomputable def tab76 (M : Nat) : Tab := tabOf [(44, w44 (fun R => f44 M)), (45, w45 (fun R => f45 M)), (46, w46 (fun R => f46 M)), (48, w48 (fun R => f48 M))]
theorem f76L7_ok (hO : LoopsOnce env) (M : Nat) : SmOk (LOr env M (tab76 M) spG) (smf76L7 (fun R => f76L7S M) (LOr env M (tab76 M) spG)) := by
  intro R l st k h
  show (LOr env M (tab76 M) spG) R 40 76 7 st k = _
  unfold smf76L7
  simp only
  split
  · rename_i x18 x19 x20 x21 x22 t27 x23 x24 t28 x25 t29 x26
    obtain rfl : _ = st := Option.some.inj h
    exact sm_rounds hO (cs := []) (c := (loopOf env 76 7).getD .skip) (by kernel_rfl) (by kernel_rfl) (by simp)
      (S := fun a : Int => (qf76L70 t27 t28 t29 a x19 x20 x21 x22 x23 x24 x25 x26))
      (B := fun (g : Int → Option R) (a : Int) => f76L7 (f44 M) (f45 M) x19 x20 x21 x22 x23 x24 x25 x26 (fun z0 z1 z2 z3 => k .ret (ef76L70 t27 t28 t29 z0 z1 z2 z3 x19 x20 x21 x22 x23 x24 x25 x26)) (fun z0 z1 z2 z3 z4 => k .ret (ef76L71 t27 t28 t29 z0 z1 z2 z3 x19 x20 x21 x22 x23 x24 x25 x26 z4)) (fun z0 z1 => k (.exit 0) (ef76L72 t27 t28 t29 z0 z1 x19 x20 x21 x22 x23 x24 x25 x26)) (fun y0 => g y0) a)
      (fun g a => by
        have e := f76L7_seg (fun R => f44 M) (fun R => f45 M) (fun R => f46 M) (fun R => f48 M) (LOr env M (tab76 M) spG) g k t27 t28 t29 x19 x20 x21 x22 x23 x24 x25 x26 a
        rw [LOs_eq (by simp)] at e
        exact e) x18
  · have h' : fillS _ l = some st := h
    simp only [smf76L7] at h'
    rw [h']
theorem good76 {P : Go.Program} (S : Sys P env spG) (M : Nat) (g44 : Good P env 44 (w44 (fun R => f44 M))) (g45 : Good P env 45 (w45 (fun R => f45 M))) (g46 : Good P env 46 (w46 (fun R => f46 M))) (g48 : Good P env 48 (w48 (fun R => f48 M))) : Good P env 76 (w76 (fun R => f76 M)) := by
  have hO := S.once
  refine good_of S (M := M) (d := 40) (l := [(44, w44 (fun R => f44 M)), (45, w45 (fun R => f45 M)), (46, w46 (fun R => f46 M)), (48, w48 (fun R => f48 M))]) (cs := []) (by
    intro p hp
    simp only [List.mem_cons, List.not_mem_nil, or_false] at hp
    rcases hp with rfl | rfl | rfl | rfl
    · exact g44
    · exact g45
    · exact g46
    · exact g48) (by simp) fun xs => ?_
  by_cases hp : ∃ a1 a2 a3 a4 t5 a6 a7 t8 a9 t10 a11, xs = [.agg [.int .i64 a1, .int .i64 a2, .int .i64 a3, .int .i64 a4, .ints t5 .i64 a6], .agg [.int .i64 a7, .ints t8 .i64 a9, .ints t10 .i64 a11]]
  · obtain ⟨a1, a2, a3, a4, t5, a6, a7, t8, a9, t10, a11, rfl⟩ := hp
    right
    intro R k
    have e := f76_seg (fun R => f44 M) (fun R => f45 M) (fun R => f46 M) (fun R => f48 M) (fun R => f76L7S M) (LOr env M (tab76 M) spG) k t5 t8 t10 a1 a2 a3 a4 a6 a7 a9 a11
    rw [LOs_eq (by
      intro s hs
      simp only [List.mem_cons, List.not_mem_nil, or_false] at hs
      rcases hs with rfl
      · exact f76L7_ok hO M)] at e
    exact e
  · left
    intro R k
    unfold w76
    split
    · exact absurd ⟨_, _, _, _, _, _, _, _, _, _, _, rfl⟩ hp
    · rfl
noncomputable def tab43 (M : Nat) : Tab := tabOf [(41, w41 (fun R => f41 M)), (44, w44 (fun R => f44 M)), (73, w73 (fun R => f73 M)), (76, w76 (fun R => f76 M))]
theorem f43L4_ok (hO : LoopsOnce env) (M : Nat) : SmOk (LOr env M (tab43 M) spG) (smf43L4 (fun R => f43L4S M) (LOr env M (tab43 M) spG)) := by
  intro R l st k h
  show (LOr env M (tab43 M) spG) R 40 43 4 st k = _
  unfold smf43L4
  simp only
  split
  · rename_i x19 t31 x20 t32 x21 t33 x22 t34 x23 x24 x25 x26 x27 t35 x28 t36 x29 t37 x30
    obtain rfl : _ = st := Option.some.inj h
    exact sm_rounds hO (cs := []) (c := (loopOf env 43 4).getD .skip) (by kernel_rfl) (by kernel_rfl) (by simp)
      (S := fun a : Int => (qf43L40 t31 t32 t33 t34 t35 t36 t37 a x20 x21 x22 x23 x24 x25 x26 x27 x28 x29 x30))
      (B := fun (g : Int → Option R) (a : Int) => f43L4 (f44 M) (f73 M) x20 x21 x22 x23 x24 x25 x26 x27 x28 x29 x30 (fun z0 z1 z2 z3 => k .ret (ef43L40 t31 t32 t33 t34 t35 t36 t37 z0 z1 z2 z3 x20 x21 x22 x23 x24 x25 x26 x27 x28 x29 x30)) (fun z0 z1 => k (.exit 0) (ef43L41 t31 t32 t33 t34 t35 t36 t37 z0 z1 x20 x21 x22 x23 x24 x25 x26 x27 x28 x29 x30)) (fun y0 => g y0) a)
      (fun g a => by
        have e := f43L4_seg (fun R => f41 M) (fun R => f44 M) (fun R => f73 M) (fun R => f76 M) (LOr env M (tab43 M) spG) g k t31 t32 t33 t34 t35 t36 t37 x20 x21 x22 x23 x24 x25 x26 x27 x28 x29 x30 a
        rw [LOs_eq (by simp)] at e
        exact e) x19
  · have h' : fillS _ l = some st := h
    simp only [smf43L4] at h'
    rw [h']
theorem f43L15_ok (hO : LoopsOnce env) (M : Nat) : SmOk (LOr env M (tab43 M) spG) (smf43L15 (fun R => f43L15S M) (LOr env M (tab43 M) spG)) := by
  intro R l st k h
  show (LOr env M (tab43 M) spG) R 40 43 15 st k = _
  unfold smf43L15
  simp only
  split
  · rename_i x60 x61 x62 x63 x64 x65 t70 x66 t71 x67 t72 x68 u0 x69
    obtain rfl : _ = st := Option.some.inj h
    exact sm_rounds hO (cs := []) (c := (loopOf env 43 15).getD .skip) (by kernel_rfl) (by kernel_rfl) (by simp)
      (S := fun a : Int × (List Bool) => (qf43L150 t70 t71 t72 x60 a.1 x62 x63 x64 x65 x66 x67 x68 a.2))
      (B := fun (g : Int × (List Bool) → Option R) (a : Int × (List Bool)) => f43L15 x60 x62 x63 x64 x65 x66 x67 x68 (fun z0 z1 z2 z3 z4 => k .ret (ef43L150 t70 t71 t72 z0 x60 z1 z2 z3 x62 x63 x64 x65 x66 x67 x68 z4)) (fun z0 z1 z2 => k (.exit 4) (ef43L151 t70 t71 t72 x60 z0 z1 x62 x63 x64 x65 x66 x67 x68 z2)) (fun y0 y1 => g (y0, y1)) a.1 a.2)
      (fun g a => by
        have e := f43L15_seg (fun R => f41 M) (fun R => f44 M) (fun R => f73 M) (fun R => f76 M) (LOr env M (tab43 M) spG) g k t70 t71 t72 x60 x62 x63 x64 x65 x66 x67 x68 a.1 a.2
        rw [LOs_eq (by simp)] at e
        exact e) (x61, x69)
  · have h' : fillS _ l = some st := h
    simp only [smf43L15] at h'
    rw [h']
theorem f43L10_ok (hO : LoopsOnce env) (M : Nat) : SmOk (LOr env M (tab43 M) spG) (smf43L10 (fun R => f43L10S M) (LOr env M (tab43 M) spG)) := by
  intro R l st k h
  show (LOr env M (tab43 M) spG) R 40 43 10 st k = _
  unfold smf43L10
  simp only
  split
  · rename_i x47 x48 x49 x50 x51 t56 x52 t57 x53 t58 x54 u0 x55
    obtain rfl : _ = st := Option.some.inj h
    exact sm_rounds hO (cs := []) (c := (loopOf env 43 10).getD .skip) (by kernel_rfl) (by kernel_rfl) (by simp)
      (S := fun a : Int × (List Bool) => (qf43L100 t56 t57 t58 a.1 x48 x49 x50 x51 x52 x53 x54 a.2))
      (B := fun (g : Int × (List Bool) → Option R) (a : Int × (List Bool)) => f43L10 (f76 M) (f43L15S M) x48 x49 x50 x51 x52 x53 x54 (fun z0 z1 z2 z3 z4 => k .ret (ef43L100 t56 t57 t58 z0 z1 z2 z3 x48 x49 x50 x51 x52 x53 x54 z4)) (fun z0 z1 z2 z3 z4 z5 => k .ret (ef43L101 t56 t57 t58 z0 z1 z2 z3 z4 x48 x49 x50 x51 x52 x53 x54 z5)) (fun z0 z1 z2 => k (.exit 2) (ef43L102 t56 t57 t58 z0 z1 x48 x49 x50 x51 x52 x53 x54 z2)) (fun y0 y1 => g (y0, y1)) a.1 a.2)
      (fun g a => by
        have e := f43L10_seg (fun R => f41 M) (fun R => f44 M) (fun R => f73 M) (fun R => f76 M) (fun R => f43L15S M) (LOr env M (tab43 M) spG) g k t56 t57 t58 x48 x49 x50 x51 x52 x53 x54 a.1 a.2
        rw [LOs_eq (by
      intro s hs
      simp only [List.mem_cons, List.not_mem_nil, or_false] at hs
      rcases hs with rfl
      · exact f43L15_ok hO M)] at e
        exact e) (x47, x55)
  · have h' : fillS _ l = some st := h
    simp only [smf43L10] at h'
    rw [h']
theorem good43 {P : Go.Program} (S : Sys P env spG) (M : Nat) (g41 : Good P env 41 (w41 (fun R => f41 M))) (g44 : Good P env 44 (w44 (fun R => f44 M))) (g73 : Good P env 73 (w73 (fun R => f73 M))) (g76 : Good P env 76 (w76 (fun R => f76 M))) : Good P env 43 (w43 (fun R => f43 M)) := by
  have hO := S.once
  refine good_of S (M := M) (d := 40) (l := [(41, w41 (fun R => f41 M)), (44, w44 (fun R => f44 M)), (73, w73 (fun R => f73 M)), (76, w76 (fun R => f76 M))]) (cs := []) (by
    intro p hp
    simp only [List.mem_cons, List.not_mem_nil, or_false] at hp
    rcases hp with rfl | rfl | rfl | rfl
    · exact g41
    · exact g44
    · exact g73
    · exact g76) (by simp) fun xs => ?_
  by_cases hp : ∃ t1 a2 t3 a4 t5 a6 t7 a8 a9 a10 a11 a12 t13 a14 t15 a16 t17 a18, xs = [.agg [.vals t1 151 a2, .vals t3 120 a4, .vals t5 151 a6, .ints t7 .i64 a8], .agg [.int .i64 a9, .int .i64 a10, .int .i64 a11, .int .i64 a12, .ints t13 .i64 a14], .agg [.ints t15 .i64 a16, .vals t17 115 a18]]
  · obtain ⟨t1, a2, t3, a4, t5, a6, t7, a8, a9, a10, a11, a12, t13, a14, t15, a16, t17, a18, rfl⟩ := hp
    right
    intro R k
    have e := f43_seg (fun R => f41 M) (fun R => f44 M) (fun R => f73 M) (fun R => f76 M) (fun R => f43L4S M) (fun R => f43L10S M) (LOr env M (tab43 M) spG) k t1 t3 t5 t7 t13 t15 t17 a2 a4 a6 a8 a9 a10 a11 a12 a14 a16 a18
    rw [LOs_eq (by
      intro s hs
      simp only [List.mem_cons, List.not_mem_nil, or_false] at hs
      rcases hs with rfl | rfl
      · exact f43L4_ok hO M
      · exact f43L10_ok hO M)] at e
    exact e
  · left
    intro R k
    unfold w43
    split
    · exact absurd ⟨_, _, _, _, _, _, _, _, _, _, _, _, _, _, _, _, _, _, rfl⟩ hp
    · rfl
noncomputable def tab42 (M : Nat) : Tab := tabOf [(44, w44 (fun R => f44 M)), (74, w74 (fun R => f74 M)), (75, w75 (fun R => f75 M))]
theorem f42L4_ok (hO : LoopsOnce env) (M : Nat) : SmOk (LOr env M (tab42 M) spG) (smf42L4 (fun R => f42L4S M) (LOr env M (tab42 M) spG)) := by
  intro R l st k h
  show (LOr env M (tab42 M) spG) R 40 42 4 st k = _
  unfold smf42L4
  simp only
  split
  · rename_i t27 x12 t28 x13 x14 x15 x16 x17 x18 t29 x19 x20 u0 x21 u1 x22 u2 x23 x24 u3 x25 u4 x26
    obtain rfl : _ = st := Option.some.inj h
    exact sm_rounds hO (cs := []) (c := (loopOf env 42 4).getD .skip) (by kernel_rfl) (by kernel_rfl) (by simp)
      (S := fun a : Int × (List Int) × (List Int) => (qf42L40 t27 t28 t29 x12 x13 a.1 x15 x16 x17 x18 x19 x20 x21 x22 x23 x24 a.2.1 a.2.2))
      (B := fun (g : Int × (List Int) × (List Int) → Option R) (a : Int × (List Int) × (List Int)) => f42L4 (f44 M) (f75 M) x12 x13 x15 x16 x17 x18 x19 x20 x21 x22 x23 x24 (fun z0 z1 z2 z3 => k (.exit 0) (ef42L40 t27 t28 t29 x12 x13 z0 z1 x15 x16 x17 x18 x19 x20 x21 x22 x23 x24 z2 z3)) (fun y0 y1 y2 => g (y0, y1, y2)) a.1 a.2.1 a.2.2)
      (fun g a => by
        have e := f42L4_seg (fun R => f44 M) (fun R => f74 M) (fun R => f75 M) (LOr env M (tab42 M) spG) g k t27 t28 t29 x12 x13 x15 x16 x17 x18 x19 x20 x21 x22 x23 x24 a.1 a.2.1 a.2.2
        rw [LOs_eq (by simp)] at e
        exact e) (x14, x25, x26)
  · have h' : fillS _ l = some st := h
    simp only [smf42L4] at h'
    rw [h']
theorem good42 {P : Go.Program} (S : Sys P env spG) (M : Nat) (g44 : Good P env 44 (w44 (fun R => f44 M))) (g74 : Good P env 74 (w74 (fun R => f74 M))) (g75 : Good P env 75 (w75 (fun R => f75 M))) : Good P env 42 (w42 (fun R => f42 M)) := by
  have hO := S.once
  refine good_of S (M := M) (d := 40) (l := [(44, w44 (fun R => f44 M)), (74, w74 (fun R => f74 M)), (75, w75 (fun R => f75 M))]) (cs := []) (by
    intro p hp
    simp only [List.mem_cons, List.not_mem_nil, or_false] at hp
    rcases hp with rfl | rfl | rfl
    · exact g44
    · exact g74
    · exact g75) (by simp) fun xs => ?_
  by_cases hp : ∃ a1 a2 a3 a4 t5 a6 t7 a8 t9 a10, xs = [.agg [.int .i64 a1, .int .i64 a2, .int .i64 a3, .int .i64 a4, .ints t5 .i64 a6], .bools t7 a8, .ints t9 .u8 a10]
  · obtain ⟨a1, a2, a3, a4, t5, a6, t7, a8, t9, a10, rfl⟩ := hp
    right
    intro R k
    have e := f42_seg (fun R => f44 M) (fun R => f74 M) (fun R => f75 M) (fun R => f42L4S M) (LOr env M (tab42 M) spG) k t5 t7 t9 a1 a2 a3 a4 a6 a8 a10
    rw [LOs_eq (by
      intro s hs
      simp only [List.mem_cons, List.not_mem_nil, or_false] at hs
      rcases hs with rfl
      · exact f42L4_ok hO M)] at e
    exact e
  · left
    intro R k
    unfold w42
    split
    · exact absurd ⟨_, _, _, _, _, _, _, _, _, _, rfl⟩ hp
    · rfl
end Go.Vm.T3
