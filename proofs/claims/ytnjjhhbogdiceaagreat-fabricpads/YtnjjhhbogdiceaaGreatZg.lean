/-
  A part of the proof that FabricPads answers true at every input. No condition.
-/
import Derived.Test.YtnjjhhbogdiceaaGreatYg
set_option linter.unusedVariables false
set_option linter.unusedSimpArgs false
set_option maxRecDepth 100000
namespace Go.Vm.T3
open Go Go.Vm
noncomputable def tab32 (M : Nat) : Tab := tabOf [(36, w36 (fun R => f36 M)), (50, w50 (fun R => f50 M)), (61, w61 (fun R => f61 M))]
theorem f27L3of32_ok (hO : LoopsOnce env) (M : Nat) : SmOk (LOr env M (tab32 M) spG) (smf27L3of32 (fun R => f27L3of32S M) (LOr env M (tab32 M) spG)) := by
  intro R l st k h
  show (LOr env M (tab32 M) spG) R 38 27 3 st k = _
  unfold smf27L3of32
  simp only
  split
  · rename_i t62 x21 x22 x23 x24 x25 x26 x27 t63 x28 t64 x29 t65 x30 t66 x31 t67 x32 t68 x33 t69 x34 u0 x35 x36 x37 x38 x39 t70 x40 t71 x41 t72 x42 t73 x43 t74 x44 t75 x45 t76 x46 x47 x48 x49 x50 t77 x51 t78 x52 t79 x53 t80 x54 t81 x55 u1 x56 u2 x57 u3 x58 u4 x59 u5 x60 u6 x61
    obtain rfl : _ = st := Option.some.inj h
    exact sm_rounds hO (cs := []) (c := (loopOf env 27 3).getD .skip) (by kernel_rfl) (by kernel_rfl) (by simp)
      (S := fun a : Int × (List V) × (List Int) × (List Int) => (qf27L3of320 t62 t63 t64 t65 t66 t67 t68 t69 t70 t71 t72 t73 t74 t75 t76 t77 t78 t79 t80 t81 x21 x22 a.1 x24 x25 x26 x27 x28 x29 x30 x31 x32 x33 x34 x35 x36 x37 x38 x39 x40 x41 x42 x43 x44 x45 x46 x47 x48 x49 x50 x51 x52 x53 x54 x55 a.2.1 a.2.2.1 a.2.2.2 x59 x60 x61))
      (B := fun (g : Int × (List V) × (List Int) × (List Int) → Option R) (a : Int × (List V) × (List Int) × (List Int)) => f27L3of32 (f36 M) (f50 M) x21 x22 x24 x25 x26 x27 x28 x29 x30 x31 x32 x33 x34 x35 x36 x37 x38 x39 x40 x41 x42 x43 x44 x45 x46 x47 x48 x49 x50 x51 x52 x53 x54 x55 x59 x60 x61 (fun z0 z1 z2 z3 z4 => k (.exit 0) (ef27L3of320 t62 t63 t64 t65 t66 t67 t68 t69 t70 t71 t72 t73 t74 t75 t76 t77 t78 t79 t80 t81 x21 x22 z0 z1 x24 x25 x26 x27 x28 x29 x30 x31 x32 x33 x34 x35 x36 x37 x38 x39 x40 x41 x42 x43 x44 x45 x46 x47 x48 x49 x50 x51 x52 x53 x54 x55 z2 z3 z4 x59 x60 x61)) (fun y0 y1 y2 y3 => g (y0, y1, y2, y3)) a.1 a.2.1 a.2.2.1 a.2.2.2)
      (fun g a => by
        have e := f27L3of32_seg (fun R => f36 M) (fun R => f50 M) (fun R => f61 M) (LOr env M (tab32 M) spG) g k t62 t63 t64 t65 t66 t67 t68 t69 t70 t71 t72 t73 t74 t75 t76 t77 t78 t79 t80 t81 x21 x22 x24 x25 x26 x27 x28 x29 x30 x31 x32 x33 x34 x35 x36 x37 x38 x39 x40 x41 x42 x43 x44 x45 x46 x47 x48 x49 x50 x51 x52 x53 x54 x55 x59 x60 x61 a.1 a.2.1 a.2.2.1 a.2.2.2
        rw [LOs_eq (by simp)] at e
        exact e) (x23, x56, x57, x58)
  · have h' : fillS _ l = some st := h
    simp only [smf27L3of32] at h'
    rw [h']
theorem good32 {P : Go.Program} (S : Sys P env spG) (M : Nat) (g36 : Good P env 36 (w36 (fun R => f36 M))) (g50 : Good P env 50 (w50 (fun R => f50 M))) (g61 : Good P env 61 (w61 (fun R => f61 M))) : Good P env 32 (w32 (fun R => f32 M)) := by
  have hO := S.once
  refine good_of S (M := M) (d := 40) (l := [(36, w36 (fun R => f36 M)), (50, w50 (fun R => f50 M)), (61, w61 (fun R => f61 M))]) (cs := []) (by
    intro p hp
    simp only [List.mem_cons, List.not_mem_nil, or_false] at hp
    rcases hp with rfl | rfl | rfl
    · exact g36
    · exact g50
    · exact g61) (by simp) fun xs => ?_
  by_cases hp : ∃ a1 a2 a3 a4 t5 a6 t7 a8 t9 a10 t11 a12 t13 a14 t15 a16 t17 a18 t19 a20, xs = [.agg [.int .i64 a1, .int .i64 a2, .int .i64 a3, .int .i64 a4, .ints t5 .i64 a6], .agg [.ints t7 .i64 a8, .ints t9 .i64 a10, .ints t11 .i64 a12, .ints t13 .i64 a14], .agg [.ints t15 .i64 a16, .vals t17 29 a18], .bools t19 a20]
  · obtain ⟨a1, a2, a3, a4, t5, a6, t7, a8, t9, a10, t11, a12, t13, a14, t15, a16, t17, a18, t19, a20, rfl⟩ := hp
    right
    intro R k
    have e := f32_seg (fun R => f36 M) (fun R => f50 M) (fun R => f61 M) (fun R => f27L3of32S M) (LOr env M (tab32 M) spG) k t5 t7 t9 t11 t13 t15 t17 t19 a1 a2 a3 a4 a6 a8 a10 a12 a14 a16 a18 a20
    rw [LOs_eq (by
      intro s hs
      simp only [List.mem_cons, List.not_mem_nil, or_false] at hs
      rcases hs with rfl
      · exact f27L3of32_ok hO M)] at e
    exact e
  · left
    intro R k
    unfold w32
    split
    · exact absurd ⟨_, _, _, _, _, _, _, _, _, _, _, _, _, _, _, _, _, _, _, _, rfl⟩ hp
    · rfl
noncomputable def tab11 (M : Nat) : Tab := tabOf [(32, w32 (fun R => f32 M))]
theorem good11 {P : Go.Program} (S : Sys P env spG) (M : Nat) (g32 : Good P env 32 (w32 (fun R => f32 M))) : Good P env 11 (w11 (fun R => f11 M)) := by
  have hO := S.once
  refine good_of S (M := M) (d := 40) (l := [(32, w32 (fun R => f32 M))]) (cs := []) (by
    intro p hp
    simp only [List.mem_cons, List.not_mem_nil, or_false] at hp
    rcases hp with rfl
    · exact g32) (by simp) fun xs => ?_
  by_cases hp : ∃ a1 a2 a3 a4 t5 a6 t7 a8 t9 a10 t11 a12 t13 a14 t15 a16 t17 a18 t19 a20 t21 a22, xs = [.agg [.int .i64 a1, .int .i64 a2, .int .i64 a3, .int .i64 a4, .ints t5 .i64 a6, .ints t7 .i64 a8, .ints t9 .i64 a10, .ints t11 .i64 a12, .ints t13 .i64 a14, .ints t15 .i64 a16, .ints t17 .i64 a18, .vals t19 29 a20, .bools t21 a22]]
  · obtain ⟨a1, a2, a3, a4, t5, a6, t7, a8, t9, a10, t11, a12, t13, a14, t15, a16, t17, a18, t19, a20, t21, a22, rfl⟩ := hp
    right
    intro R k
    have e := f11_seg (fun R => f32 M) (LOr env M (tab11 M) spG) k t5 t7 t9 t11 t13 t15 t17 t19 t21 a1 a2 a3 a4 a6 a8 a10 a12 a14 a16 a18 a20 a22
    rw [LOs_eq (by simp)] at e
    exact e
  · left
    intro R k
    unfold w11
    split
    · exact absurd ⟨_, _, _, _, _, _, _, _, _, _, _, _, _, _, _, _, _, _, _, _, _, _, rfl⟩ hp
    · rfl
noncomputable def tab88 (M : Nat) : Tab := tabOf []
theorem good88 {P : Go.Program} (S : Sys P env spG) (M : Nat) : Good P env 88 (w88 (fun R => f88 M)) := by
  have hO := S.once
  refine good_of S (M := M) (d := 40) (l := []) (cs := []) (by simp) (by simp) fun xs => ?_
  by_cases hp : ∃ a1 a2, xs = [.int .i64 a1, .int .i64 a2]
  · obtain ⟨a1, a2, rfl⟩ := hp
    right
    intro R k
    have e := f88_seg (LOr env M (tab88 M) spG) k a1 a2
    rw [LOs_eq (by simp)] at e
    exact e
  · left
    intro R k
    unfold w88
    split
    · exact absurd ⟨_, _, rfl⟩ hp
    · rfl
noncomputable def tab70 (M : Nat) : Tab := tabOf [(88, w88 (fun R => f88 M))]
theorem f70L3_ok (hO : LoopsOnce env) (M : Nat) : SmOk (LOr env M (tab70 M) spG) (smf70L3 (fun R => f70L3S M) (LOr env M (tab70 M) spG)) := by
  intro R l st k h
  show (LOr env M (tab70 M) spG) R 40 70 3 st k = _
  unfold smf70L3
  simp only
  split
  · rename_i t25 x17 t26 x18 t27 x19 x20 x21 t28 x22 t29 x23 u0 x24
    obtain rfl : _ = st := Option.some.inj h
    exact sm_rounds hO (cs := []) (c := (loopOf env 70 3).getD .skip) (by kernel_rfl) (by kernel_rfl) (by simp)
      (S := fun a : Int × (List Bool) => (qf70L30 t25 t26 t27 t28 t29 x17 x18 x19 x20 a.1 x22 x23 a.2))
      (B := fun (g : Int × (List Bool) → Option R) (a : Int × (List Bool)) => f70L3 (f88 M) x17 x18 x19 x20 x22 x23 (fun z0 z1 z2 => k (.exit 0) (ef70L30 t25 t26 t27 t28 t29 x17 x18 x19 x20 z0 z1 x22 x23 z2)) (fun y0 y1 => g (y0, y1)) a.1 a.2)
      (fun g a => by
        have e := f70L3_seg (fun R => f88 M) (LOr env M (tab70 M) spG) g k t25 t26 t27 t28 t29 x17 x18 x19 x20 x22 x23 a.1 a.2
        rw [LOs_eq (by simp)] at e
        exact e) (x21, x24)
  · have h' : fillS _ l = some st := h
    simp only [smf70L3] at h'
    rw [h']
theorem good70 {P : Go.Program} (S : Sys P env spG) (M : Nat) (g88 : Good P env 88 (w88 (fun R => f88 M))) : Good P env 70 (w70 (fun R => f70 M)) := by
  have hO := S.once
  refine good_of S (M := M) (d := 40) (l := [(88, w88 (fun R => f88 M))]) (cs := []) (by
    intro p hp
    simp only [List.mem_cons, List.not_mem_nil, or_false] at hp
    rcases hp with rfl
    · exact g88) (by simp) fun xs => ?_
  by_cases hp : ∃ t1 a2 t3 a4 t5 a6 t7 a8 t9 a10 t11 a12 t13 a14 t15 a16, xs = [.agg [.vals t1 151 a2, .vals t3 209 a4, .vals t5 151 a6, .ints t7 .i64 a8], .agg [.ints t9 .i64 a10, .vals t11 29 a12], .vals t13 166 a14, .bools t15 a16]
  · obtain ⟨t1, a2, t3, a4, t5, a6, t7, a8, t9, a10, t11, a12, t13, a14, t15, a16, rfl⟩ := hp
    right
    intro R k
    have e := f70_seg (fun R => f88 M) (fun R => f70L3S M) (LOr env M (tab70 M) spG) k t1 t3 t5 t7 t9 t11 t13 t15 a2 a4 a6 a8 a10 a12 a14 a16
    rw [LOs_eq (by
      intro s hs
      simp only [List.mem_cons, List.not_mem_nil, or_false] at hs
      rcases hs with rfl
      · exact f70L3_ok hO M)] at e
    exact e
  · left
    intro R k
    unfold w70
    split
    · exact absurd ⟨_, _, _, _, _, _, _, _, _, _, _, _, _, _, _, _, rfl⟩ hp
    · rfl
noncomputable def tab21 (M : Nat) : Tab := tabOf []
theorem f21L4_ok (hO : LoopsOnce env) (M : Nat) : SmOk (LOr env M (tab21 M) spG) (smf21L4 (fun R => f21L4S M) (LOr env M (tab21 M) spG)) := by
  intro R l st k h
  show (LOr env M (tab21 M) spG) R 40 21 4 st k = _
  unfold smf21L4
  simp only
  split
  · rename_i t8 x5 t9 x6 x7
    obtain rfl : _ = st := Option.some.inj h
    exact sm_rounds hO (cs := []) (c := (loopOf env 21 4).getD .skip) (by kernel_rfl) (by kernel_rfl) (by simp)
      (S := fun a : Int => (qf21L40 t8 t9 x5 x6 a))
      (B := fun (g : Int → Option R) (a : Int) => f21L4 x5 x6 (fun z0 z1 z2 z3 => k .ret (ef21L40 t8 t9 x5 x6 z0 z1 z2 z3)) (fun z0 z1 => k (.exit 0) (ef21L41 t8 t9 x5 x6 z0 z1)) (fun y0 => g y0) a)
      (fun g a => by
        have e := f21L4_seg (LOr env M (tab21 M) spG) g k t8 t9 x5 x6 a
        rw [LOs_eq (by simp)] at e
        exact e) x7
  · have h' : fillS _ l = some st := h
    simp only [smf21L4] at h'
    rw [h']
theorem good21 {P : Go.Program} (S : Sys P env spG) (M : Nat) : Good P env 21 (w21 (fun R => f21 M)) := by
  have hO := S.once
  refine good_of S (M := M) (d := 40) (l := []) (cs := []) (by simp) (by simp) fun xs => ?_
  by_cases hp : ∃ t1 a2 t3 a4, xs = [.ints t1 .i64 a2, .ints t3 .i64 a4]
  · obtain ⟨t1, a2, t3, a4, rfl⟩ := hp
    right
    intro R k
    have e := f21_seg (fun R => f21L4S M) (LOr env M (tab21 M) spG) k t1 t3 a2 a4
    rw [LOs_eq (by
      intro s hs
      simp only [List.mem_cons, List.not_mem_nil, or_false] at hs
      rcases hs with rfl
      · exact f21L4_ok hO M)] at e
    exact e
  · left
    intro R k
    unfold w21
    split
    · exact absurd ⟨_, _, _, _, rfl⟩ hp
    · rfl
end Go.Vm.T3
