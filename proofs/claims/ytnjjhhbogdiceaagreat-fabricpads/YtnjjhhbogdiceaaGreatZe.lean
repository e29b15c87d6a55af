/-
  A part of the proof that FabricPads answers true at every input. No condition.
-/
import Derived.Test.YtnjjhhbogdiceaaGreatYe
set_option linter.unusedVariables false
set_option linter.unusedSimpArgs false
set_option maxRecDepth 100000
namespace Go.Vm.T3
open Go Go.Vm
noncomputable def tab63 (M : Nat) : Tab := tabOf [(51, w51 (fun R => f51 M)), (52, w52 (fun R => f52 M)), (53, w53 (fun R => f53 M)), (54, w54 (fun R => f54 M)), (56, w56 (fun R => f56 M))]
theorem f63L4_ok (hO : LoopsOnce env) (M : Nat) : SmOk (LOr env M (tab63 M) spG) (smf63L4 (fun R => f63L4S M) (LOr env M (tab63 M) spG)) := by
  intro R l st k h
  show (LOr env M (tab63 M) spG) R 40 63 4 st k = _
  unfold smf63L4
  simp only
  split
  · rename_i t42 x23 t43 x24 t44 x25 t45 x26 t46 x27 t47 x28 t48 x29 t49 x30 t50 x31 t51 x32 t52 x33 t53 x34 x35 x36 x37 x38 x39 x40 u0 x41
    obtain rfl : _ = st := Option.some.inj h
    exact sm_rounds hO (cs := []) (c := (loopOf env 63 4).getD .skip) (by kernel_rfl) (by kernel_rfl) (by simp)
      (S := fun a : Int × (List Bool) => (qf63L40 t42 t43 t44 t45 t46 t47 t48 t49 t50 t51 t52 t53 x23 x24 x25 x26 x27 x28 x29 x30 x31 x32 x33 x34 x35 a.1 x37 x38 x39 x40 a.2))
      (B := fun (g : Int × (List Bool) → Option R) (a : Int × (List Bool)) => f63L4 x23 x24 x25 x26 x27 x28 x29 x30 x31 x32 x33 x34 x35 x37 x38 x39 x40 (fun z0 z1 z2 => k (.exit 0) (ef63L40 t42 t43 t44 t45 t46 t47 t48 t49 t50 t51 t52 t53 x23 x24 x25 x26 x27 x28 x29 x30 x31 x32 x33 x34 x35 z0 z1 x37 x38 x39 x40 z2)) (fun y0 y1 => g (y0, y1)) a.1 a.2)
      (fun g a => by
        have e := f63L4_seg (fun R => f51 M) (fun R => f52 M) (fun R => f53 M) (fun R => f54 M) (fun R => f56 M) (LOr env M (tab63 M) spG) g k t42 t43 t44 t45 t46 t47 t48 t49 t50 t51 t52 t53 x23 x24 x25 x26 x27 x28 x29 x30 x31 x32 x33 x34 x35 x37 x38 x39 x40 a.1 a.2
        rw [LOs_eq (by simp)] at e
        exact e) (x36, x41)
  · have h' : fillS _ l = some st := h
    simp only [smf63L4] at h'
    rw [h']
theorem f63L14_ok (hO : LoopsOnce env) (M : Nat) : SmOk (LOr env M (tab63 M) spG) (smf63L14 (fun R => f63L14S M) (LOr env M (tab63 M) spG)) := by
  intro R l st k h
  show (LOr env M (tab63 M) spG) R 40 63 14 st k = _
  unfold smf63L14
  simp only
  split
  · rename_i t76 x57 t77 x58 t78 x59 t79 x60 t80 x61 t81 x62 t82 x63 t83 x64 t84 x65 t85 x66 t86 x67 t87 x68 x69 x70 x71 x72 x73 x74 u0 x75
    obtain rfl : _ = st := Option.some.inj h
    exact sm_rounds hO (cs := []) (c := (loopOf env 63 14).getD .skip) (by kernel_rfl) (by kernel_rfl) (by simp)
      (S := fun a : Int × (List Bool) => (qf63L140 t76 t77 t78 t79 t80 t81 t82 t83 t84 t85 t86 t87 x57 x58 x59 x60 x61 x62 x63 x64 x65 x66 x67 x68 x69 a.1 x71 x72 x73 x74 a.2))
      (B := fun (g : Int × (List Bool) → Option R) (a : Int × (List Bool)) => f63L14 (f51 M) (f52 M) (f53 M) (f54 M) (f56 M) x57 x58 x59 x60 x61 x62 x63 x64 x65 x66 x67 x68 x69 x71 x72 x73 x74 (fun z0 z1 z2 => k (.exit 3) (ef63L140 t76 t77 t78 t79 t80 t81 t82 t83 t84 t85 t86 t87 x57 x58 x59 x60 x61 x62 x63 x64 x65 x66 x67 x68 x69 z0 z1 x71 x72 x73 x74 z2)) (fun y0 y1 => g (y0, y1)) a.1 a.2)
      (fun g a => by
        have e := f63L14_seg (fun R => f51 M) (fun R => f52 M) (fun R => f53 M) (fun R => f54 M) (fun R => f56 M) (LOr env M (tab63 M) spG) g k t76 t77 t78 t79 t80 t81 t82 t83 t84 t85 t86 t87 x57 x58 x59 x60 x61 x62 x63 x64 x65 x66 x67 x68 x69 x71 x72 x73 x74 a.1 a.2
        rw [LOs_eq (by simp)] at e
        exact e) (x70, x75)
  · have h' : fillS _ l = some st := h
    simp only [smf63L14] at h'
    rw [h']
theorem good63 {P : Go.Program} (S : Sys P env spG) (M : Nat) (g51 : Good P env 51 (w51 (fun R => f51 M))) (g52 : Good P env 52 (w52 (fun R => f52 M))) (g53 : Good P env 53 (w53 (fun R => f53 M))) (g54 : Good P env 54 (w54 (fun R => f54 M))) (g56 : Good P env 56 (w56 (fun R => f56 M))) : Good P env 63 (w63 (fun R => f63 M)) := by
  have hO := S.once
  refine good_of S (M := M) (d := 40) (l := [(51, w51 (fun R => f51 M)), (52, w52 (fun R => f52 M)), (53, w53 (fun R => f53 M)), (54, w54 (fun R => f54 M)), (56, w56 (fun R => f56 M))]) (cs := []) (by
    intro p hp
    simp only [List.mem_cons, List.not_mem_nil, or_false] at hp
    rcases hp with rfl | rfl | rfl | rfl | rfl
    · exact g51
    · exact g52
    · exact g53
    · exact g54
    · exact g56) (by simp) fun xs => ?_
  by_cases hp : ∃ t1 a2 t3 a4 t5 a6 t7 a8 t9 a10 t11 a12 t13 a14 t15 a16 t17 a18 t19 a20 t21 a22, xs = [.ro [.ints t1 .i64 a2, .ints t3 .i64 a4, .ints t5 .i64 a6, .ints t7 .i64 a8, .vals t9 125 a10, .ints t11 .i64 a12, .ints t13 .i64 a14, .ints t15 .i64 a16, .vals t17 29 a18, .bools t19 a20], .bools t21 a22]
  · obtain ⟨t1, a2, t3, a4, t5, a6, t7, a8, t9, a10, t11, a12, t13, a14, t15, a16, t17, a18, t19, a20, t21, a22, rfl⟩ := hp
    right
    intro R k
    have e := f63_seg (fun R => f51 M) (fun R => f52 M) (fun R => f53 M) (fun R => f54 M) (fun R => f56 M) (fun R => f63L4S M) (fun R => f63L14S M) (LOr env M (tab63 M) spG) k t1 t3 t5 t7 t9 t11 t13 t15 t17 t19 t21 a2 a4 a6 a8 a10 a12 a14 a16 a18 a20 a22
    rw [LOs_eq (by
      intro s hs
      simp only [List.mem_cons, List.not_mem_nil, or_false] at hs
      rcases hs with rfl | rfl
      · exact f63L4_ok hO M
      · exact f63L14_ok hO M)] at e
    exact e
  · left
    intro R k
    unfold w63
    split
    · exact absurd ⟨_, _, _, _, _, _, _, _, _, _, _, _, _, _, _, _, _, _, _, _, _, _, rfl⟩ hp
    · rfl
noncomputable def tab62 (M : Nat) : Tab := tabOf []
theorem f62L4_ok (hO : LoopsOnce env) (M : Nat) : SmOk (LOr env M (tab62 M) spG) (smf62L4 (fun R => f62L4S M) (LOr env M (tab62 M) spG)) := by
  intro R l st k h
  show (LOr env M (tab62 M) spG) R 40 62 4 st k = _
  unfold smf62L4
  simp only
  split
  · rename_i t9 x5 t10 x6 x7 x8
    obtain rfl : _ = st := Option.some.inj h
    exact sm_rounds hO (cs := []) (c := (loopOf env 62 4).getD .skip) (by kernel_rfl) (by kernel_rfl) (by simp)
      (S := fun a : Int => (qf62L40 t10 t9 x5 x6 x7 a))
      (B := fun (g : Int → Option R) (a : Int) => f62L4 x5 x6 x7 (fun z0 z1 z2 z3 z4 => k .ret (ef62L40 t10 t9 x5 x6 z0 z1 x7 z2 z3 z4)) (fun z0 z1 => k (.exit 0) (ef62L41 t10 t9 x5 x6 x7 z0 z1)) (fun y0 => g y0) a)
      (fun g a => by
        have e := f62L4_seg (LOr env M (tab62 M) spG) g k t10 t9 x5 x6 x7 a
        rw [LOs_eq (by simp)] at e
        exact e) x8
  · have h' : fillS _ l = some st := h
    simp only [smf62L4] at h'
    rw [h']
theorem good62 {P : Go.Program} (S : Sys P env spG) (M : Nat) : Good P env 62 (w62 (fun R => f62 M)) := by
  have hO := S.once
  refine good_of S (M := M) (d := 40) (l := []) (cs := []) (by simp) (by simp) fun xs => ?_
  by_cases hp : ∃ t1 a2 t3 a4, xs = [.bools t1 a2, .bools t3 a4]
  · obtain ⟨t1, a2, t3, a4, rfl⟩ := hp
    right
    intro R k
    have e := f62_seg (fun R => f62L4S M) (LOr env M (tab62 M) spG) k t1 t3 a2 a4
    rw [LOs_eq (by
      intro s hs
      simp only [List.mem_cons, List.not_mem_nil, or_false] at hs
      rcases hs with rfl
      · exact f62L4_ok hO M)] at e
    exact e
  · left
    intro R k
    unfold w62
    split
    · exact absurd ⟨_, _, _, _, rfl⟩ hp
    · rfl
noncomputable def tab61 (M : Nat) : Tab := tabOf [(62, w62 (fun R => f62 M)), (63, w63 (fun R => f63 M))]
theorem f61L3_ok (hO : LoopsOnce env) (M : Nat) : SmOk (LOr env M (tab61 M) spG) (smf61L3 (fun R => f61L3S M) (LOr env M (tab61 M) spG)) := by
  intro R l st k h
  show (LOr env M (tab61 M) spG) R 40 61 3 st k = _
  unfold smf61L3
  simp only
  split
  · rename_i t34 x21 t35 x22 t36 x23 t37 x24 t38 x25 t39 x26 t40 x27 t41 x28 t42 x29 t43 x30 x31 x32 u0 x33
    obtain rfl : _ = st := Option.some.inj h
    exact sm_rounds hO (cs := []) (c := (loopOf env 61 3).getD .skip) (by kernel_rfl) (by kernel_rfl) (by simp)
      (S := fun a : Int × (List Bool) => (qf61L30 t34 t35 t36 t37 t38 t39 t40 t41 t42 t43 x21 x22 x23 x24 x25 x26 x27 x28 x29 x30 x31 a.1 a.2))
      (B := fun (g : Int × (List Bool) → Option R) (a : Int × (List Bool)) => f61L3 (f62 M) (f63 M) x21 x22 x23 x24 x25 x26 x27 x28 x29 x30 x31 (fun z0 z1 z2 z3 z4 => k (.exit 0) (ef61L30 t34 t35 t36 t37 t38 t39 t40 t41 t42 t43 x21 x22 x23 x24 x25 x26 x27 x28 x29 x30 x31 z0 z1 z2 z3 z4)) (fun z0 z1 z2 => k (.exit 0) (ef61L31 t34 t35 t36 t37 t38 t39 t40 t41 t42 t43 x21 x22 x23 x24 x25 x26 x27 x28 x29 x30 x31 z0 z1 z2)) (fun y0 y1 => g (y0, y1)) a.1 a.2)
      (fun g a => by
        have e := f61L3_seg (fun R => f62 M) (fun R => f63 M) (LOr env M (tab61 M) spG) g k t34 t35 t36 t37 t38 t39 t40 t41 t42 t43 x21 x22 x23 x24 x25 x26 x27 x28 x29 x30 x31 a.1 a.2
        rw [LOs_eq (by simp)] at e
        exact e) (x32, x33)
  · have h' : fillS _ l = some st := h
    simp only [smf61L3] at h'
    rw [h']
theorem good61 {P : Go.Program} (S : Sys P env spG) (M : Nat) (g62 : Good P env 62 (w62 (fun R => f62 M))) (g63 : Good P env 63 (w63 (fun R => f63 M))) : Good P env 61 (w61 (fun R => f61 M)) := by
  have hO := S.once
  refine good_of S (M := M) (d := 40) (l := [(62, w62 (fun R => f62 M)), (63, w63 (fun R => f63 M))]) (cs := []) (by
    intro p hp
    simp only [List.mem_cons, List.not_mem_nil, or_false] at hp
    rcases hp with rfl | rfl
    · exact g62
    · exact g63) (by simp) fun xs => ?_
  by_cases hp : ∃ t1 a2 t3 a4 t5 a6 t7 a8 t9 a10 t11 a12 t13 a14 t15 a16 t17 a18 t19 a20, xs = [.ro [.ints t1 .i64 a2, .ints t3 .i64 a4, .ints t5 .i64 a6, .ints t7 .i64 a8, .vals t9 125 a10, .ints t11 .i64 a12, .ints t13 .i64 a14, .ints t15 .i64 a16, .vals t17 29 a18, .bools t19 a20]]
  · obtain ⟨t1, a2, t3, a4, t5, a6, t7, a8, t9, a10, t11, a12, t13, a14, t15, a16, t17, a18, t19, a20, rfl⟩ := hp
    right
    intro R k
    have e := f61_seg (fun R => f62 M) (fun R => f63 M) (fun R => f61L3S M) (LOr env M (tab61 M) spG) k t1 t3 t5 t7 t9 t11 t13 t15 t17 t19 a2 a4 a6 a8 a10 a12 a14 a16 a18 a20
    rw [LOs_eq (by
      intro s hs
      simp only [List.mem_cons, List.not_mem_nil, or_false] at hs
      rcases hs with rfl
      · exact f61L3_ok hO M)] at e
    exact e
  · left
    intro R k
    unfold w61
    split
    · exact absurd ⟨_, _, _, _, _, _, _, _, _, _, _, _, _, _, _, _, _, _, _, _, rfl⟩ hp
    · rfl
end Go.Vm.T3
