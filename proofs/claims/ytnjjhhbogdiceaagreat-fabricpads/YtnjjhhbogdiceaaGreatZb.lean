/-
  A part of the proof that FabricPads answers true at every input. No condition.
-/
import Derived.Test.YtnjjhhbogdiceaaGreatYb
set_option linter.unusedVariables false
set_option linter.unusedSimpArgs false
set_option maxRecDepth 100000
namespace Go.Vm.T3
open Go Go.Vm
noncomputable def tab37 (M : Nat) : Tab := tabOf [(41, w41 (fun R => f41 M))]
theorem good37 {P : Go.Program} (S : Sys P env spG) (M : Nat) (g41 : Good P env 41 (w41 (fun R => f41 M))) : Good P env 37 (w37 (fun R => f37 M)) := by
  have hO := S.once
  refine good_of S (M := M) (d := 40) (l := [(41, w41 (fun R => f41 M))]) (cs := []) (by
    intro p hp
    simp only [List.mem_cons, List.not_mem_nil, or_false] at hp
    rcases hp with rfl
    · exact g41) (by simp) fun xs => ?_
  by_cases hp : ∃ a1 a2 a3 a4 t5 a6, xs = [.agg [.int .i64 a1, .int .i64 a2, .int .i64 a3, .int .i64 a4, .ints t5 .i64 a6]]
  · obtain ⟨a1, a2, a3, a4, t5, a6, rfl⟩ := hp
    right
    intro R k
    have e := f37_seg (fun R => f41 M) (LOr env M (tab37 M) spG) k t5 a1 a2 a3 a4 a6
    rw [LOs_eq (by simp)] at e
    exact e
  · left
    intro R k
    unfold w37
    split
    · exact absurd ⟨_, _, _, _, _, _, rfl⟩ hp
    · rfl
noncomputable def tab23 (M : Nat) : Tab := tabOf [(37, w37 (fun R => f37 M)), (43, w43 (fun R => f43 M)), (44, w44 (fun R => f44 M)), (45, w45 (fun R => f45 M))]
theorem f23L5_ok (hO : LoopsOnce env) (M : Nat) : SmOk (LOr env M (tab23 M) spG) (smf23L5 (fun R => f23L5S M) (LOr env M (tab23 M) spG)) := by
  intro R l st k h
  show (LOr env M (tab23 M) spG) R 40 23 5 st k = _
  unfold smf23L5
  simp only
  split
  · rename_i x24 t45 x25 t46 x26 t47 x27 t48 x28 x29 x30 x31 x32 t49 x33 t50 x34 t51 x35 x36 u0 x37 u1 x38 u2 x39 u3 x40 u4 x41 u5 x42 u6 x43 u7 x44
    obtain rfl : _ = st := Option.some.inj h
    exact sm_rounds hO (cs := []) (c := (loopOf env 23 5).getD .skip) (by kernel_rfl) (by kernel_rfl) (by simp)
      (S := fun a : Int × (List Int) × (List Int) × (List Int) => (qf23L50 t45 t46 t47 t48 t49 t50 t51 a.1 x25 x26 x27 x28 x29 x30 x31 x32 x33 x34 x35 x36 x37 x38 x39 x40 x41 a.2.1 a.2.2.1 a.2.2.2))
      (B := fun (g : Int × (List Int) × (List Int) × (List Int) → Option R) (a : Int × (List Int) × (List Int) × (List Int)) => f23L5 x25 x26 x27 x28 x29 x30 x31 x32 x33 x34 x35 x36 x37 x38 x39 x40 x41 (fun z0 z1 z2 z3 z4 => k (.exit 0) (ef23L50 t45 t46 t47 t48 t49 t50 t51 z0 z1 x25 x26 x27 x28 x29 x30 x31 x32 x33 x34 x35 x36 x37 x38 x39 x40 x41 z2 z3 z4)) (fun y0 y1 y2 y3 => g (y0, y1, y2, y3)) a.1 a.2.1 a.2.2.1 a.2.2.2)
      (fun g a => by
        have e := f23L5_seg (fun R => f37 M) (fun R => f43 M) (fun R => f44 M) (fun R => f45 M) (LOr env M (tab23 M) spG) g k t45 t46 t47 t48 t49 t50 t51 x25 x26 x27 x28 x29 x30 x31 x32 x33 x34 x35 x36 x37 x38 x39 x40 x41 a.1 a.2.1 a.2.2.1 a.2.2.2
        rw [LOs_eq (by simp)] at e
        exact e) (x24, x42, x43, x44)
  · have h' : fillS _ l = some st := h
    simp only [smf23L5] at h'
    rw [h']
theorem f23L22_ok (hO : LoopsOnce env) (M : Nat) : SmOk (LOr env M (tab23 M) spG) (smf23L22 (fun R => f23L22S M) (LOr env M (tab23 M) spG)) := by
  intro R l st k h
  show (LOr env M (tab23 M) spG) R 40 23 22 st k = _
  unfold smf23L22
  simp only
  split
  · rename_i x77 x78 x79 x80 x81 x82 t98 x83 t99 x84 t100 x85 x86 u0 x87 u1 x88 u2 x89 u3 x90 u4 x91 u5 x92 u6 x93 u7 x94 x95 x96 x97
    obtain rfl : _ = st := Option.some.inj h
    exact sm_rounds hO (cs := []) (c := (loopOf env 23 22).getD .skip) (by kernel_rfl) (by kernel_rfl) (by simp)
      (S := fun a : Int × (List Int) => (qf23L220 t100 t98 t99 x77 a.1 x79 x80 x81 x82 x83 x84 x85 x86 x87 x88 x89 x90 a.2 x92 x93 x94 x95 x96 x97))
      (B := fun (g : Int × (List Int) → Option R) (a : Int × (List Int)) => f23L22 (f44 M) (f45 M) x77 x79 x80 x81 x82 x83 x84 x85 x86 x87 x88 x89 x90 x92 x93 x94 x95 x96 x97 (fun z0 z1 z2 => k (.exit 5) (ef23L220 t100 t98 t99 x77 z0 z1 x79 x80 x81 x82 x83 x84 x85 x86 x87 x88 x89 x90 z2 x92 x93 x94 x95 x96 x97)) (fun y0 y1 => g (y0, y1)) a.1 a.2)
      (fun g a => by
        have e := f23L22_seg (fun R => f37 M) (fun R => f43 M) (fun R => f44 M) (fun R => f45 M) (LOr env M (tab23 M) spG) g k t100 t98 t99 x77 x79 x80 x81 x82 x83 x84 x85 x86 x87 x88 x89 x90 x92 x93 x94 x95 x96 x97 a.1 a.2
        rw [LOs_eq (by simp)] at e
        exact e) (x78, x91)
  · have h' : fillS _ l = some st := h
    simp only [smf23L22] at h'
    rw [h']
theorem f23L18_ok (hO : LoopsOnce env) (M : Nat) : SmOk (LOr env M (tab23 M) spG) (smf23L18 (fun R => f23L18S M) (LOr env M (tab23 M) spG)) := by
  intro R l st k h
  show (LOr env M (tab23 M) spG) R 40 23 18 st k = _
  unfold smf23L18
  simp only
  split
  · rename_i x57 x58 x59 x60 x61 t74 x62 t75 x63 t76 x64 x65 u0 x66 u1 x67 u2 x68 u3 x69 u4 x70 u5 x71 u6 x72 u7 x73
    obtain rfl : _ = st := Option.some.inj h
    exact sm_rounds hO (cs := []) (c := (loopOf env 23 18).getD .skip) (by kernel_rfl) (by kernel_rfl) (by simp)
      (S := fun a : Int × (List Int) => (qf23L180 t74 t75 t76 a.1 x58 x59 x60 x61 x62 x63 x64 x65 x66 x67 x68 x69 a.2 x71 x72 x73))
      (B := fun (g : Int × (List Int) → Option R) (a : Int × (List Int)) => f23L18 (f23L22S M) x58 x59 x60 x61 x62 x63 x64 x65 x66 x67 x68 x69 x71 x72 x73 (fun z0 z1 z2 => k (.exit 3) (ef23L180 t74 t75 t76 z0 z1 x58 x59 x60 x61 x62 x63 x64 x65 x66 x67 x68 x69 z2 x71 x72 x73)) (fun y0 y1 => g (y0, y1)) a.1 a.2)
      (fun g a => by
        have e := f23L18_seg (fun R => f37 M) (fun R => f43 M) (fun R => f44 M) (fun R => f45 M) (fun R => f23L22S M) (LOr env M (tab23 M) spG) g k t74 t75 t76 x58 x59 x60 x61 x62 x63 x64 x65 x66 x67 x68 x69 x71 x72 x73 a.1 a.2
        rw [LOs_eq (by
      intro s hs
      simp only [List.mem_cons, List.not_mem_nil, or_false] at hs
      rcases hs with rfl
      · exact f23L22_ok hO M)] at e
        exact e) (x57, x70)
  · have h' : fillS _ l = some st := h
    simp only [smf23L18] at h'
    rw [h']
theorem good23 {P : Go.Program} (S : Sys P env spG) (M : Nat) (g37 : Good P env 37 (w37 (fun R => f37 M))) (g43 : Good P env 43 (w43 (fun R => f43 M))) (g44 : Good P env 44 (w44 (fun R => f44 M))) (g45 : Good P env 45 (w45 (fun R => f45 M))) : Good P env 23 (w23 (fun R => f23 M)) := by
  have hO := S.once
  refine good_of S (M := M) (d := 40) (l := [(37, w37 (fun R => f37 M)), (43, w43 (fun R => f43 M)), (44, w44 (fun R => f44 M)), (45, w45 (fun R => f45 M))]) (cs := []) (by
    intro p hp
    simp only [List.mem_cons, List.not_mem_nil, or_false] at hp
    rcases hp with rfl | rfl | rfl | rfl
    · exact g37
    · exact g43
    · exact g44
    · exact g45) (by simp) fun xs => ?_
  by_cases hp : ∃ t1 a2 t3 a4 t5 a6 t7 a8 a9 a10 a11 a12 t13 a14 t15 a16 t17 a18, xs = [.agg [.vals t1 151 a2, .vals t3 120 a4, .vals t5 151 a6, .ints t7 .i64 a8], .agg [.int .i64 a9, .int .i64 a10, .int .i64 a11, .int .i64 a12, .ints t13 .i64 a14], .agg [.ints t15 .i64 a16, .vals t17 115 a18]]
  · obtain ⟨t1, a2, t3, a4, t5, a6, t7, a8, a9, a10, a11, a12, t13, a14, t15, a16, t17, a18, rfl⟩ := hp
    right
    intro R k
    have e := f23_seg (fun R => f37 M) (fun R => f43 M) (fun R => f44 M) (fun R => f45 M) (fun R => f23L5S M) (fun R => f23L18S M) (LOr env M (tab23 M) spG) k t1 t3 t5 t7 t13 t15 t17 a2 a4 a6 a8 a9 a10 a11 a12 a14 a16 a18
    rw [LOs_eq (by
      intro s hs
      simp only [List.mem_cons, List.not_mem_nil, or_false] at hs
      rcases hs with rfl | rfl
      · exact f23L5_ok hO M
      · exact f23L18_ok hO M)] at e
    exact e
  · left
    intro R k
    unfold w23
    split
    · exact absurd ⟨_, _, _, _, _, _, _, _, _, _, _, _, _, _, _, _, _, _, rfl⟩ hp
    · rfl
noncomputable def tab24 (M : Nat) : Tab := tabOf [(37, w37 (fun R => f37 M)), (46, w46 (fun R => f46 M))]
theorem f24L3_ok (hO : LoopsOnce env) (M : Nat) : SmOk (LOr env M (tab24 M) spG) (smf24L3 (fun R => f24L3S M) (LOr env M (tab24 M) spG)) := by
  intro R l st k h
  show (LOr env M (tab24 M) spG) R 40 24 3 st k = _
  unfold smf24L3
  simp only
  split
  · rename_i t28 x13 x14 x15 x16 x17 x18 t29 x19 u0 x20 u1 x21 u2 x22 u3 x23 u4 x24 u5 x25 u6 x26 u7 x27
    obtain rfl : _ = st := Option.some.inj h
    exact sm_rounds hO (cs := []) (c := (loopOf env 24 3).getD .skip) (by kernel_rfl) (by kernel_rfl) (by simp)
      (S := fun a : Int × (List Int) × (List Int) × (List Int) × (List Int) => (qf24L30 t28 t29 x13 a.1 x15 x16 x17 x18 x19 x20 x21 x22 x23 a.2.1 a.2.2.1 a.2.2.2.1 a.2.2.2.2))
      (B := fun (g : Int × (List Int) × (List Int) × (List Int) × (List Int) → Option R) (a : Int × (List Int) × (List Int) × (List Int) × (List Int)) => f24L3 (f46 M) x13 x15 x16 x17 x18 x19 x20 x21 x22 x23 (fun z0 z1 z2 z3 z4 z5 => k (.exit 0) (ef24L30 t28 t29 x13 z0 z1 x15 x16 x17 x18 x19 x20 x21 x22 x23 z2 z3 z4 z5)) (fun y0 y1 y2 y3 y4 => g (y0, y1, y2, y3, y4)) a.1 a.2.1 a.2.2.1 a.2.2.2.1 a.2.2.2.2)
      (fun g a => by
        have e := f24L3_seg (fun R => f37 M) (fun R => f46 M) (LOr env M (tab24 M) spG) g k t28 t29 x13 x15 x16 x17 x18 x19 x20 x21 x22 x23 a.1 a.2.1 a.2.2.1 a.2.2.2.1 a.2.2.2.2
        rw [LOs_eq (by simp)] at e
        exact e) (x14, x24, x25, x26, x27)
  · have h' : fillS _ l = some st := h
    simp only [smf24L3] at h'
    rw [h']
theorem good24 {P : Go.Program} (S : Sys P env spG) (M : Nat) (g37 : Good P env 37 (w37 (fun R => f37 M))) (g46 : Good P env 46 (w46 (fun R => f46 M))) : Good P env 24 (w24 (fun R => f24 M)) := by
  have hO := S.once
  refine good_of S (M := M) (d := 40) (l := [(37, w37 (fun R => f37 M)), (46, w46 (fun R => f46 M))]) (cs := []) (by
    intro p hp
    simp only [List.mem_cons, List.not_mem_nil, or_false] at hp
    rcases hp with rfl | rfl
    · exact g37
    · exact g46) (by simp) fun xs => ?_
  by_cases hp : ∃ a1 a2 a3 a4 t5 a6 t7 a8, xs = [.agg [.int .i64 a1, .int .i64 a2, .int .i64 a3, .int .i64 a4, .ints t5 .i64 a6], .ints t7 .u8 a8]
  · obtain ⟨a1, a2, a3, a4, t5, a6, t7, a8, rfl⟩ := hp
    right
    intro R k
    have e := f24_seg (fun R => f37 M) (fun R => f46 M) (fun R => f24L3S M) (LOr env M (tab24 M) spG) k t5 t7 a1 a2 a3 a4 a6 a8
    rw [LOs_eq (by
      intro s hs
      simp only [List.mem_cons, List.not_mem_nil, or_false] at hs
      rcases hs with rfl
      · exact f24L3_ok hO M)] at e
    exact e
  · left
    intro R k
    unfold w24
    split
    · exact absurd ⟨_, _, _, _, _, _, _, _, rfl⟩ hp
    · rfl
noncomputable def tab47 (M : Nat) : Tab := tabOf [(45, w45 (fun R => f45 M))]
theorem f47L3_ok (hO : LoopsOnce env) (M : Nat) : SmOk (LOr env M (tab47 M) spG) (smf47L3 (fun R => f47L3S M) (LOr env M (tab47 M) spG)) := by
  intro R l st k h
  show (LOr env M (tab47 M) spG) R 40 47 3 st k = _
  unfold smf47L3
  simp only
  split
  · rename_i x15 x16 x17 x18 x19 t26 x20 t27 x21 t28 x22 t29 x23 t30 x24 u0 x25
    obtain rfl : _ = st := Option.some.inj h
    exact sm_rounds hO (cs := []) (c := (loopOf env 47 3).getD .skip) (by kernel_rfl) (by kernel_rfl) (by simp)
      (S := fun a : Int × (List Int) => (qf47L30 t26 t27 t28 t29 t30 a.1 x16 x17 x18 x19 x20 x21 x22 x23 x24 a.2))
      (B := fun (g : Int × (List Int) → Option R) (a : Int × (List Int)) => f47L3 (f45 M) x16 x17 x18 x19 x20 x21 x22 x23 x24 (fun z0 z1 z2 => k (.exit 0) (ef47L30 t26 t27 t28 t29 t30 z0 z1 x16 x17 x18 x19 x20 x21 x22 x23 x24 z2)) (fun y0 y1 => g (y0, y1)) a.1 a.2)
      (fun g a => by
        have e := f47L3_seg (fun R => f45 M) (LOr env M (tab47 M) spG) g k t26 t27 t28 t29 t30 x16 x17 x18 x19 x20 x21 x22 x23 x24 a.1 a.2
        rw [LOs_eq (by simp)] at e
        exact e) (x15, x25)
  · have h' : fillS _ l = some st := h
    simp only [smf47L3] at h'
    rw [h']
theorem good47 {P : Go.Program} (S : Sys P env spG) (M : Nat) (g45 : Good P env 45 (w45 (fun R => f45 M))) : Good P env 47 (w47 (fun R => f47 M)) := by
  have hO := S.once
  refine good_of S (M := M) (d := 40) (l := [(45, w45 (fun R => f45 M))]) (cs := []) (by
    intro p hp
    simp only [List.mem_cons, List.not_mem_nil, or_false] at hp
    rcases hp with rfl
    · exact g45) (by simp) fun xs => ?_
  by_cases hp : ∃ a1 a2 a3 a4 t5 a6 t7 a8 t9 a10 t11 a12 t13 a14, xs = [.agg [.int .i64 a1, .int .i64 a2, .int .i64 a3, .int .i64 a4, .ints t5 .i64 a6], .agg [.ints t7 .i64 a8, .ints t9 .i64 a10, .ints t11 .i64 a12, .ints t13 .i64 a14]]
  · obtain ⟨a1, a2, a3, a4, t5, a6, t7, a8, t9, a10, t11, a12, t13, a14, rfl⟩ := hp
    right
    intro R k
    have e := f47_seg (fun R => f45 M) (fun R => f47L3S M) (LOr env M (tab47 M) spG) k t5 t7 t9 t11 t13 a1 a2 a3 a4 a6 a8 a10 a12 a14
    rw [LOs_eq (by
      intro s hs
      simp only [List.mem_cons, List.not_mem_nil, or_false] at hs
      rcases hs with rfl
      · exact f47L3_ok hO M)] at e
    exact e
  · left
    intro R k
    unfold w47
    split
    · exact absurd ⟨_, _, _, _, _, _, _, _, _, _, _, _, _, _, rfl⟩ hp
    · rfl
noncomputable def tab25 (M : Nat) : Tab := tabOf [(47, w47 (fun R => f47 M))]
theorem good25 {P : Go.Program} (S : Sys P env spG) (M : Nat) (g47 : Good P env 47 (w47 (fun R => f47 M))) : Good P env 25 (w25 (fun R => f25 M)) := by
  have hO := S.once
  refine good_of S (M := M) (d := 40) (l := [(47, w47 (fun R => f47 M))]) (cs := []) (by
    intro p hp
    simp only [List.mem_cons, List.not_mem_nil, or_false] at hp
    rcases hp with rfl
    · exact g47) (by simp) fun xs => ?_
  by_cases hp : ∃ a1 a2 a3 a4 a5 a6 a7 a8 a9, xs = [.agg [.int .i64 a1, .int .i64 a2, .int .i64 a3, .int .i64 a4, .ints .frz .i64 a5], .agg [.ints .frz .i64 a6, .ints .frz .i64 a7, .ints .frz .i64 a8, .ints .frz .i64 a9]]
  · obtain ⟨a1, a2, a3, a4, a5, a6, a7, a8, a9, rfl⟩ := hp
    right
    intro R k
    have e := f25_seg (fun R => f47 M) (LOr env M (tab25 M) spG) k a1 a2 a3 a4 a5 a6 a7 a8 a9
    rw [LOs_eq (by simp)] at e
    exact e
  · left
    intro R k
    unfold w25
    split
    · exact absurd ⟨_, _, _, _, _, _, _, _, _, rfl⟩ hp
    · rfl
noncomputable def tab16 (M : Nat) : Tab := tabOf []
theorem good16 {P : Go.Program} (S : Sys P env spG) (M : Nat) : Good P env 16 (w16 (fun R => f16 M)) := by
  have hO := S.once
  refine good_of S (M := M) (d := 40) (l := []) (cs := []) (by simp) (by simp) fun xs => ?_
  by_cases hp : ∃ a1 a2 a3 a4 a5 a6 a7 a8 a9 a10 a11 a12 a13 a14 a15 a16, xs = [.agg [.int .i64 a1, .int .i64 a2, .int .i64 a3, .int .i64 a4, .ints .frz .i64 a5, .ints .frz .i64 a6, .ints .frz .i64 a7, .ints .frz .i64 a8, .ints .frz .i64 a9, .ints .frz .i64 a10, .ints .frz .i64 a11, .vals .frz 29 a12, .bools .frz a13], .agg [.ints .frz .i64 a14, .vals .frz 29 a15], .bools .frz a16]
  · obtain ⟨a1, a2, a3, a4, a5, a6, a7, a8, a9, a10, a11, a12, a13, a14, a15, a16, rfl⟩ := hp
    right
    intro R k
    have e := f16_seg (LOr env M (tab16 M) spG) k a1 a2 a3 a4 a5 a6 a7 a8 a9 a10 a11 a12 a13 a14 a15 a16
    rw [LOs_eq (by simp)] at e
    exact e
  · left
    intro R k
    unfold w16
    split
    · exact absurd ⟨_, _, _, _, _, _, _, _, _, _, _, _, _, _, _, _, rfl⟩ hp
    · rfl
noncomputable def tab17 (M : Nat) : Tab := tabOf []
theorem good17 {P : Go.Program} (S : Sys P env spG) (M : Nat) : Good P env 17 (w17 (fun R => f17 M)) := by
  have hO := S.once
  refine good_of S (M := M) (d := 40) (l := []) (cs := []) (by simp) (by simp) fun xs => ?_
  by_cases hp : ∃ t1 a2 a3, xs = [.bools t1 a2, .int .i64 a3]
  · obtain ⟨t1, a2, a3, rfl⟩ := hp
    right
    intro R k
    have e := f17_seg (LOr env M (tab17 M) spG) k t1 a2 a3
    rw [LOs_eq (by simp)] at e
    exact e
  · left
    intro R k
    unfold w17
    split
    · exact absurd ⟨_, _, _, rfl⟩ hp
    · rfl
noncomputable def tab7 (M : Nat) : Tab := tabOf []
theorem f7L3_ok (hO : LoopsOnce env) (M : Nat) : SmOk (LOr env M (tab7 M) spG) (smf7L3 (fun R => f7L3S M) (LOr env M (tab7 M) spG)) := by
  intro R l st k h
  show (LOr env M (tab7 M) spG) R 40 7 3 st k = _
  unfold smf7L3
  simp only
  split
  · rename_i x29 x30 x31 x32 x33 x34 t47 x35 t48 x36 t49 x37 t50 x38 t51 x39 t52 x40 t53 x41 t54 x42 t55 x43 t56 x44 t57 x45 t58 x46
    obtain rfl : _ = st := Option.some.inj h
    exact sm_rounds hO (cs := []) (c := (loopOf env 7 3).getD .skip) (by kernel_rfl) (by kernel_rfl) (by simp)
      (S := fun a : Int × Int => (qf7L30 t47 t48 t49 t50 t51 t52 t53 t54 t55 t56 t57 t58 a.1 a.2 x31 x32 x33 x34 x35 x36 x37 x38 x39 x40 x41 x42 x43 x44 x45 x46))
      (B := fun (g : Int × Int → Option R) (a : Int × Int) => f7L3 x31 x32 x33 x34 x35 x36 x37 x38 x39 x40 x41 x42 x43 x44 x45 x46 (fun z0 z1 z2 => k (.exit 0) (ef7L30 t47 t48 t49 t50 t51 t52 t53 t54 t55 t56 t57 t58 z0 z1 z2 x31 x32 x33 x34 x35 x36 x37 x38 x39 x40 x41 x42 x43 x44 x45 x46)) (fun y0 y1 => g (y0, y1)) a.1 a.2)
      (fun g a => by
        have e := f7L3_seg (LOr env M (tab7 M) spG) g k t47 t48 t49 t50 t51 t52 t53 t54 t55 t56 t57 t58 x31 x32 x33 x34 x35 x36 x37 x38 x39 x40 x41 x42 x43 x44 x45 x46 a.1 a.2
        rw [LOs_eq (by simp)] at e
        exact e) (x29, x30)
  · have h' : fillS _ l = some st := h
    simp only [smf7L3] at h'
    rw [h']
theorem good7 {P : Go.Program} (S : Sys P env spG) (M : Nat) : Good P env 7 (w7 (fun R => f7 M)) := by
  have hO := S.once
  refine good_of S (M := M) (d := 40) (l := []) (cs := []) (by simp) (by simp) fun xs => ?_
  by_cases hp : ∃ a1 a2 a3 a4 t5 a6 t7 a8 t9 a10 t11 a12 t13 a14 t15 a16 t17 a18 t19 a20 t21 a22 t23 a24 t25 a26 t27 a28, xs = [.agg [.int .u8 a1, .int .u8 a2, .int .u8 a3, .int .u8 a4, .ints t5 .u8 a6, .vals t7 155 a8, .vals t9 22 a10, .ints t11 .u8 a12, .vals t13 155 a14, .vals t15 155 a16, .ints t17 .i64 a18, .vals t19 29 a20, .vals t21 166 a22, .bools t23 a24, .ints t25 .u8 a26, .ints t27 .u8 a28]]
  · obtain ⟨a1, a2, a3, a4, t5, a6, t7, a8, t9, a10, t11, a12, t13, a14, t15, a16, t17, a18, t19, a20, t21, a22, t23, a24, t25, a26, t27, a28, rfl⟩ := hp
    right
    intro R k
    have e := f7_seg (fun R => f7L3S M) (LOr env M (tab7 M) spG) k t5 t7 t9 t11 t13 t15 t17 t19 t21 t23 t25 t27 a1 a2 a3 a4 a6 a8 a10 a12 a14 a16 a18 a20 a22 a24 a26 a28
    rw [LOs_eq (by
      intro s hs
      simp only [List.mem_cons, List.not_mem_nil, or_false] at hs
      rcases hs with rfl
      · exact f7L3_ok hO M)] at e
    exact e
  · left
    intro R k
    unfold w7
    split
    · exact absurd ⟨_, _, _, _, _, _, _, _, _, _, _, _, _, _, _, _, _, _, _, _, _, _, _, _, _, _, _, _, rfl⟩ hp
    · rfl
noncomputable def tab50 (M : Nat) : Tab := tabOf [(78, w78 (fun R => f78 M)), (79, w79 (fun R => f79 M)), (80, w80 (fun R => f80 M))]
theorem good50 {P : Go.Program} (S : Sys P env spG) (M : Nat) (g78 : Good P env 78 (w78 (fun R => f78 M))) (g79 : Good P env 79 (w79 (fun R => f79 M))) (g80 : Good P env 80 (w80 (fun R => f80 M))) : Good P env 50 (w50 (fun R => f50 M)) := by
  have hO := S.once
  refine good_of S (M := M) (d := 40) (l := [(78, w78 (fun R => f78 M)), (79, w79 (fun R => f79 M)), (80, w80 (fun R => f80 M))]) (cs := []) (by
    intro p hp
    simp only [List.mem_cons, List.not_mem_nil, or_false] at hp
    rcases hp with rfl | rfl | rfl
    · exact g78
    · exact g79
    · exact g80) (by simp) fun xs => ?_
  by_cases hp : ∃ a1 a2 a3 a4 t5 a6 a7, xs = [.agg [.int .i64 a1, .int .i64 a2, .int .i64 a3, .int .i64 a4, .ints t5 .i64 a6], .int .i64 a7]
  · obtain ⟨a1, a2, a3, a4, t5, a6, a7, rfl⟩ := hp
    right
    intro R k
    have e := f50_seg (fun R => f78 M) (fun R => f79 M) (fun R => f80 M) (LOr env M (tab50 M) spG) k t5 a1 a2 a3 a4 a6 a7
    rw [LOs_eq (by simp)] at e
    exact e
  · left
    intro R k
    unfold w50
    split
    · exact absurd ⟨_, _, _, _, _, _, _, rfl⟩ hp
    · rfl
noncomputable def tab83 (M : Nat) : Tab := tabOf [(50, w50 (fun R => f50 M)), (78, w78 (fun R => f78 M)), (80, w80 (fun R => f80 M))]
theorem good83 {P : Go.Program} (S : Sys P env spG) (M : Nat) (g50 : Good P env 50 (w50 (fun R => f50 M))) (g78 : Good P env 78 (w78 (fun R => f78 M))) (g80 : Good P env 80 (w80 (fun R => f80 M))) : Good P env 83 (w83 (fun R => f83 M)) := by
  have hO := S.once
  refine good_of S (M := M) (d := 40) (l := [(50, w50 (fun R => f50 M)), (78, w78 (fun R => f78 M)), (80, w80 (fun R => f80 M))]) (cs := []) (by
    intro p hp
    simp only [List.mem_cons, List.not_mem_nil, or_false] at hp
    rcases hp with rfl | rfl | rfl
    · exact g50
    · exact g78
    · exact g80) (by simp) fun xs => ?_
  by_cases hp : ∃ a1 a2 a3 a4 t5 a6 a7 a8 a9 a10, xs = [.agg [.int .i64 a1, .int .i64 a2, .int .i64 a3, .int .i64 a4, .ints t5 .i64 a6], .agg [.int .i64 a7, .int .i64 a8, .int .i64 a9, .int .i64 a10]]
  · obtain ⟨a1, a2, a3, a4, t5, a6, a7, a8, a9, a10, rfl⟩ := hp
    right
    intro R k
    have e := f83_seg (fun R => f50 M) (fun R => f78 M) (fun R => f80 M) (LOr env M (tab83 M) spG) k t5 a1 a2 a3 a4 a6 a7 a8 a9 a10
    rw [LOs_eq (by simp)] at e
    exact e
  · left
    intro R k
    unfold w83
    split
    · exact absurd ⟨_, _, _, _, _, _, _, _, _, _, rfl⟩ hp
    · rfl
end Go.Vm.T3
