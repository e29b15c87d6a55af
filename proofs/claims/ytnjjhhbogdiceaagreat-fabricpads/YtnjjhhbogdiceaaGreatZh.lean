/-
  A part of the proof that FabricPads answers true at every input. No condition.
-/
import Derived.Test.YtnjjhhbogdiceaaGreatYh
set_option linter.unusedVariables false
set_option linter.unusedSimpArgs false
set_option maxRecDepth 100000
namespace Go.Vm.T3
open Go Go.Vm
noncomputable def tab4 (M : Nat) : Tab := tabOf [(6, w6 (fun R => f6 M)), (7, w7 (fun R => f7 M)), (11, w11 (fun R => f11 M)), (12, w12 (fun R => f12 M)), (16, w16 (fun R => f16 M)), (17, w17 (fun R => f17 M)), (22, w22 (fun R => f22 M)), (23, w23 (fun R => f23 M)), (24, w24 (fun R => f24 M)), (25, w25 (fun R => f25 M))]
theorem f4L15_ok (hO : LoopsOnce env) (M : Nat) : SmOk (LOr env M (tab4 M) spG) (smf4L15 (fun R => f4L15S M) (LOr env M (tab4 M) spG)) := by
  intro R l st k h
  show (LOr env M (tab4 M) spG) R 40 4 15 st k = _
  unfold smf4L15
  simp only
  split
  · rename_i x83 x84 x85 x86 x87 x88 x89 x90 x91 x92 x93 x94 x95 x96 x97 x98 x99 x100 u0 x101 u1 x102
    obtain rfl : _ = st := Option.some.inj h
    exact sm_rounds hO (cs := []) (c := (loopOf env 4 15).getD .skip) (by kernel_rfl) (by kernel_rfl) (by simp)
      (S := fun a : Bool × Int => (qf4L150 x83 x84 x85 a.1 a.2 x88 x89 x90 x91 x92 x93 x94 x95 x96 x97 x98 x99 x100 x101 x102))
      (B := fun (g : Bool × Int → Option R) (a : Bool × Int) => f4L15 x83 x84 x85 x88 x89 x90 x91 x92 x93 x94 x95 x96 x97 x98 x99 x100 x101 x102 (fun z0 z1 z2 => k (.exit 0) (ef4L150 x83 x84 x85 z0 z1 z2 x88 x89 x90 x91 x92 x93 x94 x95 x96 x97 x98 x99 x100 x101 x102)) (fun y0 y1 => g (y0, y1)) a.1 a.2)
      (fun g a => by
        have e := f4L15_seg (fun R => f6 M) (fun R => f7 M) (fun R => f11 M) (fun R => f12 M) (fun R => f16 M) (fun R => f17 M) (fun R => f22 M) (fun R => f23 M) (fun R => f24 M) (fun R => f25 M) (LOr env M (tab4 M) spG) g k x83 x84 x85 x88 x89 x90 x91 x92 x93 x94 x95 x96 x97 x98 x99 x100 x101 x102 a.1 a.2
        rw [LOs_eq (by simp)] at e
        exact e) (x86, x87)
  · have h' : fillS _ l = some st := h
    simp only [smf4L15] at h'
    rw [h']
theorem f4L19_ok (hO : LoopsOnce env) (M : Nat) : SmOk (LOr env M (tab4 M) spG) (smf4L19 (fun R => f4L19S M) (LOr env M (tab4 M) spG)) := by
  intro R l st k h
  show (LOr env M (tab4 M) spG) R 40 4 19 st k = _
  unfold smf4L19
  simp only
  split
  · rename_i x106 x107 x108 x109 x110 u0 x111 u1 x112
    obtain rfl : _ = st := Option.some.inj h
    exact sm_rounds hO (cs := []) (c := (loopOf env 4 19).getD .skip) (by kernel_rfl) (by kernel_rfl) (by simp)
      (S := fun a : Int => (qf4L190 x106 x107 x108 x109 a x111 x112))
      (B := fun (g : Int → Option R) (a : Int) => f4L19 x106 x107 x108 x109 x111 x112 (fun z0 z1 z2 z3 => k .ret (ef4L190 z0 x106 x107 x108 x109 z1 z2 z3 x111 x112)) (fun z0 z1 => k (.exit 2) (ef4L191 x106 x107 x108 x109 z0 z1 x111 x112)) (fun y0 => g y0) a)
      (fun g a => by
        have e := f4L19_seg (fun R => f6 M) (fun R => f7 M) (fun R => f11 M) (fun R => f12 M) (fun R => f16 M) (fun R => f17 M) (fun R => f22 M) (fun R => f23 M) (fun R => f24 M) (fun R => f25 M) (LOr env M (tab4 M) spG) g k x106 x107 x108 x109 x111 x112 a
        rw [LOs_eq (by simp)] at e
        exact e) x110
  · have h' : fillS _ l = some st := h
    simp only [smf4L19] at h'
    rw [h']
theorem good4 {P : Go.Program} (S : Sys P env spG) (M : Nat) (g6 : Good P env 6 (w6 (fun R => f6 M))) (g7 : Good P env 7 (w7 (fun R => f7 M))) (g11 : Good P env 11 (w11 (fun R => f11 M))) (g12 : Good P env 12 (w12 (fun R => f12 M))) (g16 : Good P env 16 (w16 (fun R => f16 M))) (g17 : Good P env 17 (w17 (fun R => f17 M))) (g22 : Good P env 22 (w22 (fun R => f22 M))) (g23 : Good P env 23 (w23 (fun R => f23 M))) (g24 : Good P env 24 (w24 (fun R => f24 M))) (g25 : Good P env 25 (w25 (fun R => f25 M))) : Good P env 4 (w4 (fun R => f4 M)) := by
  have hO := S.once
  refine good_of S (M := M) (d := 40) (l := [(6, w6 (fun R => f6 M)), (7, w7 (fun R => f7 M)), (11, w11 (fun R => f11 M)), (12, w12 (fun R => f12 M)), (16, w16 (fun R => f16 M)), (17, w17 (fun R => f17 M)), (22, w22 (fun R => f22 M)), (23, w23 (fun R => f23 M)), (24, w24 (fun R => f24 M)), (25, w25 (fun R => f25 M))]) (cs := []) (by
    intro p hp
    simp only [List.mem_cons, List.not_mem_nil, or_false] at hp
    rcases hp with rfl | rfl | rfl | rfl | rfl | rfl | rfl | rfl | rfl | rfl
    · exact g6
    · exact g7
    · exact g11
    · exact g12
    · exact g16
    · exact g17
    · exact g22
    · exact g23
    · exact g24
    · exact g25) (by simp) fun xs => ?_
  by_cases hp : ∃ a1 a2 a3 a4 a5 a6 a7 a8 a9 a10 a11 a12 a13 a14 a15 a16 a17, xs = [.agg [.int .u8 a1, .int .u8 a2, .int .u8 a3, .int .u8 a4, .ints .frz .u8 a5, .vals .frz 155 a6, .vals .frz 22 a7, .ints .frz .u8 a8, .vals .frz 155 a9, .vals .frz 155 a10, .ints .frz .i64 a11, .vals .frz 29 a12, .vals .frz 166 a13, .bools .frz a14, .ints .frz .u8 a15, .ints .frz .u8 a16], .int .u8 a17]
  · obtain ⟨a1, a2, a3, a4, a5, a6, a7, a8, a9, a10, a11, a12, a13, a14, a15, a16, a17, rfl⟩ := hp
    right
    intro R k
    have e := f4_seg (fun R => f6 M) (fun R => f7 M) (fun R => f11 M) (fun R => f12 M) (fun R => f16 M) (fun R => f17 M) (fun R => f22 M) (fun R => f23 M) (fun R => f24 M) (fun R => f25 M) (fun R => f4L15S M) (fun R => f4L19S M) (LOr env M (tab4 M) spG) k a1 a2 a3 a4 a5 a6 a7 a8 a9 a10 a11 a12 a13 a14 a15 a16 a17
    rw [LOs_eq (by
      intro s hs
      simp only [List.mem_cons, List.not_mem_nil, or_false] at hs
      rcases hs with rfl | rfl
      · exact f4L15_ok hO M
      · exact f4L19_ok hO M)] at e
    exact e
  · left
    intro R k
    unfold w4
    split
    · exact absurd ⟨_, _, _, _, _, _, _, _, _, _, _, _, _, _, _, _, _, rfl⟩ hp
    · rfl
end Go.Vm.T3
