/-
  A part of the proof that FabricPads answers true at every input. No condition.
-/
import Derived.Test.YtnjjhhbogdiceaaGreatYf
set_option linter.unusedVariables false
set_option linter.unusedSimpArgs false
set_option maxRecDepth 100000
namespace Go.Vm.T3
open Go Go.Vm
noncomputable def tab36 (M : Nat) : Tab := tabOf [(50, w50 (fun R => f50 M)), (83, w83 (fun R => f83 M))]
theorem f65Cof36_ok (hO : LoopsOnce env) (M : Nat) : ScOk env M (tab36 M) spG (smf65Cof36 (fun R => f65Cof36S M) (fun R st k => inlCore env (M + 1) (callsT env (M + 1) (tab36 M) spG 2) 65 st k)) := by
  intro R l st k h
  show inlCore env (M + 1) (callsT env (M + 1) (tab36 M) spG 2) 65 st k = _
  unfold smf65Cof36
  simp only
  split
  · rename_i x43 x44 x45 x46 x47 x48 x49 x50 t53 x51 u0 x52
    obtain rfl : _ = st := Option.some.inj h
    have e := f65Cof36_seg (fun R => f50 M) (fun R => f83 M) (LOr env M (tab36 M) spG) k t53 x43 x44 x45 x46 x47 x48 x49 x50 x51 x52
    rw [LOs_eq (by simp)] at e
    change inlCoreL env (callsL env (tab36 M) spG (LOr env M (tab36 M) spG) [] 2) 65 (LOr env M (tab36 M) spG R 2 65) _ _ = _ at e
    rw [callsL_eq hO (by simp), inlCoreL_eq hO] at e
    exact e
  · have h' : fillS _ l = some st := h
    simp only [smf65Cof36] at h'
    rw [h']
theorem f68Cof36_ok (hO : LoopsOnce env) (M : Nat) : ScOk env M (tab36 M) spG (smf68Cof36 (fun R => f68Cof36S M) (fun R st k => inlCore env (M + 1) (callsT env (M + 1) (tab36 M) spG 3) 68 st k)) := by
  intro R l st k h
  show inlCore env (M + 1) (callsT env (M + 1) (tab36 M) spG 3) 68 st k = _
  unfold smf68Cof36
  simp only
  split
  · rename_i x33 x34 x35 x36 x37 x38 x39 t42 x40 u0 x41
    obtain rfl : _ = st := Option.some.inj h
    have e := f68Cof36_seg (fun R => f50 M) (fun R => f83 M) (fun R => f65Cof36S M) (fun R st k => inlCore env (M + 1) (callsT env (M + 1) (tab36 M) spG 2) 65 st k) (LOr env M (tab36 M) spG) k t42 x33 x34 x35 x36 x37 x38 x39 x40 x41
    rw [LOs_eq (by simp)] at e
    change inlCoreL env (callsL env (tab36 M) spG (LOr env M (tab36 M) spG) [(smf65Cof36 (fun R => f65Cof36S M) (fun R st k => inlCore env (M + 1) (callsT env (M + 1) (tab36 M) spG 2) 65 st k))] 3) 68 (LOr env M (tab36 M) spG R 3 68) _ _ = _ at e
    rw [callsL_eq hO (by
      intro s hs
      simp only [List.mem_cons, List.not_mem_nil, or_false] at hs
      rcases hs with rfl
      · exact f65Cof36_ok hO M), inlCoreL_eq hO] at e
    exact e
  · have h' : fillS _ l = some st := h
    simp only [smf68Cof36] at h'
    rw [h']
theorem f64L1of36_ok (hO : LoopsOnce env) (M : Nat) : SmOk (LOr env M (tab36 M) spG) (smf64L1of36 (fun R => f64L1of36S M) (LOr env M (tab36 M) spG)) := by
  intro R l st k h
  show (LOr env M (tab36 M) spG) R 4 64 1 st k = _
  unfold smf64L1of36
  simp only
  split
  · rename_i x22 x23 x24 x25 x26 x27 x28 x29 t32 x30 u0 x31
    obtain rfl : _ = st := Option.some.inj h
    exact sm_rounds hO (cs := [(smf68Cof36 (fun R => f68Cof36S M) (fun R st k => inlCore env (M + 1) (callsT env (M + 1) (tab36 M) spG 3) 68 st k))]) (c := (loopOf env 64 1).getD .skip) (by kernel_rfl) (by kernel_rfl) (by
      intro s hs
      simp only [List.mem_cons, List.not_mem_nil, or_false] at hs
      rcases hs with rfl
      · exact f68Cof36_ok hO M)
      (S := fun a : Int × (List Int) => (qf64L1of360 t32 x22 x23 x24 a.1 x26 x27 x28 x29 x30 a.2))
      (B := fun (g : Int × (List Int) → Option R) (a : Int × (List Int)) => f64L1of36 (f68Cof36S M) x22 x23 x24 x26 x27 x28 x29 x30 (fun z0 z1 z2 => k (.exit 0) (ef64L1of360 t32 x22 x23 x24 z0 z1 x26 x27 x28 x29 x30 z2)) (fun y0 y1 => g (y0, y1)) a.1 a.2)
      (fun g a => by
        have e := f64L1of36_seg (fun R => f50 M) (fun R => f83 M) (fun R => f68Cof36S M) (fun R st k => inlCore env (M + 1) (callsT env (M + 1) (tab36 M) spG 3) 68 st k) (LOr env M (tab36 M) spG) g k t32 x22 x23 x24 x26 x27 x28 x29 x30 a.1 a.2
        rw [LOs_eq (by simp)] at e
        exact e) (x25, x31)
  · have h' : fillS _ l = some st := h
    simp only [smf64L1of36] at h'
    rw [h']
theorem f64Cof36_ok (hO : LoopsOnce env) (M : Nat) : ScOk env M (tab36 M) spG (smf64Cof36 (fun R => f64Cof36S M) (fun R st k => inlCore env (M + 1) (callsT env (M + 1) (tab36 M) spG 4) 64 st k)) := by
  intro R l st k h
  show inlCore env (M + 1) (callsT env (M + 1) (tab36 M) spG 4) 64 st k = _
  unfold smf64Cof36
  simp only
  split
  · rename_i x13 x14 x15 x16 x17 x18 t21 x19 u0 x20
    obtain rfl : _ = st := Option.some.inj h
    have e := f64Cof36_seg (fun R => f50 M) (fun R => f83 M) (fun R => f64L1of36S M) (LOr env M (tab36 M) spG) k t21 x13 x14 x15 x16 x17 x18 x19 x20
    rw [LOs_eq (by
      intro s hs
      simp only [List.mem_cons, List.not_mem_nil, or_false] at hs
      rcases hs with rfl
      · exact f64L1of36_ok hO M)] at e
    change inlCoreL env (callsL env (tab36 M) spG (LOr env M (tab36 M) spG) [] 4) 64 (LOr env M (tab36 M) spG R 4 64) _ _ = _ at e
    rw [callsL_eq hO (by simp), inlCoreL_eq hO] at e
    exact e
  · have h' : fillS _ l = some st := h
    simp only [smf64Cof36] at h'
    rw [h']
theorem f59L2of36_ok (hO : LoopsOnce env) (M : Nat) : SmOk (LOr env M (tab36 M) spG) (smf59L2of36 (fun R => f59L2of36S M) (LOr env M (tab36 M) spG)) := by
  intro R l st k h
  show (LOr env M (tab36 M) spG) R 4 59 2 st k = _
  unfold smf59L2of36
  simp only
  split
  · rename_i x74 x75 x76 x77 x78 x79 t85 x80 u0 x81 x82 u1 x83 u2 x84
    obtain rfl : _ = st := Option.some.inj h
    exact sm_rounds hO (cs := []) (c := (loopOf env 59 2).getD .skip) (by kernel_rfl) (by kernel_rfl) (by simp)
      (S := fun a : Int => (qf59L2of360 t85 x74 a x76 x77 x78 x79 x80 x81 x82 x83 x84))
      (B := fun (g : Int → Option R) (a : Int) => f59L2of36 x74 x76 x77 x78 x79 x80 x81 x82 x83 x84 (fun z0 z1 z2 z3 z4 => k .ret (ef59L2of360 t85 z0 z1 x74 z2 z3 z4 x76 x77 x78 x79 x80 x81 x82 x83 x84)) (fun z0 z1 => k (.exit 0) (ef59L2of361 t85 x74 z0 z1 x76 x77 x78 x79 x80 x81 x82 x83 x84)) (fun y0 => g y0) a)
      (fun g a => by
        have e := f59L2of36_seg (fun R => f50 M) (fun R => f83 M) (LOr env M (tab36 M) spG) g k t85 x74 x76 x77 x78 x79 x80 x81 x82 x83 x84 a
        rw [LOs_eq (by simp)] at e
        exact e) x75
  · have h' : fillS _ l = some st := h
    simp only [smf59L2of36] at h'
    rw [h']
theorem f86L5of36_ok (hO : LoopsOnce env) (M : Nat) : SmOk (LOr env M (tab36 M) spG) (smf86L5of36 (fun R => f86L5of36S M) (LOr env M (tab36 M) spG)) := by
  intro R l st k h
  show (LOr env M (tab36 M) spG) R 5 86 5 st k = _
  unfold smf86L5of36
  simp only
  split
  · rename_i x91 x92 x93 x94 x95 x96 t101 x97 u0 x98 x99 u1 x100
    obtain rfl : _ = st := Option.some.inj h
    exact sm_rounds hO (cs := []) (c := (loopOf env 86 5).getD .skip) (by kernel_rfl) (by kernel_rfl) (by simp)
      (S := fun a : Int × Int × (List Int) => (qf86L5of360 t101 a.1 a.2.1 x93 x94 x95 x96 x97 a.2.2 x99 x100))
      (B := fun (g : Int × Int × (List Int) → Option R) (a : Int × Int × (List Int)) => f86L5of36 x93 x94 x95 x96 x97 x99 x100 (fun z0 z1 z2 z3 => k (.exit 0) (ef86L5of360 t101 z0 z1 z2 x93 x94 x95 x96 x97 z3 x99 x100)) (fun y0 y1 y2 => g (y0, y1, y2)) a.1 a.2.1 a.2.2)
      (fun g a => by
        have e := f86L5of36_seg (fun R => f50 M) (fun R => f83 M) (LOr env M (tab36 M) spG) g k t101 x93 x94 x95 x96 x97 x99 x100 a.1 a.2.1 a.2.2
        rw [LOs_eq (by simp)] at e
        exact e) (x91, x92, x98)
  · have h' : fillS _ l = some st := h
    simp only [smf86L5of36] at h'
    rw [h']
theorem f85L9of36_ok (hO : LoopsOnce env) (M : Nat) : SmOk (LOr env M (tab36 M) spG) (smf85L9of36 (fun R => f85L9of36S M) (LOr env M (tab36 M) spG)) := by
  intro R l st k h
  show (LOr env M (tab36 M) spG) R 5 85 9 st k = _
  unfold smf85L9of36
  simp only
  split
  · rename_i x118 x119 x120 x121 x122 x123 x124 x125 t130 x126 u0 x127 x128 u1 x129
    obtain rfl : _ = st := Option.some.inj h
    exact sm_rounds hO (cs := []) (c := (loopOf env 85 9).getD .skip) (by kernel_rfl) (by kernel_rfl) (by simp)
      (S := fun a : Int × Int × (List Int) => (qf85L9of360 t130 a.1 (Int.toNat x119) (Int.toNat x120) a.2.1 x122 x123 x124 x125 x126 a.2.2 x128 x129))
      (B := fun (g : Int × Int × (List Int) → Option R) (a : Int × Int × (List Int)) => f85L9of36 (Int.toNat x119) (Int.toNat x120) x122 x123 x124 x125 x126 x128 x129 (fun z0 z1 z2 z3 => k (.exit 2) (ef85L9of360 t130 z0 (Int.toNat x119) (Int.toNat x120) z1 z2 x122 x123 x124 x125 x126 z3 x128 x129)) (fun y0 y1 y2 => g (y0, y1, y2)) a.1 a.2.1 a.2.2)
      (fun g a => by
        have e := f85L9of36_seg (fun R => f50 M) (fun R => f83 M) (LOr env M (tab36 M) spG) g k t130 (Int.toNat x119) (Int.toNat x120) x122 x123 x124 x125 x126 x128 x129 a.1 a.2.1 a.2.2
        rw [LOs_eq (by simp)] at e
        exact e) (x118, x121, x127)
  · have h' : fillS _ l = some st := h
    simp only [smf85L9of36] at h'
    rw [h']
theorem f85L4of36_ok (hO : LoopsOnce env) (M : Nat) : SmOk (LOr env M (tab36 M) spG) (smf85L4of36 (fun R => f85L4of36S M) (LOr env M (tab36 M) spG)) := by
  intro R l st k h
  show (LOr env M (tab36 M) spG) R 5 85 4 st k = _
  unfold smf85L4of36
  simp only
  split
  · rename_i x108 x109 x110 x111 x112 t117 x113 u0 x114 x115 u1 x116
    obtain rfl : _ = st := Option.some.inj h
    exact sm_rounds hO (cs := []) (c := (loopOf env 85 4).getD .skip) (by kernel_rfl) (by kernel_rfl) (by simp)
      (S := fun a : Int => (qf85L4of360 t117 a x109 x110 x111 x112 x113 x114 x115 x116))
      (B := fun (g : Int → Option R) (a : Int) => f85L4of36 (f85L9of36S M) x109 x110 x111 x112 x113 x114 x115 x116 (fun z0 z1 z2 z3 z4 z5 z6 z7 => k .ret (ef85L4of360 t117 z0 z1 z2 z3 z4 z5 z6 x109 x110 x111 x112 x113 z7 x115 x116)) (fun z0 z1 => k (.exit 0) (ef85L4of361 t117 z0 z1 x109 x110 x111 x112 x113 x114 x115 x116)) (fun y0 => g y0) a)
      (fun g a => by
        have e := f85L4of36_seg (fun R => f50 M) (fun R => f83 M) (fun R => f85L9of36S M) (LOr env M (tab36 M) spG) g k t117 x109 x110 x111 x112 x113 x114 x115 x116 a
        rw [LOs_eq (by
      intro s hs
      simp only [List.mem_cons, List.not_mem_nil, or_false] at hs
      rcases hs with rfl
      · exact f85L9of36_ok hO M)] at e
        exact e) x108
  · have h' : fillS _ l = some st := h
    simp only [smf85L4of36] at h'
    rw [h']
theorem f59L2of36x2_ok (hO : LoopsOnce env) (M : Nat) : SmOk (LOr env M (tab36 M) spG) (smf59L2of36x2 (fun R => f59L2of36x2S M) (LOr env M (tab36 M) spG)) := by
  intro R l st k h
  show (LOr env M (tab36 M) spG) R 4 59 2 st k = _
  unfold smf59L2of36x2
  simp only
  split
  · rename_i x143 x144 x145 x146 x147 x148 x149 x150 t158 x151 x152 x153 u0 x154 x155 u1 x156 u2 x157
    obtain rfl : _ = st := Option.some.inj h
    exact sm_rounds hO (cs := []) (c := (loopOf env 59 2).getD .skip) (by kernel_rfl) (by kernel_rfl) (by simp)
      (S := fun a : Int => (qf59L2of36x20 t158 (Int.toNat x143) (Int.toNat x144) x145 a x147 x148 x149 x150 x151 (Int.toNat x152) (Int.toNat x153) x154 x155 x156 x157))
      (B := fun (g : Int → Option R) (a : Int) => f59L2of36x2 (Int.toNat x143) (Int.toNat x144) x145 x147 x148 x149 x150 x151 (Int.toNat x152) (Int.toNat x153) x154 x155 x156 x157 (fun z0 z1 z2 z3 z4 => k .ret (ef59L2of36x20 t158 (Int.toNat x143) (Int.toNat x144) z0 z1 x145 z2 z3 z4 x147 x148 x149 x150 x151 (Int.toNat x152) (Int.toNat x153) x154 x155 x156 x157)) (fun z0 z1 => k (.exit 0) (ef59L2of36x21 t158 (Int.toNat x143) (Int.toNat x144) x145 z0 z1 x147 x148 x149 x150 x151 (Int.toNat x152) (Int.toNat x153) x154 x155 x156 x157)) (fun y0 => g y0) a)
      (fun g a => by
        have e := f59L2of36x2_seg (fun R => f50 M) (fun R => f83 M) (LOr env M (tab36 M) spG) g k t158 (Int.toNat x143) (Int.toNat x144) x145 x147 x148 x149 x150 x151 (Int.toNat x152) (Int.toNat x153) x154 x155 x156 x157 a
        rw [LOs_eq (by simp)] at e
        exact e) x146
  · have h' : fillS _ l = some st := h
    simp only [smf59L2of36x2] at h'
    rw [h']
theorem f86L5of36x2_ok (hO : LoopsOnce env) (M : Nat) : SmOk (LOr env M (tab36 M) spG) (smf86L5of36x2 (fun R => f86L5of36x2S M) (LOr env M (tab36 M) spG)) := by
  intro R l st k h
  show (LOr env M (tab36 M) spG) R 5 86 5 st k = _
  unfold smf86L5of36x2
  simp only
  split
  · rename_i x164 x165 x166 x167 x168 x169 x170 x171 t178 x172 x173 x174 u0 x175 x176 u1 x177
    obtain rfl : _ = st := Option.some.inj h
    exact sm_rounds hO (cs := []) (c := (loopOf env 86 5).getD .skip) (by kernel_rfl) (by kernel_rfl) (by simp)
      (S := fun a : Int × Int × (List Int) => (qf86L5of36x20 t178 (Int.toNat x164) (Int.toNat x165) a.1 a.2.1 x168 x169 x170 x171 x172 (Int.toNat x173) (Int.toNat x174) a.2.2 x176 x177))
      (B := fun (g : Int × Int × (List Int) → Option R) (a : Int × Int × (List Int)) => f86L5of36x2 (Int.toNat x164) (Int.toNat x165) x168 x169 x170 x171 x172 (Int.toNat x173) (Int.toNat x174) x176 x177 (fun z0 z1 z2 z3 => k (.exit 0) (ef86L5of36x20 t178 (Int.toNat x164) (Int.toNat x165) z0 z1 z2 x168 x169 x170 x171 x172 (Int.toNat x173) (Int.toNat x174) z3 x176 x177)) (fun y0 y1 y2 => g (y0, y1, y2)) a.1 a.2.1 a.2.2)
      (fun g a => by
        have e := f86L5of36x2_seg (fun R => f50 M) (fun R => f83 M) (LOr env M (tab36 M) spG) g k t178 (Int.toNat x164) (Int.toNat x165) x168 x169 x170 x171 x172 (Int.toNat x173) (Int.toNat x174) x176 x177 a.1 a.2.1 a.2.2
        rw [LOs_eq (by simp)] at e
        exact e) (x166, x167, x175)
  · have h' : fillS _ l = some st := h
    simp only [smf86L5of36x2] at h'
    rw [h']
theorem f69Cof36_ok (hO : LoopsOnce env) (M : Nat) : ScOk env M (tab36 M) spG (smf69Cof36 (fun R => f69Cof36S M) (fun R st k => inlCore env (M + 1) (callsT env (M + 1) (tab36 M) spG 6) 69 st k)) := by
  intro R l st k h
  show inlCore env (M + 1) (callsT env (M + 1) (tab36 M) spG 6) 69 st k = _
  unfold smf69Cof36
  simp only
  split
  · rename_i x66 x67 x68 x69 x70 t73 x71 u0 x72
    obtain rfl : _ = st := Option.some.inj h
    have e := f69Cof36_seg (fun R => f50 M) (fun R => f83 M) (fun R => f59L2of36S M) (fun R => f86L5of36S M) (fun R => f85L4of36S M) (fun R => f59L2of36x2S M) (fun R => f86L5of36x2S M) (LOr env M (tab36 M) spG) k t73 x66 x67 x68 x69 x70 x71 x72
    rw [LOs_eq (by
      intro s hs
      simp only [List.mem_cons, List.not_mem_nil, or_false] at hs
      rcases hs with rfl | rfl | rfl | rfl | rfl
      · exact f59L2of36_ok hO M
      · exact f86L5of36_ok hO M
      · exact f85L4of36_ok hO M
      · exact f59L2of36x2_ok hO M
      · exact f86L5of36x2_ok hO M)] at e
    change inlCoreL env (callsL env (tab36 M) spG (LOr env M (tab36 M) spG) [] 6) 69 (LOr env M (tab36 M) spG R 6 69) _ _ = _ at e
    rw [callsL_eq hO (by simp), inlCoreL_eq hO] at e
    exact e
  · have h' : fillS _ l = some st := h
    simp only [smf69Cof36] at h'
    rw [h']
theorem f67L4of36_ok (hO : LoopsOnce env) (M : Nat) : SmOk (LOr env M (tab36 M) spG) (smf67L4of36 (fun R => f67L4of36S M) (LOr env M (tab36 M) spG)) := by
  intro R l st k h
  show (LOr env M (tab36 M) spG) R 4 67 4 st k = _
  unfold smf67L4of36
  simp only
  split
  · rename_i x248 x249 x250 x251 x252 x253 x254 x255 x256 x257 x258 t266 x259 x260 x261 x262 x263 t267 x264 u0 x265
    obtain rfl : _ = st := Option.some.inj h
    exact sm_rounds hO (cs := [(smf65Cof36 (fun R => f65Cof36S M) (fun R st k => inlCore env (M + 1) (callsT env (M + 1) (tab36 M) spG 2) 65 st k))]) (c := (loopOf env 67 4).getD .skip) (by kernel_rfl) (by kernel_rfl) (by
      intro s hs
      simp only [List.mem_cons, List.not_mem_nil, or_false] at hs
      rcases hs with rfl
      · exact f65Cof36_ok hO M)
      (S := fun a : Int × (List Int) => (qf67L4of360 t266 t267 x248 x249 a.1 x251 x252 x253 x254 x255 x256 x257 x258 x259 x260 x261 x262 x263 x264 a.2))
      (B := fun (g : Int × (List Int) → Option R) (a : Int × (List Int)) => f67L4of36 (f65Cof36S M) x248 x249 x251 x252 x253 x254 x255 x256 x257 x258 x259 x260 x261 x262 x263 x264 (fun z0 z1 z2 => k (.exit 0) (ef67L4of360 t266 t267 x248 x249 z0 z1 x251 x252 x253 x254 x255 x256 x257 x258 x259 x260 x261 x262 x263 x264 z2)) (fun y0 y1 => g (y0, y1)) a.1 a.2)
      (fun g a => by
        have e := f67L4of36_seg (fun R => f50 M) (fun R => f83 M) (fun R => f65Cof36S M) (fun R st k => inlCore env (M + 1) (callsT env (M + 1) (tab36 M) spG 2) 65 st k) (LOr env M (tab36 M) spG) g k t266 t267 x248 x249 x251 x252 x253 x254 x255 x256 x257 x258 x259 x260 x261 x262 x263 x264 a.1 a.2
        rw [LOs_eq (by simp)] at e
        exact e) (x250, x265)
  · have h' : fillS _ l = some st := h
    simp only [smf67L4of36] at h'
    rw [h']
theorem f67Cof36_ok (hO : LoopsOnce env) (M : Nat) : ScOk env M (tab36 M) spG (smf67Cof36 (fun R => f67Cof36S M) (fun R st k => inlCore env (M + 1) (callsT env (M + 1) (tab36 M) spG 4) 67 st k)) := by
  intro R l st k h
  show inlCore env (M + 1) (callsT env (M + 1) (tab36 M) spG 4) 67 st k = _
  unfold smf67Cof36
  simp only
  split
  · rename_i x226 x227 x228 x229 x230 x231 x232 x233 x234 x235 t243 x236 x237 x238 x239 x240 t244 x241 u0 x242
    obtain rfl : _ = st := Option.some.inj h
    have e := f67Cof36_seg (fun R => f50 M) (fun R => f83 M) (fun R => f65Cof36S M) (fun R => f68Cof36S M) (fun R => f67L4of36S M) (fun R st k => inlCore env (M + 1) (callsT env (M + 1) (tab36 M) spG 2) 65 st k) (fun R st k => inlCore env (M + 1) (callsT env (M + 1) (tab36 M) spG 3) 68 st k) (LOr env M (tab36 M) spG) k t243 t244 x226 x227 x228 x229 x230 x231 x232 x233 x234 x235 x236 x237 x238 x239 x240 x241 x242
    rw [LOs_eq (by
      intro s hs
      simp only [List.mem_cons, List.not_mem_nil, or_false] at hs
      rcases hs with rfl
      · exact f67L4of36_ok hO M)] at e
    change inlCoreL env (callsL env (tab36 M) spG (LOr env M (tab36 M) spG) [(smf65Cof36 (fun R => f65Cof36S M) (fun R st k => inlCore env (M + 1) (callsT env (M + 1) (tab36 M) spG 2) 65 st k)), (smf68Cof36 (fun R => f68Cof36S M) (fun R st k => inlCore env (M + 1) (callsT env (M + 1) (tab36 M) spG 3) 68 st k))] 4) 67 (LOr env M (tab36 M) spG R 4 67) _ _ = _ at e
    rw [callsL_eq hO (by
      intro s hs
      simp only [List.mem_cons, List.not_mem_nil, or_false] at hs
      rcases hs with rfl | rfl
      · exact f65Cof36_ok hO M
      · exact f68Cof36_ok hO M), inlCoreL_eq hO] at e
    exact e
  · have h' : fillS _ l = some st := h
    simp only [smf67Cof36] at h'
    rw [h']
theorem good36 {P : Go.Program} (S : Sys P env spG) (M : Nat) (g50 : Good P env 50 (w50 (fun R => f50 M))) (g83 : Good P env 83 (w83 (fun R => f83 M))) : Good P env 36 (w36 (fun R => f36 M)) := by
  have hO := S.once
  refine good_of S (M := M) (d := 40) (l := [(50, w50 (fun R => f50 M)), (83, w83 (fun R => f83 M))]) (cs := [(smf64Cof36 (fun R => f64Cof36S M) (fun R st k => inlCore env (M + 1) (callsT env (M + 1) (tab36 M) spG 4) 64 st k)), (smf65Cof36 (fun R => f65Cof36S M) (fun R st k => inlCore env (M + 1) (callsT env (M + 1) (tab36 M) spG 2) 65 st k)), (smf69Cof36 (fun R => f69Cof36S M) (fun R st k => inlCore env (M + 1) (callsT env (M + 1) (tab36 M) spG 6) 69 st k)), (smf67Cof36 (fun R => f67Cof36S M) (fun R st k => inlCore env (M + 1) (callsT env (M + 1) (tab36 M) spG 4) 67 st k))]) (by
    intro p hp
    simp only [List.mem_cons, List.not_mem_nil, or_false] at hp
    rcases hp with rfl | rfl
    · exact g50
    · exact g83) (by
      intro s hs
      simp only [List.mem_cons, List.not_mem_nil, or_false] at hs
      rcases hs with rfl | rfl | rfl | rfl
      · exact f64Cof36_ok hO M
      · exact f65Cof36_ok hO M
      · exact f69Cof36_ok hO M
      · exact f67Cof36_ok hO M) fun xs => ?_
  by_cases hp : ∃ a1 a2 a3 a4 t5 a6 a7, xs = [.agg [.int .i64 a1, .int .i64 a2, .int .i64 a3, .int .i64 a4, .ints t5 .i64 a6], .int .i64 a7]
  · obtain ⟨a1, a2, a3, a4, t5, a6, a7, rfl⟩ := hp
    right
    intro R k
    have e := f36_seg (fun R => f50 M) (fun R => f83 M) (fun R => f64Cof36S M) (fun R => f65Cof36S M) (fun R => f69Cof36S M) (fun R => f67Cof36S M) (fun R st k => inlCore env (M + 1) (callsT env (M + 1) (tab36 M) spG 4) 64 st k) (fun R st k => inlCore env (M + 1) (callsT env (M + 1) (tab36 M) spG 2) 65 st k) (fun R st k => inlCore env (M + 1) (callsT env (M + 1) (tab36 M) spG 6) 69 st k) (fun R st k => inlCore env (M + 1) (callsT env (M + 1) (tab36 M) spG 4) 67 st k) (LOr env M (tab36 M) spG) k t5 a1 a2 a3 a4 a6 a7
    rw [LOs_eq (by simp)] at e
    exact e
  · left
    intro R k
    unfold w36
    split
    · exact absurd ⟨_, _, _, _, _, _, _, rfl⟩ hp
    · rfl
end Go.Vm.T3
