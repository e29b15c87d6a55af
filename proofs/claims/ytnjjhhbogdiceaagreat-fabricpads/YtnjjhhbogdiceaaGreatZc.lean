/-
  A part of the proof that FabricPads answers true at every input. No condition.
-/
import Derived.Test.YtnjjhhbogdiceaaGreatYc
set_option linter.unusedVariables false
set_option linter.unusedSimpArgs false
set_option maxRecDepth 100000
namespace Go.Vm.T3
open Go Go.Vm
noncomputable def tab22 (M : Nat) : Tab := tabOf [(39, w39 (fun R => f39 M)), (41, w41 (fun R => f41 M)), (42, w42 (fun R => f42 M)), (44, w44 (fun R => f44 M)), (73, w73 (fun R => f73 M))]
theorem f40L2of22_ok (hO : LoopsOnce env) (M : Nat) : SmOk (LOr env M (tab22 M) spG) (smf40L2of22 (fun R => f40L2of22S M) (LOr env M (tab22 M) spG)) := by
  intro R l st k h
  show (LOr env M (tab22 M) spG) R 39 40 2 st k = _
  unfold smf40L2of22
  simp only
  split
  · rename_i t62 x16 x17 x18 x19 x20 x21 t63 x22 t64 x23 t65 x24 x25 x26 x27 x28 u0 x29 u1 x30 u2 x31 u3 x32 u4 x33 u5 x34 u6 x35 u7 x36 x37 x38 x39 x40 u8 x41 u9 x42 u10 x43 u11 x44 u12 x45 u13 x46 x47 x48 x49 x50 x51 x52 x53 x54 u14 x55 u15 x56 u16 x57 u17 x58 u18 x59 u19 x60 u20 x61
    obtain rfl : _ = st := Option.some.inj h
    exact sm_rounds hO (cs := []) (c := (loopOf env 40 2).getD .skip) (by kernel_rfl) (by kernel_rfl) (by simp)
      (S := fun a : ((Int) ⊕ (Int × (List V) × (List Int))) => match a with | .inl a => (qf40L2of220 t62 t63 t64 t65 x16 a x18 x19 x20 x21 x22 x23 x24 x25 x26 x27 x28 x29 x30 x31 x32 x33 x34 x35 x36 x37 x38 x39 x40 x41 x42 x43 x44 x45 x46 x47 x48 x49 x50 x51 x52 x53 x54 x55 x56 x57 x58 x59 x60 x61) | .inr a => (qf40L2of221 t62 t63 t64 t65 x16 a.1 x18 x19 x20 x21 x22 x23 x24 x25 x26 x27 x28 x29 x30 x31 x32 x33 x34 x35 x36 x37 x38 x39 x40 x41 x43 x44 x46 x47 x48 x49 x50 a.2.1 a.2.2 x51 x52 x53 x54 x55 x56 x57 x58 x59 x60 x61))
      (B := fun (g : ((Int) ⊕ (Int × (List V) × (List Int))) → Option R) (a : ((Int) ⊕ (Int × (List V) × (List Int)))) => match a with | .inl a => f40L2of22v0 (f44 M) (f73 M) x16 x18 x19 x20 x21 x22 x23 x24 x25 x26 x27 x28 x29 x30 x31 x32 x33 x34 x35 x36 x37 x38 x39 x40 x41 x42 x43 x44 x45 x46 x47 x48 x49 x50 x51 x52 x53 x54 x55 x56 x57 x58 x59 x60 x61 (fun z0 z1 => k (.exit 0) (ef40L2of220 t62 t63 t64 t65 x16 z0 z1 x18 x19 x20 x21 x22 x23 x24 x25 x26 x27 x28 x29 x30 x31 x32 x33 x34 x35 x36 x37 x38 x39 x40 x41 x42 x43 x44 x45 x46 x47 x48 x49 x50 x51 x52 x53 x54 x55 x56 x57 x58 x59 x60 x61)) (fun z0 z1 z2 z3 => k (.exit 0) (ef40L2of221 t62 t63 t64 t65 x16 z0 z1 x18 x19 x20 x21 x22 x23 x24 x25 x26 x27 x28 x29 x30 x31 x32 x33 x34 x35 x36 x37 x38 x39 x40 x41 x43 x44 x46 x47 x48 x49 x50 z2 z3 x51 x52 x53 x54 x55 x56 x57 x58 x59 x60 x61)) (fun y0 => g (.inl y0)) (fun y0 y1 y2 => g (.inr (y0, y1, y2))) a | .inr a => f40L2of22v1 (f44 M) (f73 M) x16 x18 x19 x20 x21 x22 x23 x24 x25 x26 x27 x28 x29 x30 x31 x32 x33 x34 x35 x36 x37 x38 x39 x40 x41 x42 x43 x44 x45 x46 x47 x48 x49 x50 x51 x52 x53 x54 x55 x56 x57 x58 x59 x60 x61 (fun z0 z1 => k (.exit 0) (ef40L2of220 t62 t63 t64 t65 x16 z0 z1 x18 x19 x20 x21 x22 x23 x24 x25 x26 x27 x28 x29 x30 x31 x32 x33 x34 x35 x36 x37 x38 x39 x40 x41 x42 x43 x44 x45 x46 x47 x48 x49 x50 x51 x52 x53 x54 x55 x56 x57 x58 x59 x60 x61)) (fun z0 z1 z2 z3 => k (.exit 0) (ef40L2of221 t62 t63 t64 t65 x16 z0 z1 x18 x19 x20 x21 x22 x23 x24 x25 x26 x27 x28 x29 x30 x31 x32 x33 x34 x35 x36 x37 x38 x39 x40 x41 x43 x44 x46 x47 x48 x49 x50 z2 z3 x51 x52 x53 x54 x55 x56 x57 x58 x59 x60 x61)) (fun y0 => g (.inl y0)) (fun y0 y1 y2 => g (.inr (y0, y1, y2))) a.1 a.2.1 a.2.2)
      (fun g a => match a with
      | .inl a => by
        have e := f40L2of22v0_seg (fun R => f39 M) (fun R => f41 M) (fun R => f42 M) (fun R => f44 M) (fun R => f73 M) (LOr env M (tab22 M) spG) g k t62 t63 t64 t65 x16 x18 x19 x20 x21 x22 x23 x24 x25 x26 x27 x28 x29 x30 x31 x32 x33 x34 x35 x36 x37 x38 x39 x40 x41 x42 x43 x44 x45 x46 x47 x48 x49 x50 x51 x52 x53 x54 x55 x56 x57 x58 x59 x60 x61 a
        rw [LOs_eq (by simp)] at e
        exact e
      | .inr a => by
        have e := f40L2of22v1_seg (fun R => f39 M) (fun R => f41 M) (fun R => f42 M) (fun R => f44 M) (fun R => f73 M) (LOr env M (tab22 M) spG) g k t62 t63 t64 t65 x16 x18 x19 x20 x21 x22 x23 x24 x25 x26 x27 x28 x29 x30 x31 x32 x33 x34 x35 x36 x37 x38 x39 x40 x41 x42 x43 x44 x45 x46 x47 x48 x49 x50 x51 x52 x53 x54 x55 x56 x57 x58 x59 x60 x61 a.1 a.2.1 a.2.2
        rw [LOs_eq (by simp)] at e
        exact e) (.inl x17)
  · have h' : fillS _ l = some st := h
    simp only [smf40L2of22] at h'
    rw [h']
theorem f22L12_ok (hO : LoopsOnce env) (M : Nat) : SmOk (LOr env M (tab22 M) spG) (smf22L12 (fun R => f22L12S M) (LOr env M (tab22 M) spG)) := by
  intro R l st k h
  show (LOr env M (tab22 M) spG) R 40 22 12 st k = _
  unfold smf22L12
  simp only
  split
  · rename_i x164 x165 x166 x167 x168 x169 t199 x170 t200 x171 t201 x172 x173 x174 x175 x176 u0 x177 u1 x178 u2 x179 u3 x180 u4 x181 u5 x182 u6 x183 x184 x185 x186 x187 u7 x188 u8 x189 u9 x190 u10 x191 u11 x192 u12 x193 u13 x194 u14 x195 x196 u15 x197 u16 x198
    obtain rfl : _ = st := Option.some.inj h
    exact sm_rounds hO (cs := []) (c := (loopOf env 22 12).getD .skip) (by kernel_rfl) (by kernel_rfl) (by simp)
      (S := fun a : Int × (List Bool) => (qf22L120 t199 t200 t201 x164 a.1 x166 x167 x168 x169 x170 x171 x172 x173 x174 x175 x176 x177 x178 x179 x180 x181 x182 x183 x184 x185 x186 x187 x188 x189 x190 x191 x192 x193 x194 a.2 x196 x197 x198))
      (B := fun (g : Int × (List Bool) → Option R) (a : Int × (List Bool)) => f22L12 x164 x166 x167 x168 x169 x170 x171 x172 x173 x174 x175 x176 x177 x178 x179 x180 x181 x182 x183 x184 x185 x186 x187 x188 x189 x190 x191 x192 x193 x194 x196 x197 x198 (fun z0 z1 z2 => k (.exit 2) (ef22L120 t199 t200 t201 x164 z0 z1 x166 x167 x168 x169 x170 x171 x172 x173 x174 x175 x176 x177 x178 x179 x180 x181 x182 x183 x184 x185 x186 x187 x188 x189 x190 x191 x192 x193 x194 z2 x196 x197 x198)) (fun y0 y1 => g (y0, y1)) a.1 a.2)
      (fun g a => by
        have e := f22L12_seg (fun R => f39 M) (fun R => f41 M) (fun R => f42 M) (fun R => f44 M) (fun R => f73 M) (LOr env M (tab22 M) spG) g k t199 t200 t201 x164 x166 x167 x168 x169 x170 x171 x172 x173 x174 x175 x176 x177 x178 x179 x180 x181 x182 x183 x184 x185 x186 x187 x188 x189 x190 x191 x192 x193 x194 x196 x197 x198 a.1 a.2
        rw [LOs_eq (by simp)] at e
        exact e) (x165, x195)
  · have h' : fillS _ l = some st := h
    simp only [smf22L12] at h'
    rw [h']
theorem f22L6_ok (hO : LoopsOnce env) (M : Nat) : SmOk (LOr env M (tab22 M) spG) (smf22L6 (fun R => f22L6S M) (LOr env M (tab22 M) spG)) := by
  intro R l st k h
  show (LOr env M (tab22 M) spG) R 40 22 6 st k = _
  unfold smf22L6
  simp only
  split
  · rename_i x127 x128 x129 x130 x131 t158 x132 t159 x133 t160 x134 x135 x136 x137 x138 u0 x139 u1 x140 u2 x141 u3 x142 u4 x143 u5 x144 u6 x145 x146 x147 x148 x149 u7 x150 u8 x151 u9 x152 u10 x153 u11 x154 u12 x155 u13 x156 u14 x157
    obtain rfl : _ = st := Option.some.inj h
    exact sm_rounds hO (cs := []) (c := (loopOf env 22 6).getD .skip) (by kernel_rfl) (by kernel_rfl) (by simp)
      (S := fun a : Int × (List V) × (List Bool) => (qf22L60 t158 t159 t160 a.1 x128 x129 x130 x131 x132 x133 x134 x135 x136 x137 x138 x139 x140 x141 x142 x143 x144 x145 x146 x147 x148 x149 x150 x151 x152 x153 x154 x155 a.2.1 a.2.2))
      (B := fun (g : Int × (List V) × (List Bool) → Option R) (a : Int × (List V) × (List Bool)) => f22L6 (f42 M) (f22L12S M) x128 x129 x130 x131 x132 x133 x134 x135 x136 x137 x138 x139 x140 x141 x142 x143 x144 x145 x146 x147 x148 x149 x150 x151 x152 x153 x154 x155 (fun z0 z1 z2 z3 => k (.exit 0) (ef22L60 t158 t159 t160 z0 z1 x128 x129 x130 x131 x132 x133 x134 x135 x136 x137 x138 x139 x140 x141 x142 x143 x144 x145 x146 x147 x148 x149 x150 x151 x152 x153 x154 x155 z2 z3)) (fun y0 y1 y2 => g (y0, y1, y2)) a.1 a.2.1 a.2.2)
      (fun g a => by
        have e := f22L6_seg (fun R => f39 M) (fun R => f41 M) (fun R => f42 M) (fun R => f44 M) (fun R => f73 M) (fun R => f22L12S M) (LOr env M (tab22 M) spG) g k t158 t159 t160 x128 x129 x130 x131 x132 x133 x134 x135 x136 x137 x138 x139 x140 x141 x142 x143 x144 x145 x146 x147 x148 x149 x150 x151 x152 x153 x154 x155 a.1 a.2.1 a.2.2
        rw [LOs_eq (by
      intro s hs
      simp only [List.mem_cons, List.not_mem_nil, or_false] at hs
      rcases hs with rfl
      · exact f22L12_ok hO M)] at e
        exact e) (x127, x156, x157)
  · have h' : fillS _ l = some st := h
    simp only [smf22L6] at h'
    rw [h']
theorem good22 {P : Go.Program} (S : Sys P env spG) (M : Nat) (g39 : Good P env 39 (w39 (fun R => f39 M))) (g41 : Good P env 41 (w41 (fun R => f41 M))) (g42 : Good P env 42 (w42 (fun R => f42 M))) (g44 : Good P env 44 (w44 (fun R => f44 M))) (g73 : Good P env 73 (w73 (fun R => f73 M))) : Good P env 22 (w22 (fun R => f22 M)) := by
  have hO := S.once
  refine good_of S (M := M) (d := 40) (l := [(39, w39 (fun R => f39 M)), (41, w41 (fun R => f41 M)), (42, w42 (fun R => f42 M)), (44, w44 (fun R => f44 M)), (73, w73 (fun R => f73 M))]) (cs := []) (by
    intro p hp
    simp only [List.mem_cons, List.not_mem_nil, or_false] at hp
    rcases hp with rfl | rfl | rfl | rfl | rfl
    · exact g39
    · exact g41
    · exact g42
    · exact g44
    · exact g73) (by simp) fun xs => ?_
  by_cases hp : ∃ a1 a2 a3 a4 t5 a6 t7 a8 t9 a10, xs = [.agg [.int .u8 a1, .int .u8 a2, .int .u8 a3, .int .u8 a4, .ints t5 .u8 a6, .vals t7 155 a8, .vals t9 22 a10]]
  · obtain ⟨a1, a2, a3, a4, t5, a6, t7, a8, t9, a10, rfl⟩ := hp
    right
    intro R k
    have e := f22_seg (fun R => f39 M) (fun R => f41 M) (fun R => f42 M) (fun R => f44 M) (fun R => f73 M) (fun R => f40L2of22S M) (fun R => f22L6S M) (LOr env M (tab22 M) spG) k t5 t7 t9 a1 a2 a3 a4 a6 a8 a10
    rw [LOs_eq (by
      intro s hs
      simp only [List.mem_cons, List.not_mem_nil, or_false] at hs
      rcases hs with rfl | rfl
      · exact f40L2of22_ok hO M
      · exact f22L6_ok hO M)] at e
    exact e
  · left
    intro R k
    unfold w22
    split
    · exact absurd ⟨_, _, _, _, _, _, _, _, _, _, rfl⟩ hp
    · rfl
end Go.Vm.T3
