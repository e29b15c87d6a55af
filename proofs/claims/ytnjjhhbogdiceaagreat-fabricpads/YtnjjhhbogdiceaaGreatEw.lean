/-
  A part of the proof that FabricPads answers true at every input. No condition.
-/
import Derived.Test.YtnjjhhbogdiceaaGreatEx
set_option linter.unusedVariables false
set_option maxRecDepth 100000
namespace Go.Vm.T3
open Go Go.Vm
theorem good6 {P : Go.Program} (S : Sys P env spG) (M : Nat) (h21 : Good P env 21 (w21 (fun R => f21 200))) (h36 : Good P env 36 (w36 (fun R => f36 200))) (h25 : Good P env 25 (w25 (fun R => f25 200))) (h37 : Good P env 37 (w37 (fun R => f37 200))) (h16 : Good P env 16 (w16 (fun R => f16 200))) (h50 : Good P env 50 (w50 (fun R => f50 200))) (h70 : Good P env 70 (w70 (fun R => f70 200))) (h61 : Good P env 61 (w61 (fun R => f61 200))) (h63 : Good P env 63 (w63 (fun R => f63 200))) (h14 : Good P env 14 (w14 (fun R => f14 200))) (h62 : Good P env 62 (w62 (fun R => f62 200))) (h32 : Good P env 32 (w32 (fun R => f32 200))) : Good P env 6 (w6 fun R => f6 M) := by
  have ht : ∀ p ∈ exT, Good P env p.1 p.2 := by
    intro p hp
    unfold exT at hp
    simp only [List.mem_cons, List.not_mem_nil, or_false] at hp
    rcases hp with rfl | rfl | rfl | rfl | rfl | rfl | rfl | rfl | rfl | rfl | rfl
    · exact h36
    · exact h25
    · exact h37
    · exact h16
    · exact h50
    · exact h70
    · exact h61
    · exact h63
    · exact h14
    · exact h62
    · exact h32
  have c19 : Good P env 19 (wC exl19) := good_closed S ht ⟨_, rfl⟩ (by
    intro p hp
    unfold exl19 at hp
    simp only [List.mem_cons, List.not_mem_nil, or_false] at hp
    rcases hp with rfl | rfl
    · exact ex19_0
    · exact ex19_1)
  have c11 : Good P env 11 (wC exl11) := good_closed S ht ⟨_, rfl⟩ (by
    intro p hp
    unfold exl11 at hp
    simp only [List.mem_cons, List.not_mem_nil, or_false] at hp
    rcases hp with rfl | rfl
    · exact ex11_0
    · exact ex11_1)
  have c20 : Good P env 20 (wC exl20) := good_closed S ht ⟨_, rfl⟩ (by
    intro p hp
    unfold exl20 at hp
    simp only [List.mem_cons, List.not_mem_nil, or_false] at hp
    rcases hp with rfl | rfl
    · exact ex20_0
    · exact ex20_1)
  have c10 : Good P env 10 (wC exl10) := good_closed S ht ⟨_, rfl⟩ (by
    intro p hp
    unfold exl10 at hp
    simp only [List.mem_cons, List.not_mem_nil, or_false] at hp
    rcases hp with rfl | rfl
    · exact ex10_0
    · exact ex10_1)
  have c13 : Good P env 13 (wC exl13) := good_closed S ht ⟨_, rfl⟩ (by
    intro p hp
    unfold exl13 at hp
    simp only [List.mem_cons, List.not_mem_nil, or_false] at hp
    rcases hp with rfl | rfl
    · exact ex13_0
    · exact ex13_1)
  have c15 : Good P env 15 (wC exl15) := good_closed S ht ⟨_, rfl⟩ (by
    intro p hp
    unfold exl15 at hp
    simp only [List.mem_cons, List.not_mem_nil, or_false] at hp
    rcases hp with rfl
    · exact ex15_0)
  have ht6 : ∀ p ∈ exT6, Good P env p.1 p.2 := by
    intro p hp
    unfold exT6 at hp
    simp only [List.mem_cons, List.not_mem_nil, or_false] at hp
    rcases hp with rfl | rfl | rfl | rfl | rfl | rfl | rfl | rfl
    · exact c19
    · exact c11
    · exact c20
    · exact c10
    · exact c13
    · exact c15
    · exact h14
    · exact h21
  have h := good_closed S (f := 6) ht6 (l := [([], [.bool true])]) ⟨_, rfl⟩ (by
    intro p hp
    simp only [List.mem_cons, List.not_mem_nil, or_false] at hp
    subst hp
    exact ex6)
  intro R xs k r0 hr
  cases xs with
  | nil => exact h R [] k r0 hr
  | cons a l => cases hr
end Go.Vm.T3
