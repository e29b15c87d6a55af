/-
  A part of the proof that FabricPads answers true at every input. No condition.
-/
import Derived.Test.YtnjjhhbogdiceaaGreatP1
import Derived.Test.YtnjjhhbogdiceaaGreatYd
import Derived.Test.YtnjjhhbogdiceaaGreatYe
set_option linter.unusedVariables false
set_option linter.unusedSimpArgs false
set_option linter.unusedSectionVars false
section
namespace Go.Vm
theorem rounds_wp {R α : Type} {B : (α → Option R) → α → Option R} (Inv : α → Prop) (μ : α → Nat) (Q : Option R → Prop)
    (step : ∀ (G : α → Option R) a, Inv a → (∀ a', Inv a' → μ a' < μ a → Q (G a')) → Q (B G a)) : ∀ m a, Inv a → μ a ≤ m → Q (rounds B m a)
  | 0, a, h, hm => step _ a h (fun a' _ hl => by omega)
  | m + 1, a, h, hm => step _ a h (fun a' h' hl => rounds_wp Inv μ Q step m a' h' (by omega))
end Go.Vm
namespace Go.Vm.T3
open Go Go.Vm
section
variable {R : Type} (M : Nat) (Q : Option R → Prop)
theorem f44_wp {l : List Int} {x : Int} (hM : l.length ≤ M) (hn : l.length ≤ 100000) {kr : Int → Option R} (h : ∀ r, At l x r → Q (kr r)) : Q (f44 M l x kr) := by
  obtain ⟨r, e, hr⟩ := f44_eq M hM hn kr
  rw [e]; exact h r hr
end
def src (W H T P n : Int) : Prop := dK W H T P n = 1 ∨ dK W H T P n = 2 ∨ dK W H T P n = 6
structure RtS (W H T P : Int) (N F : List Int) : Prop where
  len : F.length = N.length
  le : N.length ≤ 16
  nodup : N.Nodup
  inr : ∀ x ∈ N, 0 ≤ x ∧ x < cnt W H T P
  step : ∀ i : Nat, i < N.length → i = 0 ∧ F.getD 0 0 = -1 ∧ src W H T P (N.getD 0 0) ∨ 0 < i ∧ 0 ≤ F.getD i 0 ∧ F.getD i 0 < i ∧ canN W H T P (N.getD (F.getD i 0).toNat 0) (N.getD i 0) = true
theorem getD_app {α : Type} {l : List α} {x d : α} {i : Nat} : (l ++ [x]).getD i d = if i < l.length then l.getD i d else if i = l.length then x else d := by
  simp only [List.getD_eq_getElem?_getD, List.getElem?_append]
  by_cases h : i < l.length
  · simp [h]
  · simp only [h, if_false]
    by_cases e : i = l.length
    · subst e; simp
    · have : i - l.length ≠ 0 := by omega
      simp [e, this]
theorem RtS.app {W H T P : Int} {N F : List Int} {x f : Int} (h : RtS W H T P N F) (hl : N.length < 16) (hx : 0 ≤ x ∧ x < cnt W H T P) (hn : x ∉ N)
    (hs : N.length = 0 ∧ f = -1 ∧ src W H T P x ∨ 0 < N.length ∧ 0 ≤ f ∧ f < N.length ∧ canN W H T P (N.getD f.toNat 0) x = true) : RtS W H T P (N ++ [x]) (F ++ [f]) := by
  refine ⟨by simp [h.len], by simp; omega, ?_, ?_, ?_⟩
  · rw [List.nodup_append]
    refine ⟨h.nodup, by simp, fun a ha b hb e => ?_⟩
    rw [List.mem_singleton] at hb; subst hb; subst e; exact hn ha
  · intro y hy
    rcases List.mem_append.1 hy with hy | hy
    · exact h.inr y hy
    · rw [List.mem_singleton] at hy; subst hy; exact hx
  · intro i hi
    rw [List.length_append, List.length_singleton] at hi
    have hlen := h.len
    by_cases hlt : i < N.length
    · rcases h.step i hlt with ⟨a, b, c⟩ | ⟨a, b, c, d⟩
      · left
        refine ⟨a, ?_, ?_⟩
        · rw [getD_app, if_pos (by omega)]; exact b
        · rw [getD_app, if_pos (by omega)]; exact c
      · right
        have e1 : (F ++ [f]).getD i 0 = F.getD i 0 := by rw [getD_app, if_pos (by omega)]
        have e2 : (N ++ [x]).getD i 0 = N.getD i 0 := by rw [getD_app, if_pos (by omega)]
        have e3 : (N ++ [x]).getD (F.getD i 0).toNat 0 = N.getD (F.getD i 0).toNat 0 := by rw [getD_app, if_pos (by omega)]
        rw [e1, e2, e3]; exact ⟨a, b, c, d⟩
    · have hi : i = N.length := by omega
      subst hi
      have e1 : (F ++ [f]).getD N.length 0 = f := by rw [← hlen, getD_app, if_neg (by omega), if_pos rfl]
      have e2 : (N ++ [x]).getD N.length 0 = x := by rw [getD_app, if_neg (by omega), if_pos rfl]
      rcases hs with ⟨a, b, c⟩ | ⟨a, b, c, d⟩
      · left
        rw [a] at e1 e2
        rw [e1, e2]; exact ⟨a, b, c⟩
      · right
        have e3 : (N ++ [x]).getD f.toNat 0 = N.getD f.toNat 0 := by rw [getD_app, if_pos (by omega)]
        rw [e1, e2, e3]; exact ⟨a, b, c, d⟩
section
variable {R : Type} {W H T P : Int} (g : GO W H T P) (M : Nat) (K : List Int) (Q : Option R → Prop)
include g
theorem f74_wp (hM : 400 ≤ M) {kr : List Int → Option R} (h : ∀ l, l ≠ [] → l.length ≤ 358 → (∀ x ∈ l, (0 ≤ x ∧ x < cnt W H T P) ∧ src W H T P x) → Q (kr l)) : Q (f74 M W H T P K kr) := by
  have hc := cnt_b g; have hb := g.b; have hp := g.p
  have hcn : W * H * (6 + 2 * T) < cnt W H T P := by unfold cnt; omega
  have h6 : dK W H T P (W * H * (6 + 2 * T)) = 6 := by unfold dK; rw [if_neg (by omega), if_pos (by omega)]
  unfold f74 f74T f74L3S
  refine rounds_wp (fun a => (0 ≤ a.1 ∧ a.1 ≤ cnt W H T P) ∧ (∀ x ∈ a.2, (0 ≤ x ∧ x < cnt W H T P) ∧ src W H T P x) ∧ (a.2.length : Int) ≤ a.1 ∧ (W * H * (6 + 2 * T) < a.1 → a.2 ≠ [])) (fun a => (cnt W H T P - a.1).toNat) Q ?_ M _ ⟨⟨by simp, by simp; omega⟩, by simp, by simp, fun hh => by simp at hh; omega⟩ (by simp; omega)
  rintro G ⟨j, l⟩ ⟨⟨h1, h1'⟩, h2, h3, h4⟩ ih
  simp only at h1 h1' h2 h3 h4 ih ⊢
  unfold f74L3
  rw [f41_eq g]
  simp only [c_lt]
  by_cases hj : j < cnt W H T P
  · rw [if_pos hj, f48_eq g M K (by omega) hj, addI_ok (by omega)]
    simp only [c_eq]
    have app : src W H T P j → Q (gd (okL (l ++ [j]).length) (G (j + 1, l ++ [j]))) := fun hs => by
      rw [g_okL (by simp; omega)]
      refine ih _ ⟨⟨by simp only; omega, by simp only; omega⟩, fun x hx => ?_, by simp; omega, by simp⟩ (by simp only; omega)
      rcases List.mem_append.1 hx with hx | hx
      · exact h2 x hx
      · rw [List.mem_singleton] at hx; subst hx; exact ⟨⟨h1, hj⟩, hs⟩
    by_cases k1 : dK W H T P j = 1
    · rw [if_pos k1]; exact app (.inl k1)
    · rw [if_neg k1]
      by_cases k2 : dK W H T P j = 2
      · rw [if_pos k2]; exact app (.inr (.inl k2))
      · rw [if_neg k2]
        by_cases k6 : dK W H T P j = 6
        · rw [if_pos k6]; exact app (.inr (.inr k6))
        · rw [if_neg k6]
          refine ih _ ⟨⟨by simp only; omega, by simp only; omega⟩, h2, by simp only; omega, fun hh => ?_⟩ (by simp only; omega)
          simp only at hh
          by_cases e : j = W * H * (6 + 2 * T)
          · rw [e] at k6; exact absurd h6 k6
          · exact h4 (by omega)
  · rw [if_neg hj]
    exact h l (h4 (by omega)) (by omega) h2
theorem f75_wp {b : Int} (hM : 400 ≤ M) (hb0 : 0 ≤ b) (hb1 : b < cnt W H T P) {kr : List Int → Option R} (h : ∀ l, l.length ≤ 358 → (∀ x ∈ l, (0 ≤ x ∧ x < cnt W H T P) ∧ canN W H T P b x = true) → Q (kr l)) : Q (f75 M W H T P K b kr) := by
  have hc := cnt_b g
  unfold f75 f75T f75L4S
  rw [f48_eq g M K hb0 hb1]
  refine rounds_wp (fun a => (0 ≤ a.1 ∧ a.1 ≤ cnt W H T P) ∧ (∀ x ∈ a.2, (0 ≤ x ∧ x < cnt W H T P) ∧ canN W H T P b x = true) ∧ (a.2.length : Int) ≤ a.1) (fun a => (cnt W H T P - a.1).toNat) Q ?_ M _ ⟨⟨by simp, by simp; omega⟩, by simp, by simp⟩ (by simp; omega)
  rintro G ⟨j, l⟩ ⟨⟨h1, h1'⟩, h2, h3⟩ ih
  simp only at h1 h1' h2 h3 ih ⊢
  unfold f75L4
  rw [f41_eq g]
  simp only [c_lt]
  by_cases hj : j < cnt W H T P
  · have hjb := d_b g (n := j) (by omega) (by omega)
    have hbb := d_b g hb0 hb1
    rw [if_pos hj]
    simp only [c_eq, if_true]
    rw [f48_eq g M K (by omega) hj, f77_eq M K (by have := g.w; omega) (by omega) (by omega) (by omega) (by omega), addI_ok (by omega)]
    show Q (bif canN W H T P b j then _ else _)
    cases hcan : canN W H T P b j with
    | true =>
      simp only [cond_true]
      rw [g_okL (by simp; omega)]
      refine ih _ ⟨⟨by simp only; omega, by simp only; omega⟩, fun x hx => ?_, by simp; omega⟩ (by simp only; omega)
      rcases List.mem_append.1 hx with hx | hx
      · exact h2 x hx
      · rw [List.mem_singleton] at hx; subst hx; exact ⟨⟨h1, hj⟩, hcan⟩
    | false =>
      simp only [cond_false]
      exact ih _ ⟨⟨by simp only; omega, by simp only; omega⟩, h2, by simp only; omega⟩ (by simp only; omega)
  · rw [if_neg hj]
    exact h l (by omega) h2
theorem f42_wp (hM : 1000 ≤ M) {used : List Bool} (hu : (used.length : Int) = cnt W H T P) {A : List Int} (h8 : ∀ x ∈ A, 0 ≤ x ∧ x ≤ 255) {kr : Int → List Int → List Int → Option R}
    (h : ∀ N F, RtS W H T P N F → (∀ x ∈ N, used.getD x.toNat false = false) → Q (kr 0 N F)) : Q (f42 M W H T P K used A kr) := by
  have hc := cnt_b g
  unfold f42 f42T
  refine f74_wp g M K Q (by omega) fun S hS0 hSl hS => ?_
  unfold f42L4S
  have hS0' : 0 < S.length := List.length_pos_iff.2 hS0
  refine rounds_wp (fun a => (0 ≤ a.1 ∧ a.1 ≤ 16) ∧ RtS W H T P a.2.1 a.2.2 ∧ (∀ x ∈ a.2.1, used.getD x.toNat false = false) ∧ (a.2.1.length : Int) ≤ a.1) (fun a => (16 - a.1).toNat) Q ?_ M _ ⟨⟨by simp, by simp⟩, ⟨rfl, by simp, by simp, by simp, by simp⟩, by simp, by simp⟩ (by simp; omega)
  rintro G ⟨j, N, F⟩ ⟨⟨h1, h1'⟩, h2, h3, h4⟩ ih
  simp only at h1 h1' h2 h3 h4 ih ⊢
  unfold f42L4
  simp only [c_lt, lenI, c_eq, c_not]
  by_cases hj : j < A.length
  · rw [if_pos hj]
    by_cases hj16 : j < 16
    · rw [if_pos hj16]
      have hAj := h8 (A.getD j.toNat 0) (by rw [List.getD_eq_getElem?_getD, List.getElem?_eq_getElem (by omega)]; exact List.getElem_mem _)
      revert hAj
      generalize A.getD j.toNat 0 = v
      intro hv
      have skip : Q (G (addI .i64 j 1, N, F)) := by
        rw [addI_ok (by omega)]
        exact ih _ ⟨⟨by simp only; omega, by simp only; omega⟩, h2, h3, by simp only; omega⟩ (by simp only; omega)
      have app : ∀ x f : Int, RtS W H T P (N ++ [x]) (F ++ [f]) → used.getD x.toNat false = false → Q (G (addI .i64 j 1, N ++ [x], F ++ [f])) := fun x f hr hx => by
        rw [addI_ok (by omega)]
        refine ih _ ⟨⟨by simp only; omega, by simp only; omega⟩, hr, fun y hy => ?_, by simp; omega⟩ (by simp only; omega)
        rcases List.mem_append.1 hy with hy | hy
        · exact h3 y hy
        · rw [List.mem_singleton] at hy; subst hy; exact hx
      have hlen := h2.len
      by_cases hN : (N.length : Int) = 0
      · rw [if_pos hN, g_inR (by omega), g_nz (by omega), convI_ok (by omega), remI_ok hv.1]
        have hr0 := Int.emod_nonneg v (show (S.length : Int) ≠ 0 by omega)
        have hr1 := Int.emod_lt_of_pos v (show 0 < (S.length : Int) by omega)
        rw [g_inR (by omega)]
        have hx := hS (S.getD (v % (S.length : Int)).toNat 0) (by rw [List.getD_eq_getElem?_getD, List.getElem?_eq_getElem (by omega)]; exact List.getElem_mem _)
        revert hx
        generalize S.getD (v % (S.length : Int)).toNat 0 = x
        intro hx
        rw [g_inR (by omega)]
        cases hux : used.getD x.toNat false with
        | true => exact skip
        | false =>
          simp only [cond_false]
          rw [g_okL (by simp; omega), g_okL (by simp; omega)]
          have hN0 : N = [] := List.length_eq_zero_iff.1 (by omega)
          exact app x (-1) (h2.app (by omega) hx.1 (by rw [hN0]; simp) (.inl ⟨by omega, rfl, hx.2⟩)) hux
      · have hr0 := Int.emod_nonneg (v / 64) (show (N.length : Int) ≠ 0 by omega)
        have hr1 := Int.emod_lt_of_pos (v / 64) (show 0 < (N.length : Int) by omega)
        have hq8 : quoI .u8 v 64 = v / 64 := by
          unfold quoI
          rw [Int.tdiv_eq_ediv_of_nonneg hv.1]
          unfold IntKind.wrap
          simp [IntKind.bits, IntKind.signed]
          omega
        rw [if_neg hN, g_inR (by omega), g_nz (by omega), hq8, convI_ok (by omega), remI_ok (by omega), subI_ok (a := (N.length : Int)) (b := 1) (by omega), subI_ok (by omega), g_inR (by omega)]
        have hm : N.getD ((N.length : Int) - 1 - v / 64 % N.length).toNat 0 ∈ N := by rw [List.getD_eq_getElem?_getD, List.getElem?_eq_getElem (by omega)]; exact List.getElem_mem _
        refine f75_wp g M K Q (by omega) (h2.inr _ hm).1 (h2.inr _ hm).2 fun D hDl hD => ?_
        by_cases hD0 : (D.length : Int) = 0
        · rw [if_pos hD0]; exact skip
        · have hs0 := Int.emod_nonneg (v % 64) (show (D.length : Int) ≠ 0 by omega)
          have hs1 := Int.emod_lt_of_pos (v % 64) (show 0 < (D.length : Int) by omega)
          rw [if_neg hD0, g_inR (by omega), g_nz (by omega), remI_ok hv.1, convI_ok (by omega), remI_ok (by omega), g_inR (by omega)]
          have hx := hD (D.getD (v % 64 % (D.length : Int)).toNat 0) (by rw [List.getD_eq_getElem?_getD, List.getElem?_eq_getElem (by omega)]; exact List.getElem_mem _)
          revert hx
          generalize D.getD (v % 64 % (D.length : Int)).toNat 0 = x
          intro hx
          rw [g_inR (by omega)]
          cases hux : used.getD x.toNat false with
          | true => exact skip
          | false =>
            simp only [cond_false]
            refine f44_wp M Q (by have := h2.le; omega) (by have := h2.le; omega) fun r hr => ?_
            by_cases hr0 : r < 0
            · rw [if_pos hr0, g_okL (by simp; omega), g_okL (by simp; omega)]
              exact app _ _ (h2.app (by omega) hx.1 (hr.neg.1 hr0) (.inr ⟨by omega, by omega, by omega, hx.2⟩)) hux
            · rw [if_neg hr0]; exact skip
    · rw [if_neg hj16]
      exact h N F h2 h3
  · rw [if_neg hj]
    exact h N F h2 h3
end
end Go.Vm.T3
end
section
namespace Go.Vm.T3
open Go Go.Vm
structure BsOk (W H : Int) (K : List Int) (B : List V) (A : List Int) : Prop where
  len : B.length = A.length
  le : A.length ≤ 12
  nodup : A.Nodup
  blk : ∀ i : Nat, i < A.length → ∃ tb ram reg, B.getD i .undef = V.agg [.ints .frz .i64 [], .int .i64 tb, .int .i64 ram, .int .i64 reg, .int .u64 0] ∧ BkOk W H K tb ram reg (A.getD i 0)
def rV (r : Int × List Int × List Int) : V := V.agg [.int .i64 r.1, .ints .frz .i64 r.2.1, .ints .frz .i64 r.2.2]
structure RsOk (W H T P : Int) (rs : List (Int × List Int × List Int)) : Prop where
  le : rs.length ≤ 5
  each : ∀ r ∈ rs, r.2.1 ≠ [] ∧ RtS W H T P r.2.1 r.2.2
  apart : rs.Pairwise fun r r' => ∀ x ∈ r.2.1, x ∉ r'.2.1
theorem BsOk.app {W H : Int} {K : List Int} {B : List V} {A : List Int} {tb ram reg t : Int} (h : BsOk W H K B A) (hl : A.length < 12) (hn : t ∉ A) (hb : BkOk W H K tb ram reg t) :
    BsOk W H K (B ++ [V.agg [.ints .frz .i64 [], .int .i64 tb, .int .i64 ram, .int .i64 reg, .int .u64 0]]) (A ++ [t]) := by
  have hlen := h.len
  refine ⟨by simp [hlen], by simp; omega, ?_, fun i hi => ?_⟩
  · rw [List.nodup_append]
    refine ⟨h.nodup, by simp, fun a ha b hb e => ?_⟩
    rw [List.mem_singleton] at hb; subst hb; subst e; exact hn ha
  · rw [List.length_append, List.length_singleton] at hi
    by_cases hlt : i < A.length
    · rw [getD_app, if_pos (by omega), getD_app, if_pos hlt]; exact h.blk i hlt
    · rw [getD_app, if_neg (by omega), if_pos (by omega), getD_app, if_neg hlt, if_pos (by omega)]
      exact ⟨tb, ram, reg, rfl, hb⟩
theorem getD_set {α : Type} {l : List α} {x d : α} {k i : Nat} : (l.set k x).getD i d = if k = i ∧ i < l.length then x else l.getD i d := by
  simp only [List.getD_eq_getElem?_getD, List.getElem?_set]
  by_cases e : k = i
  · subst e
    by_cases h : k < l.length
    · simp [h]
    · simp [h]
  · simp [e]
section
variable {R : Type} {W H T P : Int} (g : GO W H T P) (M : Nat) (K : List Int) (Q : Option R → Prop)
include g
theorem try_wp (hM : 1000 ≤ M) (hK : KOk W H K) {B : List V} {A : List Int} (hB : BsOk W H K B A) (hl : A.length < 12) {tb ram reg t : Int} {l : List Int} {o : Int} {X s : Option R} (hs : Q s)
    (hp : BsOk W H K (B ++ [V.agg [.ints .frz .i64 [], .int .i64 tb, .int .i64 ram, .int .i64 reg, .int .u64 0]]) (A ++ [t]) → Q X) :
    Q (f44 M A t fun y66 => bif ltI y66 0 then f73 M W H T P K l tb ram reg o t (fun y67 => bif y67 then gd (okL (B ++ [V.agg [.ints .frz .i64 [], .int .i64 tb, .int .i64 ram, .int .i64 reg, .int .u64 0]]).length) <| gd (okL (A ++ [t]).length) <| X else s) else s) := by
  refine f44_wp M Q (by omega) (by omega) fun r hr => ?_
  rw [c_lt]
  by_cases h0 : r < 0
  · rw [if_pos h0]
    obtain ⟨b, e, hb⟩ := f73_eq (R := R) g M K hK (l := l) (tb := tb) (ram := ram) (reg := reg) (o := o) (t := t) (fun _ => none)
    rw [e]
    cases b with
    | false => exact hs
    | true =>
      simp only [cond_true]
      rw [g_okL (by simp [hB.len]; omega), g_okL (by simp; omega)]
      exact hp (hB.app hl (hr.neg.1 h0) (hb.1 rfl))
  · rw [if_neg h0]; exact hs
theorem f22L12_wp {N : List Int} {U0 : List Bool} (hN : N.length ≤ 16) (hr : ∀ x ∈ N, 0 ≤ x ∧ x < cnt W H T P) (hU : (U0.length : Int) = cnt W H T P) (hM : 100 ≤ M)
    {x164 x166 x167 x168 x169 : Int} {x170 : List Int} {x171 x172 : List V} {x173 x174 x175 x176 : Int} {x177 : List Int} {x178 x179 x180 : List V} {x181 x182 : List Int} {x183 : List V} {x184 x185 x186 x187 : Int} {x188 : List Int} {x189 x190 x191 : List V} {x192 x193 : List Int} {x194 : List V} {x196 : Int} {x198 : List Int}
    {k0 : Int → Bool → List Bool → Option R}
    (h : ∀ z b U, (U.length : Int) = cnt W H T P → (∀ x, U0.getD x false = true → U.getD x false = true) → (∀ x ∈ N, U.getD x.toNat false = true) → Q (k0 z b U)) :
    Q (f22L12S M x164 x166 x167 x168 x169 x170 x171 x172 x173 x174 x175 x176 x177 x178 x179 x180 x181 x182 x183 x184 x185 x186 x187 x188 x189 x190 x191 x192 x193 x194 x196 N x198 0 U0 k0) := by
  unfold f22L12S
  refine rounds_wp (fun (a : Int × List Bool) => (0 ≤ a.1 ∧ a.1 ≤ (N.length : Int)) ∧ (a.2.length : Int) = cnt W H T P ∧ (∀ x, U0.getD x false = true → a.2.getD x false = true) ∧ ∀ j : Nat, (j : Int) < a.1 → a.2.getD (N.getD j 0).toNat false = true) (fun (a : Int × List Bool) => ((N.length : Int) - a.1).toNat) Q ?_ M _ ⟨⟨by simp, by simp⟩, hU, fun _ h => h, fun j hj => by simp at hj; omega⟩ (by simp; omega)
  rintro G ⟨j, U⟩ ⟨⟨h1, h1'⟩, h2, h3, h4⟩ ih
  simp only at h1 h1' h2 h3 h4 ih ⊢
  unfold f22L12
  simp only [c_lt, lenI]
  by_cases hj : j < N.length
  · rw [if_pos hj, g_inR (by omega)]
    have hx := hr (N.getD j.toNat 0) (by rw [List.getD_eq_getElem?_getD, List.getElem?_eq_getElem (by omega)]; exact List.getElem_mem _)
    rw [g_inR (by omega), addI_ok (by omega)]
    refine ih _ ⟨⟨by simp only; omega, by simp only; omega⟩, by simp [h2], fun x hx => ?_, fun i hi => ?_⟩ (by simp only; omega)
    · simp only; rw [getD_set]; split
      · rfl
      · exact h3 x hx
    · simp only at hi ⊢; rw [getD_set]; split
      · rfl
      · rename_i hc
        by_cases e : (i : Int) = j
        · exfalso; apply hc
          have : i = j.toNat := by omega
          subst this
          exact ⟨rfl, by omega⟩
        · exact h4 i (by omega)
  · rw [if_neg hj]
    refine h _ _ _ h2 h3 fun x hx => ?_
    obtain ⟨i, hi, rfl⟩ := List.mem_iff_getElem.1 hx
    have := h4 i (by omega)
    have e : N.getD i 0 = N[i] := by rw [List.getD_eq_getElem?_getD, List.getElem?_eq_getElem hi]; rfl
    rwa [e] at this
theorem f22L6_wp (hM : 2000 ≤ M) {rts : List V} (h8 : ∀ r ∈ rts, ∀ x ∈ V.toInts (V.cell r 0), 0 ≤ x ∧ x ≤ 255) {U0 : List Bool} (hU : (U0.length : Int) = cnt W H T P)
    {x128 x129 x130 x131 : Int} {x132 : List Int} {x133 : List V} {x135 x136 x137 x138 : Int} {x139 : List Int} {x140 x141 x142 : List V} {x143 x144 : List Int} {x145 : List V} {x151 x152 x153 : List V} {x154 x155 : List Int}
    {k0 : Int → Bool → List V → List Bool → Option R} (h : ∀ z b rs U, RsOk W H T P rs → Q (k0 z b (rs.map rV) U)) :
    Q (f22L6S M x128 x129 x130 x131 x132 x133 rts x135 x136 x137 x138 x139 x140 x141 x142 x143 x144 x145 W H T P K x151 x152 x153 x154 x155 0 [] U0 k0) := by
  unfold f22L6S
  refine rounds_wp (fun a => (0 ≤ a.1 ∧ a.1 ≤ 5) ∧ (a.2.2.length : Int) = cnt W H T P ∧ ∃ rs : List (Int × List Int × List Int), a.2.1 = rs.map rV ∧ (rs.length : Int) ≤ a.1 ∧ (∀ r ∈ rs, (r.2.1 ≠ [] ∧ RtS W H T P r.2.1 r.2.2) ∧ ∀ x ∈ r.2.1, a.2.2.getD x.toNat false = true) ∧ rs.Pairwise fun r r' => ∀ x ∈ r.2.1, x ∉ r'.2.1) (fun a => (5 - a.1).toNat) Q ?_ M _ ⟨⟨by simp, by simp⟩, hU, [], rfl, by simp, by simp, by simp⟩ (by simp; omega)
  rintro G ⟨j, Rs, U⟩ ⟨⟨h1, h1'⟩, h2, rs, h3, h4, h5, h6⟩ ih
  simp only at h1 h1' h2 h3 h4 h5 ih ⊢
  subst h3
  have fin : RsOk W H T P rs := ⟨by omega, fun r hr => (h5 r hr).1, h6⟩
  unfold f22L6
  simp only [c_lt, lenI, c_eq]
  by_cases hj : j < rts.length
  · rw [if_pos hj]
    by_cases hj5 : j < 5
    · rw [if_pos hj5, g_inR (by omega)]
      have hm := h8 (rts.getD j.toNat .undef) (by rw [List.getD_eq_getElem?_getD, List.getElem?_eq_getElem (by omega)]; exact List.getElem_mem _)
      refine f42_wp g M K Q (by omega) h2 hm fun N F hNF hu => ?_
      rw [addI_ok (by omega)]
      by_cases hN : (N.length : Int) = 0
      · rw [if_pos hN]
        exact ih _ ⟨⟨by simp only; omega, by simp only; omega⟩, h2, rs, rfl, by simp only; omega, h5, h6⟩ (by simp only; omega)
      · rw [if_neg hN]
        refine f22L12_wp g M Q hNF.le hNF.inr h2 (by omega) fun z b U' hU' hmono hmark => ?_
        rw [g_okL (by simp; omega)]
        refine ih _ ⟨⟨by simp only; omega, by simp only; omega⟩, hU', rs ++ [(j, N, F)], by simp [rV], by simp; omega, fun r hr => ?_, ?_⟩ (by simp only; omega)
        · rcases List.mem_append.1 hr with hr | hr
          · exact ⟨(h5 r hr).1, fun x hx => hmono _ ((h5 r hr).2 x hx)⟩
          · rw [List.mem_singleton] at hr; subst hr
            exact ⟨⟨fun e => hN (by simp only at e; rw [e]; rfl), hNF⟩, hmark⟩
        · rw [List.pairwise_append]
          refine ⟨h6, by simp, fun r hr r' hr' x hx hx' => ?_⟩
          rw [List.mem_singleton] at hr'; subst hr'
          have := (h5 r hr).2 x hx
          rw [hu x hx'] at this
          exact Bool.noConfusion this
    · rw [if_neg hj5]; exact h _ _ _ _ fin
  · rw [if_neg hj]; exact h _ _ _ _ fin
theorem f40_wp (hP : P = 4) (hM : 2000 ≤ M) (hK : KOk W H K) {bks : List V}
    {x18 x19 x20 x21 : Int} {x22 : List Int} {x23 x24 : List V} {x25 x26 x27 x28 : Int} {x29 : List Int} {x30 x31 x32 : List V} {x33 x34 : List Int} {x35 : List V} {x37 x38 x39 x40 : Int} {x41 x43 : List V} {x44 : List Int} {x46 : List V} {x51 x52 x53 x54 : Int} {x55 : List Int} {x56 x57 x58 : List V} {x59 x60 : List Int} {x61 : List V}
    {k0 : Int → Bool → Option R} {k1 : Int → Bool → List V → List Int → Option R} (h0 : ∀ z b, Q (k0 z b)) (h1 : ∀ z b B A, BsOk W H K B A → Q (k1 z b B A)) :
    Q (f40L2of22S M bks x18 x19 x20 x21 x22 x23 x24 x25 x26 x27 x28 x29 x30 x31 x32 x33 x34 x35 K x37 x38 x39 x40 x41 [] x43 x44 [] x46 W H T P x51 x52 x53 x54 x55 x56 x57 x58 x59 x60 x61 0 k0 k1) := by
  have hb := g.b
  unfold f40L2of22S
  refine rounds_wp (fun a => match a with | .inl i => 0 ≤ i ∧ i ≤ 12 | .inr (i, B, A) => (0 ≤ i ∧ i ≤ 12) ∧ (A.length : Int) ≤ i ∧ BsOk W H K B A) (fun a => match a with | .inl i => (12 - i).toNat | .inr (i, B, A) => (12 - i).toNat) Q ?_ M _ (by simp) (by simp; omega)
  have hnil : BsOk W H K [] [] := ⟨rfl, by simp, by simp, by simp⟩
  rintro G (j | ⟨j, B, A⟩) hi ih
  · simp only at hi ⊢
    have skip : j < 12 → Q (G (.inl (addI .i64 j 1))) := fun hj => by
      rw [addI_ok (by omega)]
      exact ih (.inl (j + 1)) ⟨by omega, by omega⟩ (by simp only; omega)
    have push : ∀ B A, j < 12 → BsOk W H K B A → A.length = 1 → Q (G (.inr (addI .i64 j 1, B, A))) := fun B A hj hB hA => by
      rw [addI_ok (by omega)]
      exact ih (.inr (j + 1, B, A)) ⟨⟨by omega, by omega⟩, by omega, hB⟩ (by simp only; omega)
    unfold f40L2of22v0
    simp only [c_lt (a := j), lenI, c_eq]
    by_cases hj : j < bks.length
    · rw [if_pos hj]
      by_cases hj12 : j < 12
      · rw [if_pos hj12]
        have hi1 : ∀ x : Option R, gd (inR j bks.length) x = x := fun x => g_inR (by omega)
        simp only [hi1]
        rw [mulI_ok (by omega), g_nz (by omega)]
        generalize V.toInt (V.cell (List.getD bks j.toNat .undef) 0) = v0
        generalize V.toInt (V.cell (List.getD bks j.toNat .undef) 1) = v1
        generalize V.toInt (V.cell (List.getD bks j.toNat .undef) 2) = v2
        by_cases r1 : remI v1 3 = 1
        · rw [if_pos r1]
          exact try_wp g M K Q (by omega) hK hnil (by simp) (skip hj12) (fun hB => push _ _ hj12 hB (by simp))
        · rw [if_neg r1]
          by_cases r2 : remI v1 3 = 2
          · rw [if_pos r2]
            exact try_wp g M K Q (by omega) hK hnil (by simp) (skip hj12) (fun hB => push _ _ hj12 hB (by simp))
          · rw [if_neg r2]
            exact try_wp g M K Q (by omega) hK hnil (by simp) (skip hj12) (fun hB => push _ _ hj12 hB (by simp))
      · rw [if_neg hj12]; exact h0 _ _
    · rw [if_neg hj]; exact h0 _ _
  · obtain ⟨hi, hA, hB⟩ := hi
    simp only
    have push : ∀ B' A', j < 12 → BsOk W H K B' A' → A'.length ≤ A.length + 1 → Q (G (.inr (addI .i64 j 1, B', A'))) := fun B' A' hj hB hA => by
      rw [addI_ok (by omega)]
      exact ih (.inr (j + 1, B', A')) ⟨⟨by omega, by omega⟩, by omega, hB⟩ (by simp only; omega)
    unfold f40L2of22v1
    simp only [c_lt (a := j), lenI, c_eq]
    by_cases hj : j < bks.length
    · rw [if_pos hj]
      by_cases hj12 : j < 12
      · rw [if_pos hj12]
        have hi1 : ∀ x : Option R, gd (inR j bks.length) x = x := fun x => g_inR (by omega)
        simp only [hi1]
        rw [mulI_ok (by omega), g_nz (by omega)]
        generalize V.toInt (V.cell (List.getD bks j.toNat .undef) 0) = v0
        generalize V.toInt (V.cell (List.getD bks j.toNat .undef) 1) = v1
        generalize V.toInt (V.cell (List.getD bks j.toNat .undef) 2) = v2
        by_cases r1 : remI v1 3 = 1
        · rw [if_pos r1]
          exact try_wp g M K Q (by omega) hK hB (by omega) (push _ _ hj12 hB (by omega)) (fun hB => push _ _ hj12 hB (by simp))
        · rw [if_neg r1]
          by_cases r2 : remI v1 3 = 2
          · rw [if_pos r2]
            exact try_wp g M K Q (by omega) hK hB (by omega) (push _ _ hj12 hB (by omega)) (fun hB => push _ _ hj12 hB (by simp))
          · rw [if_neg r2]
            exact try_wp g M K Q (by omega) hK hB (by omega) (push _ _ hj12 hB (by omega)) (fun hB => push _ _ hj12 hB (by simp))
      · rw [if_neg hj12]; exact h1 _ _ _ _ hB
    · rw [if_neg hj]; exact h1 _ _ _ _ hB
end
section
variable {R : Type} (M : Nat) (Q : Option R → Prop)
theorem f22_wp (hM : 2000 ≤ M) {a1 a2 a3 a4 : Int} {l : List Int} {bks rts : List V} (h1 : 0 ≤ a1 ∧ a1 ≤ 255) (h2 : 0 ≤ a2 ∧ a2 ≤ 255) (h3 : 0 ≤ a3 ∧ a3 ≤ 255) (hl : ∀ x ∈ l, 0 ≤ x ∧ x ≤ 255) (h8 : ∀ r ∈ rts, ∀ x ∈ V.toInts (V.cell r 0), 0 ≤ x ∧ x ≤ 255)
    {kr : Int → Int → Int → Int → List Int → List V → List V → List V → List Int → List Int → List V → Option R}
    (h : ∀ W H T K B A rs, GO W H T 4 → KOk W H K → BsOk W H K B A → RsOk W H T 4 rs → Q (kr W H T 4 K [] B [] [] A (rs.map rV))) : Q (f22 M a1 a2 a3 a4 l bks rts kr) := by
  unfold f22 f22T
  obtain ⟨W, H, T, K, g, hK, e⟩ := f39_eq (R := R) M (a4 := a4) (by omega) h1 h2 h3 hl fun y11 y12 y13 y14 y15 =>
    f40L2of22S M bks a1 a2 a3 a4 l bks rts 0 0 0 0 [] [] [] [] [] [] [] y15 y11 y12 y13 4 [] [] [] [] [] [] y11 y12 y13 4 0 0 0 0 [] [] [] [] [] [] [] 0 (fun z124 z125 =>
   f41 M y11 y12 y13 4 y15 (fun y126 =>
    gd (inS 0 y126 lim) <|
    f22L6S M a1 a2 a3 a4 l bks rts 0 0 0 0 [] [] [] [] [] [] [] y11 y12 y13 4 y15 [] [] [] [] [] 0 [] (List.replicate (Int.toNat y126) false) (fun z205 z206 z207 z208 =>
     kr y11 y12 y13 4 y15 [] [] [] [] [] z207))) (fun z209 z210 z211 z212 =>
   f41 M y11 y12 y13 4 y15 (fun y213 =>
    gd (inS 0 y213 lim) <|
    f22L6S M a1 a2 a3 a4 l bks rts 0 0 0 0 [] [] [] [] [] [] [] y11 y12 y13 4 y15 [] z211 [] [] z212 0 [] (List.replicate (Int.toNat y213) false) (fun z214 z215 z216 z217 =>
     kr y11 y12 y13 4 y15 [] z211 [] [] z212 z216)))
  rw [e]
  have hc := cnt_b g
  have hlim : lim = 4294967296 := rfl
  refine f40_wp g M K Q rfl hM hK (fun z b => ?_) (fun z b B A hB => ?_)
  · rw [f41_eq g, g_inS (by omega)]
    exact f22L6_wp g M K Q hM h8 (by simp; omega) fun z b rs U hrs => h _ _ _ _ _ _ _ g hK ⟨rfl, by simp, by simp, by simp⟩ hrs
  · rw [f41_eq g, g_inS (by omega)]
    exact f22L6_wp g M K Q hM h8 (by simp; omega) fun z b rs U hrs => h _ _ _ _ _ _ _ g hK hB hrs
end
end Go.Vm.T3
end
section
namespace Go.Vm.T3
open Go Go.Vm
theorem getD_mem {l : List Int} {i : Nat} (h : i < l.length) : l.getD i 0 ∈ l := by
  rw [List.getD_eq_getElem?_getD, List.getElem?_eq_getElem h]; exact List.getElem_mem _
theorem getD_inj {l : List Int} (hn : l.Nodup) {i j : Nat} (hi : i < l.length) (hj : j < l.length) (e : l.getD i 0 = l.getD j 0) : i = j := by
  rw [getD_lt hi, getD_lt hj] at e
  rcases Nat.lt_trichotomy i j with h | h | h
  · exact absurd e (List.pairwise_iff_getElem.1 hn i j hi hj h)
  · exact h
  · exact absurd e.symm (List.pairwise_iff_getElem.1 hn j i hj hi h)
theorem rV_get {rs : List (Int × List Int × List Int)} {i : Nat} (h : i < rs.length) : (rs.map rV).getD i .undef = rV rs[i] := by
  rw [List.getD_eq_getElem?_getD, List.getElem?_map, List.getElem?_eq_getElem h]; rfl
theorem rV0 (r : Int × List Int × List Int) : V.toInt (V.cell (rV r) 0) = r.1 := rfl
theorem rV1 (r : Int × List Int × List Int) : V.toInts (V.cell (rV r) 1) = r.2.1 := rfl
theorem rV2 (r : Int × List Int × List Int) : V.toInts (V.cell (rV r) 2) = r.2.2 := rfl
section
variable {R : Type} {W H T P : Int} (g : GO W H T P) (M : Nat) (K : List Int) (Q : Option R → Prop)
include g
theorem src_none {b : Int} (hb0 : 0 ≤ b) (hb1 : b < cnt W H T P) (h : src W H T P b) : refD W H T P b = [] := by
  rw [List.eq_nil_iff_forall_not_mem]
  intro x hx
  obtain ⟨⟨h0, h1⟩, hc⟩ := mem_refD.1 hx
  unfold canN at hc
  exact drv0 g (d_valid g h0 h1) h (by simpa using hc)
theorem f76_wp (hM : 1000 ≤ M) {s : Int} {N F : List Int} (h : RtS W H T P N F) (hN : N ≠ []) {kr : Bool → Option R} (hq : Q (kr true)) : Q (f76 M W H T P K s N F kr) := by
  have hl : 0 < N.length := List.length_pos_iff.2 hN
  have hlen := h.len
  have hle := h.le
  have h0 := h.inr _ (getD_mem hl)
  have hF0 : F.getD 0 0 = -1 ∧ src W H T P (N.getD 0 0) := by
    rcases h.step 0 hl with ⟨_, a, b⟩ | ⟨a, _⟩
    · exact ⟨a, b⟩
    · omega
  unfold f76 f76T f76L7S
  simp only [c_eq, c_ne, c_lt, lenI]
  rw [if_neg (by omega), if_pos (by omega), g_inR (by omega), if_pos hF0.1, g_inR (by omega), f48_eq g M K h0.1 h0.2, if_pos rfl, g_inR (by omega), f46_eq g M K (by omega) h0.1 h0.2, src_none g h0.1 h0.2 hF0.2, if_neg (by simp)]
  refine rounds_wp (fun (a : Int) => 1 ≤ a ∧ a ≤ (N.length : Int)) (fun (a : Int) => ((N.length : Int) - a).toNat) Q ?_ M _ ⟨by omega, by omega⟩ (by omega)
  intro G j hj ih
  unfold f76L7
  simp only [c_lt, c_le, lenI]
  by_cases hjl : j < N.length
  · have hjn := h.inr _ (getD_mem (show j.toNat < N.length by omega))
    rcases h.step j.toNat (by omega) with ⟨a, _⟩ | ⟨_, b1, b2, b3⟩
    · omega
    rw [if_pos hjl, g_inR (by omega), if_neg (by omega), g_inR (by omega), if_neg (by omega), g_inR (by omega), f45_eq g M K (by omega) hjn.1 hjn.2, g_inR (by omega), g_inR (by omega)]
    have hp := refD_len g (N.getD j.toNat 0)
    have hpn := h.inr _ (getD_mem (show (F.getD j.toNat 0).toNat < N.length by omega))
    refine f44_wp M Q (by omega) (by omega) fun r hr => ?_
    rw [if_neg, addI_ok (by omega)]
    · exact ih _ ⟨by omega, by omega⟩ (by omega)
    · rw [hr.neg]
      exact fun hh => hh (mem_refD.2 ⟨hpn, b3⟩)
  · rw [if_neg hjl]; exact hq
theorem f43L15_wp (hM : 1000 ≤ M) {rs : List (Int × List Int × List Int)} {i : Nat} (hi : i < rs.length) (h : RtS W H T P rs[i].2.1 rs[i].2.2) {U0 : List Bool} (hU : (U0.length : Int) = cnt W H T P) (hf : ∀ x ∈ rs[i].2.1, U0.getD x.toNat false = false)
    {x62 x63 x64 x65 : Int} {x66 x67 : List Int} {k0 : Bool → Int → Bool → Bool → List Bool → Option R} {k1 : Int → Bool → List Bool → Option R}
    (hq : ∀ z b U, (U.length : Int) = cnt W H T P → (∀ x : Nat, (x : Int) ∉ rs[i].2.1 → U.getD x false = U0.getD x false) → Q (k1 z b U)) :
    Q (f43L15S M (i : Int) x62 x63 x64 x65 x66 x67 (rs.map rV) 0 U0 k0 k1) := by
  generalize hN : rs[i].2.1 = N at h hf hq
  have hcell : V.toInts (V.cell (List.getD (rs.map rV) (Int.toNat (i : Int)) .undef) 1) = N := by
    rw [show Int.toNat (i : Int) = i from rfl, rV_get hi, rV1, hN]
  have hle := h.le
  unfold f43L15S
  refine rounds_wp (fun (a : Int × List Bool) => (0 ≤ a.1 ∧ a.1 ≤ (N.length : Int)) ∧ (a.2.length : Int) = cnt W H T P ∧ ∀ x : Nat, (∀ t : Nat, (t : Int) < a.1 → (N.getD t 0).toNat ≠ x) → a.2.getD x false = U0.getD x false) (fun (a : Int × List Bool) => ((N.length : Int) - a.1).toNat) Q ?_ M _ ⟨⟨by simp, by simp⟩, hU, fun _ _ => rfl⟩ (by simp; omega)
  rintro G ⟨j, U⟩ ⟨⟨h1, h1'⟩, h2, h3⟩ ih
  simp only at h1 h1' h2 h3 ih ⊢
  unfold f43L15
  simp only [hcell, c_lt, lenI]
  rw [g_inR (by simp; omega)]
  by_cases hj : j < N.length
  · have hx := h.inr _ (getD_mem (show j.toNat < N.length by omega))
    have hux : U.getD (N.getD j.toNat 0).toNat false = false := by
      rw [h3]
      · exact hf _ (getD_mem (by omega))
      · intro t ht e
        have hxt := h.inr _ (getD_mem (show t < N.length by omega))
        have := getD_inj h.nodup (show t < N.length by omega) (show j.toNat < N.length by omega) (by omega)
        omega
    rw [if_pos hj, g_inR (by simp; omega), g_inR (by omega), g_inR (by omega), hux]
    simp only [cond_false]
    rw [g_inR (by simp; omega), g_inR (by omega), g_inR (by omega), addI_ok (by omega)]
    refine ih _ ⟨⟨by simp only; omega, by simp only; omega⟩, by simp [h2], fun x hx => ?_⟩ (by simp only; omega)
    simp only at hx ⊢
    rw [getD_set, if_neg]
    · exact h3 x fun t ht => hx t (by omega)
    · rintro ⟨e, _⟩
      exact hx j.toNat (by omega) e
  · rw [if_neg hj]
    refine hq _ _ _ h2 fun x hx => h3 x fun t ht e => hx ?_
    have hxt := h.inr _ (getD_mem (show t < N.length by omega))
    have : (x : Int) = N.getD t 0 := by omega
    rw [this]
    exact getD_mem (by omega)
theorem f43_wp (hM : 1000 ≤ M) (hK : KOk W H K) {B : List V} {A : List Int} (hB : BsOk W H K B A) {rs : List (Int × List Int × List Int)} (hrs : RsOk W H T P rs) {a2 a6 : List V} {a8 : List Int} {kr : Bool → Option R} (hq : Q (kr true)) :
    Q (f43 M a2 B a6 a8 W H T P K A (rs.map rV) kr) := by
  have hlen := hB.len; have hle := hB.le; have hrl := hrs.le; have hc := cnt_b g
  have hlim : lim = 4294967296 := rfl
  unfold f43 f43T f43L4S
  simp only [c_ne, lenI]
  rw [if_pos (by omega)]
  refine rounds_wp (fun (a : Int) => 0 ≤ a ∧ a ≤ (A.length : Int)) (fun (a : Int) => ((A.length : Int) - a).toNat) Q ?_ M _ ⟨by omega, by omega⟩ (by omega)
  intro G j hj ih
  unfold f43L4
  simp only [c_lt, c_le, c_not, lenI]
  by_cases hjl : j < A.length
  · rw [if_pos hjl, g_inR (by omega), g_inR (by omega)]
    obtain ⟨tb, ram, reg, e, hb⟩ := hB.blk j.toNat (by omega)
    rw [e]
    obtain ⟨b, eb, hbb⟩ := f73_eq (R := R) g M K hK (l := []) (tb := tb) (ram := ram) (reg := reg) (o := 0) (t := A.getD j.toNat 0) kr
    have hb1 : b = true := hbb.2 hb
    subst hb1
    show Q (f73 M W H T P K [] tb ram reg 0 (A.getD j.toNat 0) _)
    rw [eb]
    simp only [cond_true]
    rw [g_inS (by omega), g_inR (by omega)]
    refine f44_wp M Q (by simp; omega) (by simp; omega) fun r hr => ?_
    rw [if_neg, addI_ok (by omega)]
    · exact ih _ ⟨by omega, by omega⟩ (by omega)
    · intro hr0
      have : ¬ r < 0 := by omega
      rw [hr.neg] at this
      apply this
      intro hm
      obtain ⟨t, ht, e⟩ := List.mem_iff_getElem.1 hm
      simp only [List.length_take] at ht
      rw [List.getElem_take] at e
      have := getD_inj hB.nodup (i := t) (j := j.toNat) (by omega) (by omega) (by rw [getD_lt (show t < A.length by omega)]; exact e)
      omega
  · rw [if_neg hjl, f41_eq g, g_inS (by omega)]
    unfold f43L10S
    refine rounds_wp (fun (a : Int × List Bool) => (0 ≤ a.1 ∧ a.1 ≤ (rs.length : Int)) ∧ (a.2.length : Int) = cnt W H T P ∧ ∀ x : Nat, (∀ r ∈ rs.take a.1.toNat, (x : Int) ∉ r.2.1) → a.2.getD x false = false) (fun (a : Int × List Bool) => ((rs.length : Int) - a.1).toNat) Q ?_ M _ ⟨⟨by simp, by simp⟩, by simp; omega, fun x _ => by simp [List.getD_eq_getElem?_getD, List.getElem?_replicate]; split <;> rfl⟩ (by simp; omega)
    rintro G ⟨j, U⟩ ⟨⟨h1, h1'⟩, h2, h3⟩ ih
    simp only at h1 h1' h2 h3 ih ⊢
    obtain ⟨n, rfl⟩ : ∃ n : Nat, j = n := ⟨j.toNat, by omega⟩
    unfold f43L10
    simp only [c_lt, c_not, lenI, List.length_map]
    by_cases hjl : (n : Int) < rs.length
    · have hn : n < rs.length := by omega
      obtain ⟨hr1, hr2⟩ := hrs.each rs[n] (List.getElem_mem _)
      rw [if_pos hjl, g_inR (by omega), show Int.toNat (n : Int) = n from rfl, rV_get hn, rV0, rV1, rV2]
      refine f76_wp g M K Q hM hr2 hr1 ?_
      simp only [cond_true]
      refine f43L15_wp g M Q hM hn hr2 h2 (fun x hx => ?_) fun z b U' hU' hk => ?_
      · have hxr := hr2.inr x hx
        apply h3
        intro r hr
        obtain ⟨t, ht, e⟩ := List.mem_iff_getElem.1 hr
        simp only [List.length_take] at ht
        rw [List.getElem_take] at e
        have := List.pairwise_iff_getElem.1 hrs.apart t n (by omega) hn (by simp at ht; omega)
        subst e
        intro hm
        rw [show ((x.toNat : Nat) : Int) = x from by omega] at hm
        exact this x hm hx
      · rw [addI_ok (by omega)]
        refine ih _ ⟨⟨by simp only; omega, by simp only; omega⟩, hU', fun x hx => ?_⟩ (by simp only; omega)
        simp only at hx ⊢
        rw [show ((n : Int) + 1).toNat = n + 1 from rfl] at hx
        rw [hk x (hx rs[n] (by rw [List.mem_take_iff_getElem]; exact ⟨n, by omega, rfl⟩))]
        refine h3 x fun r hr => hx r ?_
        rw [List.mem_take_iff_getElem] at hr ⊢
        obtain ⟨t, ht, e⟩ := hr
        exact ⟨t, by simp only [Int.toNat_natCast] at ht; omega, e⟩
    · rw [if_neg hjl]; exact hq
end
end Go.Vm.T3
end
section
namespace Go.Vm.T3
open Go Go.Vm
structure ConfOk (W H T P : Int) (sel mode table ram : List Int) : Prop where
  ls : (sel.length : Int) = cnt W H T P
  lm : (mode.length : Int) = W * H
  lt : (table.length : Int) = W * H
  lr : (ram.length : Int) = W * H
  s : ∀ n : Nat, n < sel.length → 0 ≤ sel.getD n 0 ∧ sel.getD n 0 ≤ (refD W H T P n).length
  m : ∀ x ∈ mode, 0 ≤ x ∧ x ≤ 3
  r : ∀ x ∈ ram, 0 ≤ x ∧ x ≤ 255
theorem conf0 {W H T P : Int} (g : GO W H T P) : ConfOk W H T P (List.replicate (cnt W H T P).toNat 0) (List.replicate (W * H).toNat 0) (List.replicate (W * H).toNat 0) (List.replicate (W * H).toNat 0) := by
  have hb := g.b; have hc := cnt_b g
  refine ⟨by simp; omega, by simp; omega, by simp; omega, by simp; omega, fun n hn => ?_, fun x hx => ?_, fun x hx => ?_⟩
  · rw [getD_lt hn]; simp
  · rw [List.mem_replicate] at hx; omega
  · rw [List.mem_replicate] at hx; omega
theorem ConfOk.setSel {W H T P : Int} {sel mode table ram : List Int} (h : ConfOk W H T P sel mode table ram) {n v : Int} (hn : 0 ≤ n) (hv : 0 ≤ v ∧ v ≤ (refD W H T P n).length) : ConfOk W H T P (sel.set n.toNat v) mode table ram := by
  refine ⟨by simp [h.ls], h.lm, h.lt, h.lr, fun k hk => ?_, h.m, h.r⟩
  rw [List.length_set] at hk
  rw [getD_set]
  split
  · rename_i e
    rw [show (k : Int) = n from by omega]; exact hv
  · exact h.s k hk
theorem ConfOk.setMode {W H T P : Int} {sel mode table ram : List Int} (h : ConfOk W H T P sel mode table ram) {i : Nat} {v : Int} (hv : 0 ≤ v ∧ v ≤ 3) : ConfOk W H T P sel (mode.set i v) table ram :=
  ⟨h.ls, by simp [h.lm], h.lt, h.lr, h.s, fun x hx => by rcases List.mem_or_eq_of_mem_set hx with hx | rfl; exact h.m x hx; exact hv, h.r⟩
theorem ConfOk.setTable {W H T P : Int} {sel mode table ram : List Int} (h : ConfOk W H T P sel mode table ram) {i : Nat} {v : Int} : ConfOk W H T P sel mode (table.set i v) ram :=
  ⟨h.ls, h.lm, by simp [h.lt], h.lr, h.s, h.m, h.r⟩
theorem ConfOk.setRam {W H T P : Int} {sel mode table ram : List Int} (h : ConfOk W H T P sel mode table ram) {i : Nat} {v : Int} (hv : 0 ≤ v ∧ v ≤ 255) : ConfOk W H T P sel mode table (ram.set i v) :=
  ⟨h.ls, h.lm, h.lt, by simp [h.lr], h.s, h.m, fun x hx => by rcases List.mem_or_eq_of_mem_set hx with hx | rfl; exact h.r x hx; exact hv⟩
section
variable {R : Type} {W H T P : Int} (g : GO W H T P) (M : Nat) (K : List Int) (Q : Option R → Prop)
include g
theorem f23_wp (hM : 1000 ≤ M) (hK : KOk W H K) {B : List V} {A : List Int} (hB : BsOk W H K B A) {rs : List (Int × List Int × List Int)} (hrs : RsOk W H T P rs) {a2 a6 : List V} {a8 : List Int} {kr : List Int → List Int → List Int → List Int → Int → Option R}
    (hq : ∀ s m t r, ConfOk W H T P s m t r → Q (kr s m t r 0)) : Q (f23 M a2 B a6 a8 W H T P K A (rs.map rV) kr) := by
  have hlen := hB.len; have hle := hB.le; have hrl := hrs.le; have hc := cnt_b g; have hwh := g.b
  unfold f23 f23T
  refine f43_wp g M K Q hM hK hB hrs ?_
  rw [c_not]
  simp only [cond_true]
  rw [f37_eq g]
  unfold f23L5S
  refine rounds_wp (fun (a : Int × List Int × List Int × List Int) => (0 ≤ a.1 ∧ a.1 ≤ (A.length : Int)) ∧ ConfOk W H T P (List.replicate (cnt W H T P).toNat 0) a.2.1 a.2.2.1 a.2.2.2) (fun (a : Int × List Int × List Int × List Int) => ((A.length : Int) - a.1).toNat) Q ?_ M _ ⟨⟨by simp, by simp⟩, conf0 g⟩ (by simp; omega)
  rintro G ⟨j, m, t, r⟩ ⟨⟨h1, h1'⟩, h2⟩ ih
  simp only at h1 h1' h2 ih ⊢
  unfold f23L5
  simp only [c_lt, c_ne, lenI]
  by_cases hj : j < A.length
  · obtain ⟨tb, ram, reg, e, hb⟩ := hB.blk j.toNat (by omega)
    have hl1 := h2.lm; have hl2 := h2.lt; have hl3 := h2.lr
    have ht := hb.1; have hram := hb.2.2.1; have hreg := hb.2.2.2.1
    rw [if_pos hj, g_inR (by omega), g_inR (by omega), e]
    simp only [show V.toInt (V.cell (V.agg [.ints .frz .i64 [], .int .i64 tb, .int .i64 ram, .int .i64 reg, .int .u64 0]) 2) = ram from rfl, show V.toInt (V.cell (V.agg [.ints .frz .i64 [], .int .i64 tb, .int .i64 ram, .int .i64 reg, .int .u64 0]) 3) = reg from rfl, show V.toInt (V.cell (V.agg [.ints .frz .i64 [], .int .i64 tb, .int .i64 ram, .int .i64 reg, .int .u64 0]) 1) = tb from rfl]
    rw [addI_ok (by omega)]
    by_cases r1 : ram = -1
    · rw [if_pos r1]
      by_cases r2 : reg = -1
      · rw [if_pos r2, g_inR (by omega), g_inR (by omega)]
        exact ih _ ⟨⟨by simp only; omega, by simp only; omega⟩, (h2.setMode (by omega)).setTable⟩ (by simp only; omega)
      · rw [if_neg r2, g_inR (by omega), g_inR (by omega), g_inR (by omega)]
        exact ih _ ⟨⟨by simp only; omega, by simp only; omega⟩, ((h2.setMode (by omega)).setTable).setRam (by omega)⟩ (by simp only; omega)
    · rw [if_neg r1, g_inR (by omega), g_inR (by omega)]
      exact ih _ ⟨⟨by simp only; omega, by simp only; omega⟩, (h2.setMode (by omega)).setRam (by omega)⟩ (by simp only; omega)
  · rw [if_neg hj]
    unfold f23L18S
    refine rounds_wp (fun (a : Int × List Int) => (0 ≤ a.1 ∧ a.1 ≤ (rs.length : Int)) ∧ ConfOk W H T P a.2 m t r) (fun (a : Int × List Int) => ((rs.length : Int) - a.1).toNat) Q ?_ M _ ⟨⟨by simp, by simp⟩, h2⟩ (by simp; omega)
    rintro G ⟨i, sel⟩ ⟨⟨h1, h1'⟩, h2⟩ ih
    simp only at h1 h1' h2 ih ⊢
    obtain ⟨n, rfl⟩ : ∃ n : Nat, i = n := ⟨i.toNat, by omega⟩
    unfold f23L18
    simp only [c_lt, lenI, List.length_map]
    by_cases hjl : (n : Int) < rs.length
    · have hn : n < rs.length := by omega
      obtain ⟨hr1, hr2⟩ := hrs.each rs[n] (List.getElem_mem _)
      have hl : 0 < rs[n].2.1.length := List.length_pos_iff.2 hr1
      have hlen2 := hr2.len; have hle2 := hr2.le
      rw [if_pos hjl, g_inR (by omega), show Int.toNat (n : Int) = n from rfl, rV_get hn, rV0, rV1, rV2, addI_ok (by omega)]
      unfold f23L22S
      refine rounds_wp (fun (a : Int × List Int) => (1 ≤ a.1 ∧ a.1 ≤ (rs[n].2.1.length : Int)) ∧ ConfOk W H T P a.2 m t r) (fun (a : Int × List Int) => ((rs[n].2.1.length : Int) - a.1).toNat) Q ?_ M _ ⟨⟨by simp, by simp; omega⟩, h2⟩ (by simp; omega)
      rintro G' ⟨j, sel⟩ ⟨⟨h3, h3'⟩, h4⟩ ih'
      simp only at h3 h3' h4 ih' ⊢
      unfold f23L22
      simp only [c_lt, lenI]
      by_cases hjn : j < rs[n].2.1.length
      · have hx := hr2.inr _ (getD_mem (show j.toNat < rs[n].2.1.length by omega))
        rcases hr2.step j.toNat (by omega) with ⟨a, _⟩ | ⟨_, b1, b2, b3⟩
        · omega
        have hpn := hr2.inr _ (getD_mem (show (rs[n].2.2.getD j.toNat 0).toNat < rs[n].2.1.length by omega))
        rw [if_pos hjn, g_inR (by omega), g_inR (by omega), f45_eq g M K (by omega) hx.1 hx.2, g_inR (by omega), g_inR (by omega)]
        have hp := refD_len g (rs[n].2.1.getD j.toNat 0)
        have hls := h4.ls
        refine f44_wp M Q (by omega) (by omega) fun q hq' => ?_
        rw [g_inR (by omega), addI_ok (by omega)]
        have hqr : 0 ≤ q ∧ q < (refD W H T P (rs[n].2.1.getD j.toNat 0)).length := by
          rcases hq' with ⟨_, hh⟩ | ⟨a, b, _⟩
          · exact absurd (mem_refD.2 ⟨hpn, b3⟩) hh
          · exact ⟨a, b⟩
        rw [addI_ok (by omega)]
        exact ih' _ ⟨⟨by simp only; omega, by simp only; omega⟩, h4.setSel hx.1 (by omega)⟩ (by simp only; omega)
      · rw [if_neg hjn]
        exact ih _ ⟨⟨by simp only; omega, by simp only; omega⟩, h4⟩ (by simp only; omega)
    · rw [if_neg hjl]
      exact hq _ _ _ _ h2
theorem f24_wp (hM : 1000 ≤ M) (hK : KOk W H K) {A : List Int} (h8 : ∀ x ∈ A, 0 ≤ x ∧ x ≤ 255) {kr : List Int → List Int → List Int → List Int → Option R}
    (hq : ∀ s m t r, ConfOk W H T P s m t r → Q (kr s m t r)) : Q (f24 M W H T P K A kr) := by
  have hc := cnt_b g; have hwh := g.b; have hKl := hK.1
  unfold f24 f24T
  rw [f37_eq g]
  unfold f24L3S
  refine rounds_wp (fun (a : Int × List Int × List Int × List Int × List Int) => (0 ≤ a.1 ∧ a.1 ≤ 81) ∧ ConfOk W H T P a.2.1 a.2.2.1 a.2.2.2.1 a.2.2.2.2) (fun (a : Int × List Int × List Int × List Int × List Int) => (82 - a.1).toNat) Q ?_ M _ ⟨⟨by simp, by simp⟩, conf0 g⟩ (by simp; omega)
  rintro G ⟨j, s, m, t, r⟩ ⟨⟨h1, h1'⟩, h2⟩ ih
  simp only at h1 h1' h2 ih ⊢
  have step : ∀ s m t r, j < 80 → ConfOk W H T P s m t r → Q (G (addI .i64 j 2, s, m, t, r)) := fun s m t r hj h => by
    rw [addI_ok (by omega)]
    exact ih _ ⟨⟨by simp only; omega, by simp only; omega⟩, h⟩ (by simp only; omega)
  unfold f24L3
  simp only [c_lt, c_eq, lenI]
  rw [addI_ok (a := j) (b := 1) (by omega)]
  by_cases hj : j + 1 < A.length
  · rw [if_pos hj]
    by_cases hj80 : j < 80
    · have hv := h8 _ (getD_mem (show j.toNat < A.length by omega))
      have hw := h8 _ (getD_mem (show (j + 1).toNat < A.length by omega))
      have hls := h2.ls; have hlm := h2.lm; have hlt := h2.lt; have hlr := h2.lr
      have gi : ∀ x : Option R, gd (inR j A.length) x = x := fun x => g_inR (by omega)
      have gj : ∀ x : Option R, gd (inR (j + 1) A.length) x = x := fun x => g_inR (by omega)
      simp only [gi, gj]
      revert hv hw
      generalize A.getD j.toNat 0 = v
      generalize A.getD (j + 1).toNat 0 = w
      intro hv hw
      have hm0 := Int.emod_nonneg (7 * j + v) (show (s.length : Int) ≠ 0 by omega)
      have hm1 := Int.emod_lt_of_pos (7 * j + v) (show 0 < (s.length : Int) by omega)
      have ht0 := Int.emod_nonneg v (show W * H ≠ 0 by omega)
      have ht1 := Int.emod_lt_of_pos v (show 0 < W * H by omega)
      have q3 : quoI .u8 w 3 = w / 3 := by
        unfold quoI
        rw [Int.tdiv_eq_ediv_of_nonneg hw.1]
        unfold IntKind.wrap
        simp [IntKind.bits, IntKind.signed]
        omega
      rw [if_pos hj80, g_nz (by omega), convI_ok (a := v) (by omega), mulI_ok (a := 7) (by omega), addI_ok (a := 7 * j) (by omega), remI_ok (a := 7 * j + v) (by omega), mulI_ok (a := W) (b := H) (by omega), remI_ok (a := v) (by omega), convI_ok (a := w) (by omega), q3, convI_ok (a := w / 3) (by omega), remI_ok (a := w) (by omega)]
      rw [f46_eq g M K (by omega) hm0 (by omega)]
      have gt : ∀ (l : List Int) (hl : (l.length : Int) = W * H) (x : Option R), gd (inR (v % (W * H)) l.length) x = x := fun l hl x => g_inR (by omega)
      have gs : ∀ (x : Option R), gd (inR ((7 * j + v) % (s.length : Int)) s.length) x = x := fun x => g_inR (by omega)
      have gn : ∀ (x : Option R), gd (nzI (W * H)) x = x := fun x => g_nz (by omega)
      simp only [gt K hKl, gt m hlm, gt t hlt, gt r hlr, gs, gn]
      have rest : ∀ s' : List Int, ConfOk W H T P s' m t r → Q (if K.getD (v % (W * H)).toNat 0 = 0 then G (addI .i64 j 2, s', m, t, r) else if remI w 3 = 0 then G (addI .i64 j 2, s', m.set (v % (W * H)).toNat 1, t.set (v % (W * H)).toNat (mulI .i64 100 w), r.set (v % (W * H)).toNat 0) else if remI w 3 = 1 then G (addI .i64 j 2, s', m.set (v % (W * H)).toNat 2, t.set (v % (W * H)).toNat (mulI .i64 100 w), r.set (v % (W * H)).toNat (w / 3)) else G (addI .i64 j 2, s', m, t, r)) := fun s' hs' => by
        by_cases c1 : K.getD (v % (W * H)).toNat 0 = 0
        · rw [if_pos c1]; exact step _ _ _ _ hj80 hs'
        · rw [if_neg c1]
          by_cases c2 : remI w 3 = 0
          · rw [if_pos c2]; exact step _ _ _ _ hj80 (((hs'.setMode (by omega)).setTable).setRam (by omega))
          · rw [if_neg c2]
            by_cases c3 : remI w 3 = 1
            · rw [if_pos c3]; exact step _ _ _ _ hj80 (((hs'.setMode (by omega)).setTable).setRam (by omega))
            · rw [if_neg c3]; exact step _ _ _ _ hj80 hs'
      rw [remI_ok (a := w) (by omega)] at rest
      by_cases hp : 0 < ((refD W H T P ((7 * j + v) % (s.length : Int))).length : Int)
      · have hpl := refD_len g ((7 * j + v) % (s.length : Int))
        have hy0 := Int.emod_nonneg w (show ((refD W H T P ((7 * j + v) % (s.length : Int))).length : Int) ≠ 0 by omega)
        have hy1 := Int.emod_lt_of_pos w hp
        rw [if_pos hp, g_nz (by omega), remI_ok (a := w) (by omega), addI_ok (a := 1) (by omega)]
        exact rest _ (h2.setSel hm0 (by omega))
      · rw [if_neg hp]
        exact rest _ h2
    · rw [if_neg hj80]; exact hq _ _ _ _ h2
  · rw [if_neg hj]; exact hq _ _ _ _ h2
end
end Go.Vm.T3
end
section
namespace Go.Vm.T3
open Go Go.Vm
def orB : List Bool → Int → Int → Int
  | [], x, _ => x
  | b :: l, x, j => orB l (if b then orI .i64 x (shlI .i64 1 j) else x) (j + 1)
theorem orB_nil (x j : Int) : orB [] x j = x := rfl
theorem orB_cons (b : Bool) (l : List Bool) (x j : Int) : orB (b :: l) x j = orB l (if b then orI .i64 x (shlI .i64 1 j) else x) (j + 1) := rfl
theorem or_b {x y : Int} (hx : 0 ≤ x ∧ x < 4611686018427387904) (hy : 0 ≤ y ∧ y < 4611686018427387904) : 0 ≤ orI .i64 x y ∧ orI .i64 x y < 4611686018427387904 := by
  have h : (BitVec.ofInt 64 x ||| BitVec.ofInt 64 y).toNat < 2 ^ 62 := by
    rw [BitVec.toNat_or]
    apply Nat.or_lt_two_pow
    · rw [BitVec.toNat_ofInt]; omega
    · rw [BitVec.toNat_ofInt]; omega
  have e : orI .i64 x y = ((BitVec.ofInt 64 x ||| BitVec.ofInt 64 y).toNat : Int) := by
    show IntKind.wrap .i64 (((BitVec.ofInt 64 x ||| BitVec.ofInt 64 y).toNat : Nat) : Int) = _
    exact wrap64 ⟨by omega, by omega⟩
  rw [e]; omega
theorem shl_b {j : Int} (hj : 0 ≤ j ∧ j ≤ 5) : 0 ≤ shlI .i64 1 j ∧ shlI .i64 1 j < 4611686018427387904 := by
  have : j = 0 ∨ j = 1 ∨ j = 2 ∨ j = 3 ∨ j = 4 ∨ j = 5 := by omega
  rcases this with rfl | rfl | rfl | rfl | rfl | rfl <;> decide
def v55 (l : List Int) (a b : Int) : Bool := if a < l.length then eqI (andI .i64 (shrI .i64 (l.getD a.toNat 0) b) 1) 1 else false
def v81 (a : Int) (l : List Bool) : Bool := eqI (andI .i64 (shrI .i64 a (orB l 0 0)) 1) 1
def v56 (extra : List V) (r : Int) (l : List Bool) : Bool := if r / 8 < extra.length then v55 (V.toInts (V.cell (extra.getD (r / 8).toNat .undef) 0)) (orB (l.take 3) 0 0) (r % 8) else false
theorem drop_getD {l : List Bool} {j : Nat} (h : j < l.length) : l.drop j = l.getD j false :: l.drop (j + 1) := by
  rw [List.drop_eq_getElem_cons h, List.getD_eq_getElem?_getD, List.getElem?_eq_getElem h]; rfl
section
variable {R : Type} (M : Nat) (Q : Option R → Prop)
theorem f81L5_wp {a : Int} {l : List Bool} (hl : l.length ≤ 5) (hM : 10 ≤ M) {k0 : Int → Int → Bool → Option R} (hq : ∀ z b, 0 ≤ orB l 0 0 → Q (k0 (orB l 0 0) z b)) : Q (f81L5S M a l (lenI l.length) 0 0 k0) := by
  unfold f81L5S
  refine rounds_wp (fun (s : Int × Int) => (0 ≤ s.2 ∧ s.2 ≤ (l.length : Int)) ∧ (0 ≤ s.1 ∧ s.1 < 4611686018427387904) ∧ orB (l.drop s.2.toNat) s.1 s.2 = orB l 0 0) (fun (s : Int × Int) => ((l.length : Int) - s.2).toNat) Q ?_ M _ ⟨⟨by simp, by simp⟩, ⟨by simp, by simp⟩, by simp⟩ (by simp; omega)
  rintro G ⟨x, j⟩ ⟨⟨h1, h1'⟩, ⟨h2, h2'⟩, h3⟩ ih
  simp only at h1 h1' h2 h2' h3 ih ⊢
  unfold f81L5
  simp only [c_lt, lenI]
  by_cases hj : j < l.length
  · rw [drop_getD (show j.toNat < l.length by omega)] at h3
    rw [orB_cons] at h3
    rw [if_pos hj, g_inR (by omega), addI_ok (by omega)]
    cases hb : l.getD j.toNat false with
    | true =>
      rw [hb] at h3
      simp only [if_true] at h3
      simp only [cond_true]
      have hs := shl_b (j := j) (by omega)
      have ho := or_b (x := x) (y := shlI .i64 1 j) ⟨h2, h2'⟩ hs
      rw [g_pos (by omega)]
      refine ih _ ⟨⟨by simp only; omega, by simp only; omega⟩, ho, ?_⟩ (by simp only; omega)
      simp only
      rw [show (j + 1).toNat = j.toNat + 1 from by omega]; exact h3
    | false =>
      rw [hb] at h3
      simp only [cond_false]
      refine ih _ ⟨⟨by simp only; omega, by simp only; omega⟩, ⟨h2, h2'⟩, ?_⟩ (by simp only; omega)
      simp only
      rw [show (j + 1).toNat = j.toNat + 1 from by omega]
      simpa using h3
  · rw [if_neg hj]
    have e : l.drop j.toNat = [] := List.drop_eq_nil_of_le (by omega)
    rw [e, orB_nil] at h3
    subst h3
    exact hq _ _ h2
theorem f81_eq {a : Int} {l : List Bool} (hl : l.length ≤ 5) (hM : 10 ≤ M) (kr : Bool → Option R) : f81 M a l kr = kr (v81 a l) := by
  unfold f81 f81T
  simp only [c_lt, lenI]
  rw [if_neg (by omega)]
  refine f81L5_wp M (fun o => o = kr (v81 a l)) hl hM fun z b h0 => ?_
  show gd _ _ = _
  rw [g_pos h0]; rfl
theorem f55_eq {l : List Int} {a b : Int} (ha : 0 ≤ a) (hb : 0 ≤ b) (kr : Bool → Option R) : f55 M l a b kr = kr (v55 l a b) := by
  unfold f55 f55T v55
  simp only [c_lt, lenI]
  by_cases h : a < l.length
  · rw [if_pos h, if_pos h, g_inR (by omega), g_pos hb]
  · rw [if_neg h, if_neg h]
theorem f56L3_wp {x24 x25 x26 x27 : List Int} {x28 : List V} {x29 x30 x31 : List Int} {x32 : List V} {x33 : List Bool} {x34 x35 : Int} {l : List Bool} (hl : l.length ≤ 5) (hM : 10 ≤ M) {k0 : Int → Int → Bool → Option R} (hq : ∀ z b, 0 ≤ orB l 0 0 → Q (k0 (orB l 0 0) z b)) : Q (f56L3S M x24 x25 x26 x27 x28 x29 x30 x31 x32 x33 x34 x35 l (lenI l.length) 0 0 k0) := by
  unfold f56L3S
  refine rounds_wp (fun (s : Int × Int) => (0 ≤ s.2 ∧ s.2 ≤ (l.length : Int)) ∧ (0 ≤ s.1 ∧ s.1 < 4611686018427387904) ∧ orB (l.drop s.2.toNat) s.1 s.2 = orB l 0 0) (fun (s : Int × Int) => ((l.length : Int) - s.2).toNat) Q ?_ M _ ⟨⟨by simp, by simp⟩, ⟨by simp, by simp⟩, by simp⟩ (by simp; omega)
  rintro G ⟨x, j⟩ ⟨⟨h1, h1'⟩, ⟨h2, h2'⟩, h3⟩ ih
  simp only at h1 h1' h2 h2' h3 ih ⊢
  unfold f56L3
  simp only [c_lt, lenI]
  by_cases hj : j < l.length
  · rw [drop_getD (show j.toNat < l.length by omega)] at h3
    rw [orB_cons] at h3
    rw [if_pos hj, g_inR (by omega), addI_ok (by omega)]
    cases hb : l.getD j.toNat false with
    | true =>
      rw [hb] at h3
      simp only [if_true] at h3
      simp only [cond_true]
      have hs := shl_b (j := j) (by omega)
      have ho := or_b (x := x) (y := shlI .i64 1 j) ⟨h2, h2'⟩ hs
      rw [g_pos (by omega)]
      refine ih _ ⟨⟨by simp only; omega, by simp only; omega⟩, ho, ?_⟩ (by simp only; omega)
      simp only
      rw [show (j + 1).toNat = j.toNat + 1 from by omega]; exact h3
    | false =>
      rw [hb] at h3
      simp only [cond_false]
      refine ih _ ⟨⟨by simp only; omega, by simp only; omega⟩, ⟨h2, h2'⟩, ?_⟩ (by simp only; omega)
      simp only
      rw [show (j + 1).toNat = j.toNat + 1 from by omega]
      simpa using h3
  · rw [if_neg hj]
    have e : l.drop j.toNat = [] := List.drop_eq_nil_of_le (by omega)
    rw [e, orB_nil] at h3
    subst h3
    exact hq _ _ h2
theorem f56_eq {a2 a4 a6 a8 : List Int} {a10 : List V} {a12 a14 a16 : List Int} {a18 : List V} {a20 : List Bool} {t : Int} {l : List Bool} (hl : l.length = 4) (hM : 10 ≤ M) (ht : 0 ≤ t ∧ t < a8.length) (hr : 0 ≤ a8.getD t.toNat 0 ∧ a8.getD t.toNat 0 ≤ 255) (kr : Bool → Option R) :
    f56 M a2 a4 a6 a8 a10 a12 a14 a16 a18 a20 t l kr = kr (v56 a18 (a8.getD t.toNat 0) l) := by
  unfold f56 f56T
  rw [g_inR (by omega), g_inS (by omega), quoI_ok (by omega), remI_ok hr.1]
  refine f56L3_wp M (fun o => o = kr (v56 a18 (a8.getD t.toNat 0) l)) (l := l.take 3) (by simp; omega) hM fun z b h0 => ?_
  simp only [c_lt, lenI]
  unfold v56
  by_cases h : a8.getD t.toNat 0 / 8 < a18.length
  · rw [if_pos h, if_pos h, g_inR (by omega), g_inR (by omega), f55_eq M h0 (by omega)]
  · rw [if_neg h, if_neg h]
end
end Go.Vm.T3
end
