/-
  A part of the proof that FabricPads answers true at every input. No condition.
-/
import Derived.Test.YtnjjhhbogdiceaaGreatPx
import Derived.Test.YtnjjhhbogdiceaaGreatP3
import Derived.Test.YtnjjhhbogdiceaaGreatGd
set_option linter.unusedVariables false
set_option linter.unusedSimpArgs false
set_option linter.unusedSectionVars false
namespace Go.Vm
open Go
theorem lv_cons {ty : Tys} {tag : Tag} {l : Leaf} {r : List Leaf} {xs : List V} (h : leavesOk ty tag (l :: r) xs = true) : ∃ x s, xs = x :: s ∧ leafOk ty tag l x = true ∧ leavesOk ty tag r s = true := by
  cases xs with
  | nil => simp [leavesOk] at h
  | cons x s => simp only [leavesOk, Bool.and_eq_true] at h; exact ⟨x, s, rfl, h.1, h.2⟩
theorem lv_nil {ty : Tys} {tag : Tag} {xs : List V} (h : leavesOk ty tag [] xs = true) : xs = [] := by
  cases xs with
  | nil => rfl
  | cons x s => simp [leavesOk] at h
theorem sameF {k k' : IntKind} (h : IntKind.same k k' = true) : k' = k := by cases k <;> cases k' <;> first | rfl | simp [IntKind.same] at h
theorem tagF {t : Tag} (h : t.same .frz = true) : t = .frz := by cases t <;> first | rfl | simp [Tag.same] at h
theorem lf_int {ty : Tys} {tag : Tag} {k : IntKind} {x : V} (h : leafOk ty tag (.int k) x = true) : ∃ n, x = .int k n := by
  cases x with
  | int k' n => exact ⟨n, by rw [sameF (k := k) (k' := k') h]⟩
  | _ => simp [leafOk] at h
theorem lf_ints {ty : Tys} {e : Nat} {k : IntKind} (hs : shOf ty e = some (.ints k)) {x : V} (h : leafOk ty .frz (.sl e) x = true) : ∃ l, x = .ints .frz k l := by
  have h' : slOk ty .frz e x = true := h
  unfold slOk at h'
  rw [hs] at h'
  cases x with
  | ints t k' l =>
    simp only [Bool.and_eq_true] at h'
    exact ⟨l, by rw [tagF h'.1, sameF h'.2]⟩
  | _ => simp at h'
theorem lf_bools {ty : Tys} {e : Nat} (hs : shOf ty e = some .bools) {x : V} (h : leafOk ty .frz (.sl e) x = true) : ∃ l, x = .bools .frz l := by
  have h' : slOk ty .frz e x = true := h
  unfold slOk at h'
  rw [hs] at h'
  cases x with
  | bools t l => exact ⟨l, by rw [tagF h']⟩
  | _ => simp at h'
theorem lf_vals {ty : Tys} {e : Nat} (hs : shOf ty e = some .vals) {x : V} (h : leafOk ty .frz (.sl e) x = true) : ∃ l, x = .vals .frz e l := by
  have h' : slOk ty .frz e x = true := h
  unfold slOk at h'
  rw [hs] at h'
  cases x with
  | vals t e' l =>
    simp only [Bool.and_eq_true] at h'
    exact ⟨l, by rw [tagF h'.1, Nat.eq_of_beq_eq_true h'.2]⟩
  | _ => simp at h'
theorem u8_wf {n : Int} (h : (Lit.int .u8 n).wf = true) : 0 ≤ n ∧ n ≤ 255 := by
  simp only [Lit.wf, Bool.and_eq_true, decide_eq_true_eq] at h
  have e1 : IntKind.min .u8 = 0 := by decide
  have e2 : IntKind.max .u8 = 255 := by decide
  omega
theorem CR_at {ty : Tys} {c : Ctx} : ∀ {xs : List V} {ys : List Value}, CR ty c xs ys → ∀ v ∈ xs, ∃ y, VR ty c v y
  | [], _, h, v, hv => by simp at hv
  | v' :: r, _, h, v, hv => by
    unfold CR at h
    obtain ⟨y', ys, rfl, h1, _, h⟩ := h
    rcases List.mem_cons.1 hv with rfl | hv
    · exact ⟨y', h1⟩
    · exact CR_at h v hv
theorem exp_bool {h : Heap} {fz : List Nat} {vs : List V} {b : Bool} (he : expRes h fz vs = some [.bool b]) : vs = [.bool b] := by
  cases vs with
  | nil => simp [expRes] at he
  | cons v r =>
    cases hv : expV h fz v with
    | none => simp [expRes, hv] at he
    | some x =>
      cases hr : expRes h fz r with
      | none => simp [expRes, hv, hr] at he
      | some s =>
        simp only [expRes, hv, hr, Option.some.injEq, List.cons.injEq] at he
        obtain ⟨rfl, rfl⟩ := he
        have h1 : v = .bool b := by
          cases v with
          | bool c => simp [expV, expLeaf] at hv; rw [hv]
          | own id =>
            simp only [expV, expLeaf] at hv
            cases hx : has id fz with
            | true => rw [hx] at hv; simp at hv
            | false =>
              rw [hx] at hv
              simp only [cond_false] at hv
              split at hv
              · rename_i o _
                cases o <;> simp [Obj.fixed] at hv
              · simp at hv
          | owns id off len =>
            simp only [expV, expLeaf] at hv
            cases hx : has id fz with
            | true => rw [hx] at hv; simp at hv
            | false =>
              rw [hx] at hv
              simp only [cond_false] at hv
              split at hv
              · rename_i o _
                cases o <;> simp [Obj.fixedPart] at hv
              · simp at hv
          | ints t k l => cases t <;> simp [expV, expLeaf] at hv
          | bools t l => cases t <;> simp [expV, expLeaf] at hv
          | vals t e l => cases t <;> simp [expV, expLeaf] at hv
          | agg l => simp [expV] at hv
          | _ => simp [expV, expLeaf] at hv
        have h2 : r = [] := by
          cases r with
          | nil => rfl
          | cons v r =>
            simp only [expRes] at hr
            split at hr <;> simp at hr
        rw [h1, h2]
end Go.Vm
namespace Go.Vm.T3
open Go Go.Vm
theorem f4_calls {H : Type} {enc : TypeId × Value → H} {W : World} {sp : Nat → Bool} {held : Bool} {fuel fuel' : Nat} {cs : Array Value} {v1 : Value} {x x' : DataW H × List MemPlace}
    (h0 : DataW.trod enc Go.Proofs.Tryz.prog W 0 sp held fuel 38 cs.toList = some x) (h1 : DataW.trod enc Go.Proofs.Tryz.prog W 0 sp held fuel' 5 [v1] = some x') :
    Go.Calls Go.Proofs.Tryz.prog 4 #[.agg cs, v1] W fun e w' => e = .returned (.bool true) ∧ Go.RowKit.Below W.heap.size W w' := by
  have hS : ∀ t ∈ [5, 3, 4, 22, 24, 25, 26, 28, 29, 30, 32, 33, 34, 36, 38, 155, 166], rdB Go.Proofs.Tryz.prog env.ty [5, 3, 4, 22, 24, 25, 26, 28, 29, 30, 32, 33, 34, 36, 38, 155, 166] t = true := List.all_eq_true.1 rd_all
  have hI : ∀ b o v, W.cell? ⟨b, o, none⟩ = some v → (fun b o => ∃ v, W.cell? ⟨b, o, none⟩ = some v) b o := fun b o v h => ⟨v, h⟩
  obtain ⟨i, xs, hi, hx, hcr, hw⟩ := conv_ok (c := { w := W, base := W.heap.size, F := fun _ => False, I := fun b o => ∃ v, W.cell? ⟨b, o, none⟩ = some v, μ := fun _ => none }) hS hI fuel 38 cs.toList x (by simp) h0
  obtain ⟨j, ys, hj, hy, hcr', hw'⟩ := conv_ok (c := { w := W, base := W.heap.size, F := fun _ => False, I := fun b o => ∃ v, W.cell? ⟨b, o, none⟩ = some v, μ := fun _ => none }) hS hI fuel' 5 [v1] x' (by simp) h1
  have e38 : (tyAt env.ty 38).map (·.leaves) = some [.int .u8, .int .u8, .int .u8, .int .u8, .sl 5, .sl 155, .sl 22, .sl 5, .sl 155, .sl 155, .sl 3, .sl 29, .sl 166, .sl 4, .sl 5, .sl 5] := by kernel_rfl
  have e5 : (tyAt env.ty 5).map (·.leaves) = some [.int .u8] := by kernel_rfl
  rw [hi] at e38; rw [hj] at e5
  simp only [Option.map_some, Option.some.injEq] at e38 e5
  rw [e38] at hx; rw [e5] at hy
  have s5 : shOf env.ty 5 = some (.ints .u8) := by kernel_rfl
  have s3 : shOf env.ty 3 = some (.ints .i64) := by kernel_rfl
  have s4 : shOf env.ty 4 = some .bools := by kernel_rfl
  have s155 : shOf env.ty 155 = some .vals := by kernel_rfl
  have s22 : shOf env.ty 22 = some .vals := by kernel_rfl
  have s29 : shOf env.ty 29 = some .vals := by kernel_rfl
  have s166 : shOf env.ty 166 = some .vals := by kernel_rfl
  obtain ⟨_, _, rfl, l1, hx1⟩ := lv_cons hx; obtain ⟨a1, rfl⟩ := lf_int l1
  obtain ⟨_, _, rfl, l2, hx2⟩ := lv_cons hx1; obtain ⟨a2, rfl⟩ := lf_int l2
  obtain ⟨_, _, rfl, l3, hx3⟩ := lv_cons hx2; obtain ⟨a3, rfl⟩ := lf_int l3
  obtain ⟨_, _, rfl, l4, hx4⟩ := lv_cons hx3; obtain ⟨a4, rfl⟩ := lf_int l4
  obtain ⟨_, _, rfl, l5, hx5⟩ := lv_cons hx4; obtain ⟨a5, rfl⟩ := lf_ints s5 l5
  obtain ⟨_, _, rfl, l6, hx6⟩ := lv_cons hx5; obtain ⟨a6, rfl⟩ := lf_vals s155 l6
  obtain ⟨_, _, rfl, l7, hx7⟩ := lv_cons hx6; obtain ⟨a7, rfl⟩ := lf_vals s22 l7
  obtain ⟨_, _, rfl, l8, hx8⟩ := lv_cons hx7; obtain ⟨a8, rfl⟩ := lf_ints s5 l8
  obtain ⟨_, _, rfl, l9, hx9⟩ := lv_cons hx8; obtain ⟨a9, rfl⟩ := lf_vals s155 l9
  obtain ⟨_, _, rfl, l10, hx10⟩ := lv_cons hx9; obtain ⟨a10, rfl⟩ := lf_vals s155 l10
  obtain ⟨_, _, rfl, l11, hx11⟩ := lv_cons hx10; obtain ⟨a11, rfl⟩ := lf_ints s3 l11
  obtain ⟨_, _, rfl, l12, hx12⟩ := lv_cons hx11; obtain ⟨a12, rfl⟩ := lf_vals s29 l12
  obtain ⟨_, _, rfl, l13, hx13⟩ := lv_cons hx12; obtain ⟨a13, rfl⟩ := lf_vals s166 l13
  obtain ⟨_, _, rfl, l14, hx14⟩ := lv_cons hx13; obtain ⟨a14, rfl⟩ := lf_bools s4 l14
  obtain ⟨_, _, rfl, l15, hx15⟩ := lv_cons hx14; obtain ⟨a15, rfl⟩ := lf_ints s5 l15
  obtain ⟨_, _, rfl, l16, hx16⟩ := lv_cons hx15; obtain ⟨a16, rfl⟩ := lf_ints s5 l16
  cases lv_nil hx16
  obtain ⟨_, _, rfl, l17, hy1⟩ := lv_cons hy; obtain ⟨a17, rfl⟩ := lf_int l17
  cases lv_nil hy1
  have w1 := u8_wf (hw 1 (.int .u8 a1) (by simp))
  have w2 := u8_wf (hw 1 (.int .u8 a2) (by simp))
  have w3 := u8_wf (hw 1 (.int .u8 a3) (by simp))
  have w5 : ∀ n ∈ a5, 0 ≤ n ∧ n ≤ 255 := fun n hn => u8_wf (hw 1 (.ints .frz .u8 a5) (by simp) n hn)
  have w8 : ∀ n ∈ a8, 0 ≤ n ∧ n ≤ 255 := fun n hn => u8_wf (hw 1 (.ints .frz .u8 a8) (by simp) n hn)
  have w17 := u8_wf (hw' 1 (.int .u8 a17) (by simp))
  have w7 : ∀ r ∈ a7, ∀ n ∈ V.toInts (V.cell r 0), 0 ≤ n ∧ n ≤ 255 := fun r hr => by
    obtain ⟨y, hv⟩ := CR_at hcr (.vals .frz 22 a7) (by simp)
    unfold VR at hv
    obtain ⟨a, cap, ei, _, _, hei, _, hok, _⟩ := hv
    have e22 : (tyAt env.ty 22).map (fun i => (i.agg, i.leaves)) = some (false, [.sl 5]) := by kernel_rfl
    rw [hei] at e22
    simp only [Option.map_some, Option.some.injEq, Prod.mk.injEq] at e22
    have h1 := hok r hr
    have h2 := (okV_cells h1).1
    rw [e22.2] at h2
    have hna : r.flat = [r] := by
      unfold okV at h1
      rw [e22.1] at h1
      cases r <;> first | rfl | simp at h1
    rw [hna] at h2
    obtain ⟨x', _, ex, l7', _⟩ := lv_cons h2
    cases ex
    obtain ⟨l, rfl⟩ := lf_ints s5 l7'
    intro n hn
    exact u8_wf ((hw 2 (.vals .frz 22 a7) (by simp)).2 _ hr (.ints .frz .u8 l) (by rw [hna]; simp) n hn)
  let M := 2000 + a12.length
  have e : w4 (fun R => f4 M) (List V) [.agg [.int .u8 a1, .int .u8 a2, .int .u8 a3, .int .u8 a4, .ints .frz .u8 a5, .vals .frz 155 a6, .vals .frz 22 a7, .ints .frz .u8 a8, .vals .frz 155 a9, .vals .frz 155 a10, .ints .frz .i64 a11, .vals .frz 29 a12, .vals .frz 166 a13, .bools .frz a14, .ints .frz .u8 a15, .ints .frz .u8 a16], .int .u8 a17] some = some [.bool true] :=
    f4_eq (R := List V) M (by omega) (by omega) (by have := (hw 1 (.vals .frz 29 a12) (by simp)).1; unfold maxLen at this; omega) w1 w2 w3 w5 w7 w8 w17 (fun y => some [.bool y])
  obtain ⟨r, hr, hp, _⟩ := g4 M (List V) _ some _ e
  cases hr
  have hc := hp W (fun b o => ∃ v, W.cell? ⟨b, o, none⟩ = some v) [.agg cs, v1] (fun b o h => ?_) ?_
  · refine hc.mono fun en w' h => ?_
    obtain ⟨c1, rs, rfl, rfl, hpo⟩ := h
    obtain ⟨h, fz, vs, _, hl, he, _⟩ := hpo.ex
    have := exp_bool he
    subst this
    unfold LR at hl
    obtain ⟨y, ys', rfl, hv, hl⟩ := hl
    unfold LR at hl
    subst hl
    unfold VR at hv
    subst hv
    exact ⟨rfl, hpo.ext.below⟩
  · obtain ⟨v, h⟩ := h
    unfold World.cell? at h
    split at h
    · rename_i c' _ _ hh
      exact (Array.getElem?_eq_some_iff.1 hh).1
    · cases h
  · unfold LR
    refine ⟨_, _, rfl, by unfold VR; exact ⟨cs, rfl, hcr⟩, ?_⟩
    unfold CR at hcr'
    obtain ⟨y, ys', e', hv, _, hl⟩ := hcr'
    unfold CR at hl
    subst hl
    cases e'
    unfold LR
    exact ⟨_, _, rfl, hv, by unfold LR; rfl⟩
end Go.Vm.T3
