/-
  A part of the proof that FabricPads answers true at every input. No condition.
-/
import Derived.ChangeArms
import Derived.DataReads
import Derived.Test.YtnjjhhbogdiceaaGreatCk
set_option linter.unusedVariables false
set_option linter.unusedSimpArgs false
set_option linter.unusedSectionVars false
namespace Go.Vm
open Go Go.RowKit
def memB (t : Nat) : List Nat → Bool
  | [] => false
  | s :: r => Nat.beq s t || memB t r
theorem memB_mem {t : Nat} : ∀ {S : List Nat}, memB t S = true → t ∈ S
  | [], h => by simp [memB] at h
  | s :: r, h => by
    unfold memB at h
    rw [Bool.or_eq_true] at h
    rcases h with h | h
    · rw [Nat.eq_of_beq_eq_true h]; exact List.mem_cons_self
    · exact List.mem_cons_of_mem _ (memB_mem h)
def flB (P : Program) (ty : Tys) (S : List Nat) : Nat → List Field → Option (List Leaf)
  | _, [] => some []
  | o, f :: r => match tyAt ty f.type, flB P ty S (o + P.cellsOf f.type) r with
    | some i, some ls => bif Nat.beq f.offset o && (Nat.beq (P.cellsOf f.type) i.leaves.length && memB f.type S) then some (i.leaves ++ ls) else none
    | _, _ => none
def arrF (P : Program) (n : Nat) (e : Nat) : List Field := (List.range n).map fun i => { name := "", type := e, offset := i * P.cellsOf e, embedded := false, tag := "", pkgPath := "", byteOffset := 0 }
def rdB (P : Program) (ty : Tys) (S : List Nat) (t : Nat) : Bool :=
  match tyAt ty t with
  | none => false
  | some i => match P.underlying t with
    | some (.struct fs) => i.agg && (match flB P ty S 0 fs.toList with | some ls => decide (ls = i.leaves) && Nat.beq (P.cellsOf t) ls.length | none => false)
    | some (.array n e) => i.agg && (match flB P ty S 0 (arrF P n e) with | some ls => decide (ls = i.leaves) && Nat.beq (P.cellsOf t) ls.length | none => false)
    | some (.slice e) => !i.agg && (decide (i.leaves = [.sl e]) && (memB e S && (match tyAt ty e with | some ei => Nat.beq (P.cellsOf e) ei.leaves.length && (Nat.ble 1 ei.leaves.length && (ei.agg || Nat.beq ei.leaves.length 1)) | none => false)))
    | some (.int k) => !i.agg && decide (i.leaves = [.int k])
    | some .bool => !i.agg && decide (i.leaves = [.bool])
    | _ => false
def WF : Nat → V → Prop
  | 0, _ => True
  | _ + 1, .int k n => (Lit.int k n).wf = true
  | _ + 1, .ints _ k l => ∀ n ∈ l, (Lit.int k n).wf = true
  | d + 1, .vals _ _ l => l.length ≤ maxLen ∧ ∀ x ∈ l, ∀ c ∈ x.flat, WF d c
  | _ + 1, _ => True
theorem CR_app {ty : Tys} {c : Ctx} {b : List V} {b' : List Value} (h' : CR ty c b b') : ∀ {xs : List V} {ys : List Value}, CR ty c xs ys → CR ty c (xs ++ b) (ys ++ b')
  | [], _, h => by unfold CR at h; subst h; exact h'
  | v :: r, _, h => by
    unfold CR at h
    obtain ⟨y, ys, rfl, h1, h2, h⟩ := h
    show CR ty c (v :: (r ++ b)) (y :: (ys ++ b'))
    unfold CR
    exact ⟨y, ys ++ b', rfl, h1, h2, CR_app h' h⟩
theorem leavesOk_app {ty : Tys} {tag : Tag} {ls' : List Leaf} {xs' : List V} (h' : leavesOk ty tag ls' xs' = true) : ∀ {ls : List Leaf} {xs : List V}, leavesOk ty tag ls xs = true → leavesOk ty tag (ls ++ ls') (xs ++ xs') = true
  | [], [], _ => h'
  | l :: r, x :: s, h => by
    simp only [leavesOk, List.cons_append, Bool.and_eq_true] at h ⊢
    exact ⟨h.1, leavesOk_app h' h.2⟩
  | [], _ :: _, h => by simp [leavesOk] at h
  | _ :: _, [], h => by simp [leavesOk] at h
section
variable {P : Program} {ty : Tys} {S : List Nat} {c : Ctx} {H : Type} {enc : TypeId × Value → H} {base : Nat} {spare : Nat → Bool} {held : Bool}
def Conv (ty : Tys) (c : Ctx) (t : Nat) (cs : List Value) : Prop :=
  ∃ i xs, tyAt ty t = some i ∧ leavesOk ty .frz i.leaves xs = true ∧ CR ty c xs cs ∧ ∀ d, ∀ v ∈ xs, WF d v
theorem conv_fields {cs : List Value} : ∀ (fs : List Field) (o : Nat) (ls : List Leaf), flB P ty S o fs = some ls → o + ls.length = cs.length → (∀ f ∈ fs, f.type ∈ S → Conv ty c f.type ((cs.drop f.offset).take (P.cellsOf f.type))) →
    ∃ xs, leavesOk ty .frz ls xs = true ∧ CR ty c xs (cs.drop o) ∧ ∀ d, ∀ v ∈ xs, WF d v
  | [], o, ls, h, hl, _ => by
    unfold flB at h
    cases h
    refine ⟨[], rfl, ?_, by simp⟩
    rw [List.drop_eq_nil_of_le (by simp at hl; omega)]
    unfold CR; rfl
  | f :: r, o, ls, h, hl, hc => by
    unfold flB at h
    cases hi : tyAt ty f.type with
    | none => rw [hi] at h; simp at h
    | some i =>
      cases hr : flB P ty S (o + P.cellsOf f.type) r with
      | none => rw [hi, hr] at h; simp at h
      | some lr =>
        rw [hi, hr] at h
        simp only at h
        cases hb : Nat.beq f.offset o && (Nat.beq (P.cellsOf f.type) i.leaves.length && memB f.type S) with
        | false => rw [hb] at h; simp at h
        | true =>
          rw [hb] at h
          simp only [cond_true, Option.some.injEq] at h
          subst h
          rw [Bool.and_eq_true, Bool.and_eq_true] at hb
          have ho := Nat.eq_of_beq_eq_true hb.1
          have hlen := Nat.eq_of_beq_eq_true hb.2.1
          have hm := memB_mem hb.2.2
          obtain ⟨i', xs, hi', hx, hcr, hw⟩ := hc f List.mem_cons_self hm
          rw [hi] at hi'; cases hi'
          rw [List.length_append] at hl
          obtain ⟨ys, hy, hcy, hwy⟩ := conv_fields r (o + P.cellsOf f.type) lr hr (by omega) fun f' hf' => hc f' (List.mem_cons_of_mem _ hf')
          refine ⟨xs ++ ys, leavesOk_app hy hx, ?_, fun d v hv => ?_⟩
          · have := CR_app hcy hcr
            rw [ho, ← List.drop_drop, List.take_append_drop] at this
            exact this
          · rcases List.mem_append.1 hv with hv | hv
            · exact hw d v hv
            · exact hwy d v hv
theorem trod_arr {n e t : Nat} {fuel : Nat} {cs : List Value} {x : DataW H × List MemPlace} {w : World} (ht : P.underlying t = some (.array n e)) (h : DataW.trod enc P w base spare held fuel t cs = some x) :
    ∃ (xs : List (DataW H × List MemPlace)) (m : Nat), fuel = m + 1 ∧ cs.length = P.cellsOf t ∧ xs.length = n ∧ ∀ i, i < n → DataW.trod enc P w base spare held m e ((cs.drop (i * P.cellsOf e)).take (P.cellsOf e)) = xs[i]? := by
  cases fuel with
  | zero => simp [DataW.trod] at h
  | succ m =>
    unfold DataW.trod at h
    rw [ht] at h
    split at h <;> simp_all
    obtain ⟨hl, xs, hp, hd⟩ := h
    exact ⟨xs, by simpa using mapM_some_length hp, fun i hi => mapM_some_get hp i i (by simp [hi])⟩
theorem list_of {α : Type} : ∀ {n : Nat} {p : Nat → α → Prop}, (∀ i, i < n → ∃ x, p i x) → ∃ l : List α, l.length = n ∧ ∀ i (h : i < l.length), p i l[i]
  | 0, p, h => ⟨[], rfl, fun i h => by simp at h⟩
  | n + 1, p, h => by
    obtain ⟨x, hx⟩ := h 0 (by omega)
    obtain ⟨l, hl, hp⟩ := list_of (n := n) (p := fun i x => p (i + 1) x) fun i hi => h (i + 1) (by omega)
    refine ⟨x :: l, by simp [hl], fun i hi => ?_⟩
    cases i with
    | zero => exact hx
    | succ i => exact hp i (by simpa using hi)
theorem spot_of {w : World} {a : Addr} {v : Value} (h : w.cell? a = some v) : a = ⟨a.block, a.off, none⟩ := by
  obtain ⟨b, o, sp⟩ := a
  cases sp with
  | none => rfl
  | some s =>
    exfalso
    unfold World.cell? at h
    split at h
    · simp at h
    · simp at h
theorem add_zero' (a : Addr) : a.add 0 = a := by unfold Addr.add; simp
theorem add_plain (b o i : Nat) : (⟨b, o, none⟩ : Addr).add i = ⟨b, o + i, none⟩ := by
  unfold Addr.add
  split
  · rename_i h; simp_all
  · rfl
theorem cell_one {k : Leaf} {xs : List V} (h : leavesOk ty .frz [k] xs = true) : ∃ x, xs = [x] ∧ leafOk ty .frz k x = true := by
  match xs, h with
  | [], h => simp [leavesOk] at h
  | [x], h => simp [leavesOk] at h; exact ⟨x, rfl, h⟩
  | _ :: _ :: _, h => simp [leavesOk] at h
theorem CR_get : ∀ {xs : List V} {ys : List Value}, CR ty c xs ys → ∀ y ∈ ys, isCell y
  | [], _, h, y, hy => by unfold CR at h; rw [h] at hy; simp at hy
  | v :: r, _, h, y, hy => by
    unfold CR at h
    obtain ⟨y', ys, rfl, _, h2, h⟩ := h
    rcases List.mem_cons.1 hy with rfl | hy
    · exact h2
    · exact CR_get h y hy
theorem ER_of {sz : Nat} {b : Nat} : ∀ {l : List V} {o : Nat}, (∀ i (h : i < l.length), ∃ y, VR ty c l[i] y ∧ y.cells.size = sz ∧ ∀ j, j < sz → Imm c .frz b (o + i * sz + j) ∧ c.w.cell? ⟨b, o + i * sz + j, none⟩ = y.cells[j]?) → ER ty c .frz sz l b o
  | [], o, h => by unfold ER; trivial
  | v :: r, o, h => by
    unfold ER
    refine ⟨?_, ER_of fun i hi => ?_⟩
    · have := h 0 (by simp)
      simpa using this
    · have := h (i + 1) (by simpa using hi)
      rw [show o + (i + 1) * sz = o + sz + i * sz from by rw [Nat.add_mul]; omega] at this
      exact this
theorem cells_cell {y : Value} (h : isCell y) : y.cells = #[y] := by
  cases y <;> first | rfl | exact h.elim
theorem conv_slice {e : Nat} {ei : TyI} (hI : ∀ b o v, c.w.cell? ⟨b, o, none⟩ = some v → c.I b o) (he : tyAt ty e = some ei) (hn : 1 ≤ ei.leaves.length) (h1 : ei.agg = true ∨ ei.leaves.length = 1) {a : Addr} {len cap : Nat} (hl : len ≤ cap) (hcm : cap ≤ maxLen)
    (hel : ∀ i, i < len → ∃ cs, c.w.cells? base (a.add (i * ei.leaves.length)) ei.leaves.length = some cs ∧ Conv ty c e cs) :
    ∃ x, slOk ty .frz e x = true ∧ VR ty c x (.slice (some a) len cap) ∧ ∀ d, WF d x := by
  have ha : 0 < len → a = ⟨a.block, a.off, none⟩ := fun h0 => by
    obtain ⟨cs, hc, _⟩ := hel 0 h0
    obtain ⟨_, hlen, hcell⟩ := World.cells?_some hc
    have := hcell 0 (by omega)
    rw [List.getElem?_eq_getElem (by omega), Nat.zero_mul, add_zero', add_zero'] at this
    exact spot_of this
  have hel' : ∀ i, i < len → ∃ cs xs, cs.length = ei.leaves.length ∧ (∀ j, j < ei.leaves.length → a = ⟨a.block, a.off, none⟩ ∧ c.w.cell? ⟨a.block, a.off + i * ei.leaves.length + j, none⟩ = cs[j]? ∧ c.I a.block (a.off + i * ei.leaves.length + j)) ∧ leavesOk ty .frz ei.leaves xs = true ∧ CR ty c xs cs ∧ ∀ d, ∀ v ∈ xs, WF d v := fun i hi => by
    obtain ⟨cs, hc, i', xs, hi', hx, hcr, hw⟩ := hel i hi
    rw [he] at hi'; cases hi'
    obtain ⟨_, hlen, hcell⟩ := World.cells?_some hc
    refine ⟨cs, xs, hlen, fun j hj => ?_, hx, hcr, hw⟩
    have := hcell j hj
    rw [List.getElem?_eq_getElem (by omega)] at this
    have hadd : (a.add (i * ei.leaves.length)).add j = ⟨a.block, a.off + i * ei.leaves.length + j, none⟩ := by
      have ha' := ha (by omega)
      generalize a.block = b at ha'
      generalize a.off = o at ha'
      rw [ha', add_plain, add_plain]
    rw [hadd] at this
    exact ⟨ha (by omega), by rw [this, List.getElem?_eq_getElem (by omega)], hI _ _ _ this⟩
  have hv : ∃ o, a.off = o := ⟨_, rfl⟩
  cases hs : shOf ty e with
  | none =>
    exfalso
    unfold shOf at hs
    rw [he] at hs
    simp only at hs
    split at hs
    · simp at hs
    · simp at hs
    · simp at hs
    · rename_i h; rw [h] at hn; simp at hn
  | some sh =>
    cases sh with
    | ints k =>
      obtain ⟨ei', he', hag, hl1, hk, _⟩ := shOf_one hs (by simp)
      rw [he] at he'; cases he'
      have hk := hk k rfl
      obtain ⟨l, hll, hp⟩ := list_of (n := len) (p := fun i (n : Int) => a = ⟨a.block, a.off, none⟩ ∧ c.w.cell? ⟨a.block, a.off + i, none⟩ = some (.int k n) ∧ c.I a.block (a.off + i) ∧ (Lit.int k n).wf = true) fun i hi => by
        obtain ⟨cs, xs, h2, h3, h4, h5, h6⟩ := hel' i hi
        rw [hk] at h4 h3 h2
        obtain ⟨x, rfl, hx⟩ := cell_one h4
        have h7 := h3 0 (by simp)
        simp only [List.length_singleton, Nat.mul_one, Nat.add_zero] at h7
        unfold CR at h5
        obtain ⟨y, ys, rfl, h8, _, h9⟩ := h5
        cases x with
        | int k' n =>
          unfold VR at h8
          have hkk : k = k' := by
            simp only [leafOk] at hx
            revert hx; cases k <;> cases k' <;> simp [IntKind.same]
          subst hkk
          refine ⟨n, h7.1, by rw [h7.2.1, h8]; rfl, h7.2.2, ?_⟩
          exact h6 1 _ (List.mem_singleton.2 rfl)
        | _ => simp [leafOk] at hx
      subst hll
      refine ⟨.ints .frz k l, by unfold slOk; rw [hs]; simp [Tag.same, same_refl], ?_, fun d => ?_⟩
      · unfold VR
        refine ⟨some a, cap, rfl, hl, ?_⟩
        by_cases hn : l = []
        · exact .inl hn
        · have h0 : 0 < l.length := List.length_pos_iff.2 hn
          right
          exact ⟨a.block, a.off, congrArg some (ha h0), fun j hj => ⟨(hp j hj).2.2.1, (hp j hj).2.1⟩⟩
      · cases d with
        | zero => trivial
        | succ d =>
          intro n hn
          obtain ⟨j, hj, rfl⟩ := List.mem_iff_getElem.1 hn
          exact (hp j hj).2.2.2
    | bools =>
      obtain ⟨ei', he', hag, hl1, _, hk⟩ := shOf_one hs (by simp)
      rw [he] at he'; cases he'
      have hk := hk rfl
      obtain ⟨l, hll, hp⟩ := list_of (n := len) (p := fun i (n : Bool) => a = ⟨a.block, a.off, none⟩ ∧ c.w.cell? ⟨a.block, a.off + i, none⟩ = some (.bool n) ∧ c.I a.block (a.off + i)) fun i hi => by
        obtain ⟨cs, xs, h2, h3, h4, h5, h6⟩ := hel' i hi
        rw [hk] at h4 h3 h2
        obtain ⟨x, rfl, hx⟩ := cell_one h4
        have h7 := h3 0 (by simp)
        simp only [List.length_singleton, Nat.mul_one, Nat.add_zero] at h7
        unfold CR at h5
        obtain ⟨y, ys, rfl, h8, _, h9⟩ := h5
        cases x with
        | bool n =>
          unfold VR at h8
          exact ⟨n, h7.1, by rw [h7.2.1, h8]; rfl, h7.2.2⟩
        | _ => simp [leafOk] at hx
      subst hll
      refine ⟨.bools .frz l, by unfold slOk; rw [hs]; simp [Tag.same], ?_, fun d => by cases d <;> trivial⟩
      unfold VR
      refine ⟨some a, cap, rfl, hl, ?_⟩
      by_cases hn : l = []
      · exact .inl hn
      · have h0 : 0 < l.length := List.length_pos_iff.2 hn
        right
        exact ⟨a.block, a.off, congrArg some (ha h0), fun j hj => ⟨(hp j hj).2.2, (hp j hj).2.1⟩⟩
    | vals =>
      obtain ⟨l, hll, hp⟩ := list_of (n := len) (p := fun i (v : V) => okV ty .frz ei v = true ∧ (∀ d, ∀ c ∈ v.flat, WF d c) ∧ ∃ y, VR ty c v y ∧ y.cells.size = ei.leaves.length ∧ ∀ j, j < ei.leaves.length → Imm c .frz a.block (a.off + i * ei.leaves.length + j) ∧ c.w.cell? ⟨a.block, a.off + i * ei.leaves.length + j, none⟩ = y.cells[j]?) fun i hi => by
        obtain ⟨cs, xs, h2, h3, h4, h5, h6⟩ := hel' i hi
        cases hag : ei.agg with
        | true =>
          refine ⟨.agg xs, by unfold okV; rw [hag]; exact h4, fun d c hc => h6 d c hc, .agg cs.toArray, by unfold VR; exact ⟨_, rfl, h5⟩, by simpa [Value.cells] using h2, fun j hj => ⟨(h3 j hj).2.2, ?_⟩⟩
          rw [(h3 j hj).2.1]; simp [Value.cells]
        | false =>
          have h1' : ei.leaves.length = 1 := by rcases h1 with h | h; rw [hag] at h; cases h; exact h
          obtain ⟨k, hk⟩ : ∃ k, ei.leaves = [k] := List.length_eq_one_iff.1 h1'
          rw [hk] at h4
          obtain ⟨x, rfl, hx⟩ := cell_one h4
          have hna : ∀ l, x ≠ .agg l := (leavesOk_plain h4 x (List.mem_singleton.2 rfl)).2.2
          have hok : okV ty .frz ei x = true := by
            unfold okV; rw [hag, hk]
            cases x <;> first | exact h4 | exact absurd rfl (hna _)
          have hfl : x.flat = [x] := by
            cases x <;> first | rfl | exact absurd rfl (hna _)
          have hic := CR_get h5
          unfold CR at h5
          obtain ⟨y, ys, rfl, h8, h9, h10⟩ := h5
          unfold CR at h10
          subst h10
          refine ⟨x, hok, fun d c hc => by rw [hfl] at hc; exact h6 d c hc, y, h8, by rw [cells_cell h9, h1']; rfl, fun j hj => ⟨(h3 j hj).2.2, ?_⟩⟩
          rw [(h3 j hj).2.1, cells_cell h9]; simp
      subst hll
      refine ⟨.vals .frz e l, by unfold slOk; rw [hs]; simp [Tag.same], ?_, fun d => ?_⟩
      · unfold VR
        refine ⟨some a, cap, ei, rfl, hl, he, hs, fun v hv => ?_, ?_⟩
        · obtain ⟨j, hj, rfl⟩ := List.mem_iff_getElem.1 hv
          exact (hp j hj).1
        · by_cases hn : l = []
          · exact .inl hn
          · have h0 : 0 < l.length := List.length_pos_iff.2 hn
            right
            exact ⟨a.block, a.off, congrArg some (ha h0), ER_of fun i hi => (hp i hi).2.2⟩
      · cases d with
        | zero => trivial
        | succ d =>
          refine ⟨Nat.le_trans hl hcm, fun v hv => ?_⟩
          obtain ⟨j, hj, rfl⟩ := List.mem_iff_getElem.1 hv
          exact (hp j hj).2.1 d
theorem conv_nil {e : Nat} {ei : TyI} (he : tyAt ty e = some ei) (hn : 1 ≤ ei.leaves.length) : ∃ x, slOk ty .frz e x = true ∧ VR ty c x (.slice none 0 0) ∧ ∀ d, WF d x := by
  cases hs : shOf ty e with
  | none =>
    exfalso
    unfold shOf at hs
    rw [he] at hs
    simp only at hs
    split at hs
    · simp at hs
    · simp at hs
    · simp at hs
    · rename_i h; rw [h] at hn; simp at hn
  | some sh =>
    cases sh with
    | ints k => exact ⟨.ints .frz k [], by unfold slOk; rw [hs]; simp [Tag.same, same_refl], by unfold VR; exact ⟨none, 0, rfl, Nat.le_refl _, .inl rfl⟩, fun d => by cases d; trivial; intro n hn; simp at hn⟩
    | bools => exact ⟨.bools .frz [], by unfold slOk; rw [hs]; simp [Tag.same], by unfold VR; exact ⟨none, 0, rfl, Nat.le_refl _, .inl rfl⟩, fun d => by cases d <;> trivial⟩
    | vals => exact ⟨.vals .frz e [], by unfold slOk; rw [hs]; simp [Tag.same], by unfold VR; exact ⟨none, 0, ei, rfl, Nat.le_refl _, he, hs, by simp, .inl rfl⟩, fun d => by cases d; trivial; exact ⟨Nat.zero_le _, fun n hn => by simp at hn⟩⟩
theorem conv_ok (hS : ∀ t ∈ S, rdB P ty S t = true) (hI : ∀ b o v, c.w.cell? ⟨b, o, none⟩ = some v → c.I b o) : ∀ (fuel : Nat) (t : Nat) (cs : List Value) (x : DataW H × List MemPlace), t ∈ S → DataW.trod enc P c.w base spare held fuel t cs = some x → Conv ty c t cs
  | 0, _, _, _, _, h => by simp [DataW.trod] at h
  | fuel + 1, t, cs, x, ht, h => by
    have hr := hS t ht
    unfold rdB at hr
    cases hi : tyAt ty t with
    | none => rw [hi] at hr; simp at hr
    | some i =>
      rw [hi] at hr
      simp only at hr
      split at hr
      · rename_i fs hu
        rw [Bool.and_eq_true] at hr
        obtain ⟨xs, n, hf, _, hlen, hxl, hx⟩ := DataW.trod_struct hu h
        cases hf
        cases hfl : flB P ty S 0 fs.toList with
        | none => rw [hfl] at hr; simp at hr
        | some ls =>
          rw [hfl] at hr
          simp only [Bool.and_eq_true, decide_eq_true_eq] at hr
          have hll := Nat.eq_of_beq_eq_true hr.2.2
          obtain ⟨ys, h1, h2, h3⟩ := conv_fields (P := P) (S := S) (ty := ty) (c := c) (cs := cs) fs.toList 0 ls hfl (by omega) fun f hf hm => by
            obtain ⟨j, hj, e⟩ := List.mem_iff_getElem.1 hf
            have hj' : j < fs.size := by simpa using hj
            have := hx j f (by rw [Array.getElem?_eq_getElem hj']; simpa using e)
            rw [List.getElem?_eq_getElem (by omega)] at this
            exact conv_ok hS hI fuel _ _ _ hm this
          exact ⟨i, ys, hi, by rw [← hr.2.1]; exact h1, by simpa using h2, h3⟩
      · rename_i n e hu
        rw [Bool.and_eq_true] at hr
        obtain ⟨xs, n', hf, hlen, hxl, hx⟩ := trod_arr hu h
        cases hf
        cases hfl : flB P ty S 0 (arrF P n e) with
        | none => rw [hfl] at hr; simp at hr
        | some ls =>
          rw [hfl] at hr
          simp only [Bool.and_eq_true, decide_eq_true_eq] at hr
          have hll := Nat.eq_of_beq_eq_true hr.2.2
          obtain ⟨ys, h1, h2, h3⟩ := conv_fields (P := P) (S := S) (ty := ty) (c := c) (cs := cs) (arrF P n e) 0 ls hfl (by omega) fun f hf hm => by
            unfold arrF at hf
            obtain ⟨j, hj, rfl⟩ := List.mem_map.1 hf
            rw [List.mem_range] at hj
            have := hx j hj
            rw [List.getElem?_eq_getElem (by omega)] at this
            exact conv_ok hS hI fuel _ _ _ hm this
          exact ⟨i, ys, hi, by rw [← hr.2.1]; exact h1, by simpa using h2, h3⟩
      · rename_i e hu
        rw [Bool.and_eq_true, Bool.and_eq_true, Bool.and_eq_true, decide_eq_true_eq] at hr
        obtain ⟨_, hls, hm, he'⟩ := hr
        cases he : tyAt ty e with
        | none => rw [he] at he'; simp at he'
        | some ei =>
          rw [he] at he'
          simp only [Bool.and_eq_true, Bool.or_eq_true] at he'
          obtain ⟨hce, hn, ha⟩ := he'
          have hce := Nat.eq_of_beq_eq_true hce
          have hn := Nat.le_of_ble_eq_true hn
          have key : ∃ x, slOk ty .frz e x = true ∧ (∃ y, cs = [y] ∧ isCell y ∧ VR ty c x y) ∧ ∀ d, WF d x := by
            rcases DataW.trod_slice hu h with ⟨hcs, _⟩ | ⟨a, len, cap, elems, rest, n, hf, hcs, _, _, hl, hcm, hel, hels, _⟩
            · obtain ⟨x, x1, x2, x3⟩ := conv_nil (c := c) he hn
              exact ⟨x, x1, ⟨_, hcs, trivial, x2⟩, x3⟩
            · cases hf
              obtain ⟨x, x1, x2, x3⟩ := conv_slice (base := base) (e := e) (ei := ei) (a := a) hI he hn (ha.imp id fun h => Nat.eq_of_beq_eq_true h) hl hcm fun j hj => by
                have := hels j hj
                rw [List.getElem?_eq_getElem (by omega), hce, Option.bind_eq_some_iff] at this
                obtain ⟨cs', e1, e2⟩ := this
                exact ⟨cs', e1, conv_ok hS hI fuel _ _ _ (memB_mem hm) e2⟩
              exact ⟨x, x1, ⟨_, hcs, trivial, x2⟩, x3⟩
          obtain ⟨x, x1, ⟨y, rfl, x2, x3⟩, x4⟩ := key
          refine ⟨i, [x], hi, ?_, ?_, fun d v hv => by rw [List.mem_singleton] at hv; subst hv; exact x4 d⟩
          · rw [hls]; simp [leavesOk, leafOk, x1]
          · unfold CR; exact ⟨y, [], rfl, x3, x2, by unfold CR; rfl⟩
      · rename_i k hu
        rw [Bool.and_eq_true, decide_eq_true_eq] at hr
        obtain ⟨n, rfl, _, hw⟩ := DataW.trod_int hu h
        refine ⟨i, [.int k n], hi, by rw [hr.2]; simp [leavesOk, leafOk, same_refl], ?_, fun d v hv => ?_⟩
        · unfold CR; exact ⟨_, [], rfl, by unfold VR; rfl, trivial, by unfold CR; rfl⟩
        · rw [List.mem_singleton] at hv; subst hv
          cases d with
          | zero => trivial
          | succ d => exact hw
      · rename_i hu
        rw [Bool.and_eq_true, decide_eq_true_eq] at hr
        obtain ⟨b, rfl, _⟩ := DataW.trod_bool hu h
        refine ⟨i, [.bool b], hi, by rw [hr.2]; simp [leavesOk, leafOk], ?_, fun d v hv => ?_⟩
        · unfold CR; exact ⟨_, [], rfl, by unfold VR; rfl, trivial, by unfold CR; rfl⟩
        · rw [List.mem_singleton] at hv; subst hv
          cases d <;> trivial
      · simp at hr
end
end Go.Vm
namespace Go.Vm.T3
open Go Go.Vm
theorem rd_all : [5, 3, 4, 22, 24, 25, 26, 28, 29, 30, 32, 33, 34, 36, 38, 155, 166].all (rdB Go.Proofs.Tryz.prog tys [5, 3, 4, 22, 24, 25, 26, 28, 29, 30, 32, 33, 34, 36, 38, 155, 166]) = true := by kernel_rfl
end Go.Vm.T3
