/-
  A part of the proof that FabricPads answers true at every input. No condition.
-/
import Derived.Test.YtnjjhhbogdiceaaGreatP0
set_option linter.unusedVariables false
set_option linter.unusedSimpArgs false
set_option linter.unusedSectionVars false
section
namespace Go.Vm.T3
open Go Go.Vm
section
variable {R : Type}
theorem comp {W H T P : Int} {K : List Int} {b : Int} {l2 o : List Int} {k0 : Int → Int → Bool → List Int → Option R} {B N : Nat} (hN : N ≤ 1000) (ho : o.length = N) (hs : o.Pairwise (· ≤ ·)) : ∀ (d k c m : Nat) (l : List Int), l.length = N → 1 ≤ c → B + c + d = N → k < B + c → d ≤ m →
    (∀ t, B + c ≤ t + 1 → l[t]? = o[t]?) → (l.take k).Pairwise (· < ·) → (∀ x, x ∈ l.take k ↔ x ∈ o.take (B + c)) → (∀ x ∈ l.take k, ∀ u, o[B + c - 1]? = some u → x ≤ u) →
    ∃ (k' : Nat) (l' : List Int), rounds (fun (g : Int × Int × (List Int) → Option R) (a : Int × Int × (List Int)) => f85L9of36 B (N - B) W H T P K b l2 k0 (fun y0 y1 y2 => g (y0, y1, y2)) a.1 a.2.1 a.2.2) m ((k : Int), (c : Int), l) = k0 k' ((N - B : Nat) : Int) false l' ∧
      l'.length = N ∧ k' ≤ N ∧ (l'.take k').Pairwise (· < ·) ∧ ∀ x, x ∈ l'.take k' ↔ x ∈ o
  | 0, k, c, m, l, hl, hc, hd, hk, hm, h1, h2, h3, h4 => by
    refine ⟨k, l, rounds_exit (fun G => ?_) m, hl, by omega, h2, fun x => ?_⟩
    · simp only
      unfold f85L9of36
      simp only [c_lt, lenI]
      rw [if_neg (by omega), show c = N - B from by omega]
      simp [ltI]
    · rw [h3, List.take_of_length_le (by omega)]
  | d + 1, k, c, m, l, hl, hc, hd, hk, hm, h1, h2, h3, h4 => by
    obtain ⟨m, rfl⟩ : ∃ m', m = m' + 1 := ⟨m - 1, by omega⟩
    have ih := fun k c l => comp (W := W) (H := H) (T := T) (P := P) (K := K) (b := b) (l2 := l2) (k0 := k0) (B := B) hN ho hs d k c m l
    rw [rounds_succ]
    revert ih
    generalize rounds _ m = G
    intro ih
    simp only
    have hlt : B + c < l.length := by omega
    have hlt2 : B + c - 1 < l.length := by omega
    have ho1 : B + c < o.length := by omega
    have ho2 : B + c - 1 < o.length := by omega
    have ev : l[B + c] = o[B + c] := by
      have := h1 (B + c) (by omega)
      rw [List.getElem?_eq_getElem hlt, List.getElem?_eq_getElem ho1] at this
      exact Option.some.inj this
    have eu : l[B + c - 1] = o[B + c - 1] := by
      have := h1 (B + c - 1) (by omega)
      rw [List.getElem?_eq_getElem hlt2, List.getElem?_eq_getElem ho2] at this
      exact Option.some.inj this
    have huv : o[B + c - 1] ≤ o[B + c] := List.pairwise_iff_getElem.1 hs _ _ ho2 ho1 (by omega)
    have e : f85L9of36 B (N - B) W H T P K b l2 k0 (fun y0 y1 y2 => G (y0, y1, y2)) (k : Int) (c : Int) l = if o[B + c] = o[B + c - 1] then G ((k : Int), ((c + 1 : Nat) : Int), l) else G (((k + 1 : Nat) : Int), ((c + 1 : Nat) : Int), l.set k o[B + c]) := by
      unfold f85L9of36
      simp only [c_lt, lenI, c_ne]
      rw [subI_ok (by omega), if_pos (by omega), g_inR (by omega), g_inR (by omega), g_inR (by omega), g_inR (by omega), show (Int.toNat (c : Int)) = c from by simp, show B + Int.toNat ((c : Int) - 1) = B + c - 1 from by omega, getD_lt hlt, getD_lt hlt2, ev, eu, addI_ok (by omega), addI_ok (by omega)]
      by_cases hb : o[B + c] = o[B + c - 1]
      · rw [if_pos hb, if_pos hb]; simp
      · rw [if_neg hb, if_neg hb]; simp
    rw [e]
    have htake : o.take (B + (c + 1)) = o.take (B + c) ++ [o[B + c]] := by
      rw [← Nat.add_assoc, List.take_add_one, List.getElem?_eq_getElem ho1]; rfl
    by_cases hb : o[B + c] = o[B + c - 1]
    · rw [if_pos hb]
      refine ih k (c + 1) l hl (by omega) (by omega) (by omega) (by omega) (fun t ht => h1 t (by omega)) h2 (fun x => ?_) (fun x hx u hu => ?_)
      · rw [h3, htake, List.mem_append, List.mem_singleton]
        constructor
        · exact .inl
        · rintro (h | rfl)
          · exact h
          · rw [hb]
            rw [List.mem_take_iff_getElem]
            exact ⟨B + c - 1, by omega, rfl⟩
      · rw [show B + (c + 1) - 1 = B + c from by omega, List.getElem?_eq_getElem ho1] at hu
        cases hu
        have := h4 x hx _ (List.getElem?_eq_getElem ho2)
        omega
    · rw [if_neg hb]
      have hlast : ∀ x ∈ l.take k, x < o[B + c] := fun x hx => by
        have := h4 x hx _ (List.getElem?_eq_getElem ho2)
        omega
      refine ih (k + 1) (c + 1) (l.set k o[B + c]) (by simpa using hl) (by omega) (by omega) (by omega) (by omega) (fun t ht => ?_) ?_ (fun x => ?_) (fun x hx u hu => ?_)
      · rw [List.getElem?_set_ne (by omega)]; exact h1 t (by omega)
      · rw [take_set_succ (by omega), List.pairwise_append]
        exact ⟨h2, by simp, fun x hx y hy => by rw [List.mem_singleton] at hy; subst hy; exact hlast x hx⟩
      · rw [take_set_succ (by omega), htake, List.mem_append, List.mem_append, h3]
      · rw [show B + (c + 1) - 1 = B + c from by omega, List.getElem?_eq_getElem ho1] at hu
        cases hu
        rw [take_set_succ (by omega), List.mem_append, List.mem_singleton] at hx
        rcases hx with hx | rfl
        · exact Int.le_of_lt (hlast x hx)
        · exact Int.le_refl _
theorem dup {W H T P : Int} {K l l2 : List Int} {b : Int} (M : Nat) {k0 : Nat → Nat → Int → Nat → Nat → Int → Bool → List Int → Option R} {k1 : Int → Bool → Option R} (hn : l.length ≤ 1000) : ∀ (d i m : Nat), i + d = l.length → 1 ≤ i → d ≤ m →
    (∃ j : Nat, i ≤ j ∧ ∃ h : j < l.length, l[j] = l[j - 1] ∧ (∀ t (ht : t < l.length), i ≤ t → t < j → l[t] ≠ l[t - 1]) ∧
      rounds (fun (g : Int → Option R) (a : Int) => f85L4of36 (f85L9of36S M) W H T P K l b l2 k0 k1 (fun y0 => g y0) a) m (i : Int) =
        f85L9of36S M j (l.length - j) W H T P K b l2 j 1 l (fun z131 z132 z133 z134 =>
    gd (inS z131 (lenI z134.length) z134.length) <|
    gd (inS 0 z131 ((List.take (Int.toNat z131) z134) ++ (List.replicate (z134.length - (Int.toNat z131)) 0) ++ (List.drop ((Int.toNat z131) + (z134.length - (Int.toNat z131))) z134)).length) <|
    k0 0 (Int.toNat z131) z131 j (l.length - j) z132 z133 ((List.take (Int.toNat z131) z134) ++ (List.replicate (z134.length - (Int.toNat z131)) 0) ++ (List.drop ((Int.toNat z131) + (z134.length - (Int.toNat z131))) z134)))) ∨
    ((∀ t (ht : t < l.length), i ≤ t → l[t] ≠ l[t - 1]) ∧ rounds (fun (g : Int → Option R) (a : Int) => f85L4of36 (f85L9of36S M) W H T P K l b l2 k0 k1 (fun y0 => g y0) a) m (i : Int) = k1 l.length false)
  | 0, i, m, hi, h1i, hm => by
    right
    refine ⟨fun t ht h => by omega, rounds_exit (fun G => ?_) m⟩
    unfold f85L4of36
    simp only [c_lt, lenI]
    rw [if_neg (by omega), show i = l.length from by omega]
    simp [ltI]
  | d + 1, i, m, hi, h1i, hm => by
    obtain ⟨m, rfl⟩ : ∃ m', m = m' + 1 := ⟨m - 1, by omega⟩
    have ih := dup (W := W) (H := H) (T := T) (P := P) (K := K) (b := b) (l2 := l2) M (k0 := k0) (k1 := k1) hn d (i + 1) m (by omega) (by omega) (by omega)
    rw [rounds_succ]
    revert ih
    generalize rounds _ m = G
    intro ih
    have hlt : i < l.length := by omega
    have hlt2 : i - 1 < l.length := by omega
    unfold f85L4of36
    simp only [c_lt, lenI, c_eq]
    rw [subI_ok (by omega), if_pos (by omega), g_inR (by omega), g_inR (by omega), show (Int.toNat (i : Int)) = i from by simp, show Int.toNat ((i : Int) - 1) = i - 1 from by omega, getD_lt hlt, getD_lt hlt2, addI_ok (by omega)]
    by_cases hb : l[i] = l[i - 1]
    · rw [if_pos hb, g_inS (by omega)]
      exact .inl ⟨i, Nat.le_refl _, hlt, hb, fun t ht h1 h2 => by omega, rfl⟩
    · rw [if_neg hb]
      have e1 : ((i : Int) + 1) = ((i + 1 : Nat) : Int) := by omega
      rw [e1]
      rcases ih with ⟨j, h1, h2, h3, h4, h5⟩ | ⟨h1, h2⟩
      · refine .inl ⟨j, by omega, h2, h3, fun t ht g1 g2 => ?_, h5⟩
        by_cases e : t = i
        · subst e; exact hb
        · exact h4 t ht (by omega) g2
      · refine .inr ⟨fun t ht g1 => ?_, h2⟩
        by_cases e : t = i
        · subst e; exact hb
        · exact h1 t ht (by omega)
end
end Go.Vm.T3
end
section
namespace Go.Vm.T3
open Go Go.Vm
section
variable {R : Type}
theorem filt {s : List Int} {b : Int} {j : Nat} (h : j < s.length) (hb : s[j] = b) (hn : ∀ t (ht : t < s.length), 0 ≤ t → t < j → s[t] ≠ b) : s.take j ++ (s.drop (j + 1)).filter (fun x => decide (x ≠ b)) = s.filter (fun x => decide (x ≠ b)) := by
  have e : s = s.take j ++ s[j] :: s.drop (j + 1) := by rw [← List.drop_eq_getElem_cons h, List.take_append_drop]
  conv => rhs; rw [e]
  rw [List.filter_append, List.filter_cons, hb]
  have e2 : (s.take j).filter (fun x => decide (x ≠ b)) = s.take j := by
    rw [List.filter_eq_self]
    intro x hx
    rw [List.mem_take_iff_getElem] at hx
    obtain ⟨t, ht, rfl⟩ := hx
    simp only [decide_eq_true_eq]
    exact hn t (by omega) (Nat.zero_le _) (by omega)
  rw [e2]; simp
theorem filt_no {s : List Int} {b : Int} (hn : ∀ t (ht : t < s.length), 0 ≤ t → s[t] ≠ b) : s = s.filter (fun x => decide (x ≠ b)) := by
  rw [eq_comm, List.filter_eq_self]
  intro x hx
  obtain ⟨t, ht, rfl⟩ := List.mem_iff_getElem.1 hx
  simp only [decide_eq_true_eq]
  exact hn t ht (Nat.zero_le _)
theorem clr_len {l : List Int} {i : Nat} (h : i ≤ l.length) : (List.take i l ++ List.replicate (l.length - i) 0 ++ List.drop (i + (l.length - i)) l).length = l.length := by
  simp; omega
theorem clr_take {l : List Int} {i : Nat} (h : i ≤ l.length) (a : List Int) : List.take i (List.take i l ++ a) = List.take i l := by
  rw [List.take_append_of_le_length (by rw [List.length_take]; omega), List.take_take, Nat.min_self]
theorem one_eq {W H T P : Int} {K : List Int} {b : Int} {s : List Int} (M : Nat) (hM : 2000 ≤ M) (hs : s.length ≤ 1000) (kr : List Int → Option R) :
    f59L2of36S M (lenI s.length) W H T P K s b [] [] 0 (fun z86 z87 z88 z89 z90 =>
   bif (eqI z86 (-1)) then
    kr s
   else
   f86L5of36S M W H T P K b [] z86 (addI .i64 z86 1) s (fun z102 z103 z104 z105 =>
    gd (inS z102 (lenI z105.length) z105.length) <|
    gd (inS 0 z102 ((List.take (Int.toNat z102) z105) ++ (List.replicate (z105.length - (Int.toNat z102)) 0) ++ (List.drop ((Int.toNat z102) + (z105.length - (Int.toNat z102))) z105)).length) <|
    kr (List.take (Int.toNat z102) (List.drop 0 ((List.take (Int.toNat z102) z105) ++ (List.replicate (z105.length - (Int.toNat z102)) 0) ++ (List.drop ((Int.toNat z102) + (z105.length - (Int.toNat z102))) z105)))))) (fun z106 z107 =>
   kr s) = kr (s.filter fun x => decide (x ≠ b)) := by
  unfold f59L2of36S
  rcases idx1 (R := R) (W := W) (H := H) (T := T) (P := P) (K := K) (l := s) (b := b) (l2 := []) (l3 := []) (k0 := fun z86 z87 z88 z89 z90 =>
   bif (eqI z86 (-1)) then
    kr s
   else
   f86L5of36S M W H T P K b [] z86 (addI .i64 z86 1) s (fun z102 z103 z104 z105 =>
    gd (inS z102 (lenI z105.length) z105.length) <|
    gd (inS 0 z102 ((List.take (Int.toNat z102) z105) ++ (List.replicate (z105.length - (Int.toNat z102)) 0) ++ (List.drop ((Int.toNat z102) + (z105.length - (Int.toNat z102))) z105)).length) <|
    kr (List.take (Int.toNat z102) (List.drop 0 ((List.take (Int.toNat z102) z105) ++ (List.replicate (z105.length - (Int.toNat z102)) 0) ++ (List.drop ((Int.toNat z102) + (z105.length - (Int.toNat z102))) z105)))))) (k1 := fun z106 z107 => kr s) hs s.length 0 M (by omega) (by omega) with ⟨j, _, hj, hb, hno, e⟩ | ⟨hno, e⟩
  · refine e.trans ?_
    simp only [c_eq]
    rw [if_neg (by omega), addI_ok (by omega)]
    unfold f86L5of36S
    obtain ⟨i', l', e1, e2, e3, e4⟩ := del1 (R := R) (W := W) (H := H) (T := T) (P := P) (K := K) (b := b) (l2 := []) (k0 := fun z102 z103 z104 z105 =>
      gd (inS z102 (lenI z105.length) z105.length) <|
      gd (inS 0 z102 ((List.take (Int.toNat z102) z105) ++ (List.replicate (z105.length - (Int.toNat z102)) 0) ++ (List.drop ((Int.toNat z102) + (z105.length - (Int.toNat z102))) z105)).length) <|
      kr (List.take (Int.toNat z102) (List.drop 0 ((List.take (Int.toNat z102) z105) ++ (List.replicate (z105.length - (Int.toNat z102)) 0) ++ (List.drop ((Int.toNat z102) + (z105.length - (Int.toNat z102))) z105))))) hs (s.length - (j + 1)) j (j + 1) M s rfl (by omega) (by omega) (by omega)
    refine e1.trans ?_
    simp only [Int.toNat_natCast, List.drop_zero]
    rw [g_inS (by unfold lenI; omega), g_inS (by rw [clr_len (by omega)]; omega), List.append_assoc, clr_take (by omega), e4, filt hj hb hno]
  · refine e.trans ?_
    rw [← filt_no hno]
theorem two_eq {W H T P : Int} {K : List Int} {b : Int} {l : List Int} {n : Nat} (M : Nat) (hM : 2000 ≤ M) (hl : l.length ≤ 1000) (hn : n ≤ l.length) (kr : List Int → Option R) :
    f59L2of36x2S M 0 n (lenI n) W H T P K 0 n l b [] [] 0 (fun z159 z160 z161 z162 z163 =>
   bif (eqI z159 (-1)) then
    kr (List.take n (List.drop 0 l))
   else
   f86L5of36x2S M 0 n W H T P K 0 n b [] z159 (addI .i64 z159 1) l (fun z179 z180 z181 z182 =>
    gd (inS z179 (lenI n) n) <|
    gd (inS 0 z179 n) <|
    kr (List.take (Int.toNat z179) (List.drop 0 ((List.take (0 + (Int.toNat z179)) z182) ++ (List.replicate (n - (Int.toNat z179)) 0) ++ (List.drop ((0 + (Int.toNat z179)) + (n - (Int.toNat z179))) z182)))))) (fun z183 z184 =>
   kr (List.take n (List.drop 0 l))) = kr ((l.take n).filter fun x => decide (x ≠ b)) := by
  unfold f59L2of36x2S
  rcases idx2 (R := R) (W := W) (H := H) (T := T) (P := P) (K := K) (b := b) (l2 := []) (l3 := []) (p := 0) (q := n) (k0 := fun z159 z160 z161 z162 z163 =>
   bif (eqI z159 (-1)) then
    kr (List.take n (List.drop 0 l))
   else
   f86L5of36x2S M 0 n W H T P K 0 n b [] z159 (addI .i64 z159 1) l (fun z179 z180 z181 z182 =>
    gd (inS z179 (lenI n) n) <|
    gd (inS 0 z179 n) <|
    kr (List.take (Int.toNat z179) (List.drop 0 ((List.take (0 + (Int.toNat z179)) z182) ++ (List.replicate (n - (Int.toNat z179)) 0) ++ (List.drop ((0 + (Int.toNat z179)) + (n - (Int.toNat z179))) z182)))))) (k1 := fun z183 z184 => kr (List.take n (List.drop 0 l))) hn hl n 0 M (by omega) (by omega) with ⟨j, _, hj, hjn, hb, hno, e⟩ | ⟨hno, e⟩
  · refine e.trans ?_
    simp only [c_eq]
    rw [if_neg (by omega), addI_ok (by omega)]
    unfold f86L5of36x2S
    obtain ⟨i', l', e1, e2, e3, e4⟩ := del2 (R := R) (W := W) (H := H) (T := T) (P := P) (K := K) (b := b) (l2 := []) (p := 0) (q := n) (k0 := fun z179 z180 z181 z182 =>
      gd (inS z179 (lenI n) n) <|
      gd (inS 0 z179 n) <|
      kr (List.take (Int.toNat z179) (List.drop 0 ((List.take (0 + (Int.toNat z179)) z182) ++ (List.replicate (n - (Int.toNat z179)) 0) ++ (List.drop ((0 + (Int.toNat z179)) + (n - (Int.toNat z179))) z182))))) hl hn (n - (j + 1)) j (j + 1) M l rfl (by omega) (by omega) (by omega)
    refine e1.trans ?_
    simp only [Int.toNat_natCast, List.drop_zero, Nat.zero_add]
    have hlt : j < (l.take n).length := by rw [List.length_take]; omega
    have f := filt (s := l.take n) (b := b) hlt (by rw [List.getElem_take]; exact hb) (fun t ht h1 h2 => by
      rw [List.getElem_take]; exact hno t (by rw [List.length_take] at ht; omega) h1 h2)
    rw [List.take_take, Nat.min_eq_left (by omega)] at f
    rw [g_inS (by unfold lenI; omega), g_inS (by omega), List.append_assoc, clr_take (by omega), e4, f]
  · refine e.trans ?_
    simp only [List.drop_zero]
    congr 1
    exact filt_no (fun t ht h => by
      rw [List.getElem_take]
      rw [List.length_take] at ht
      exact hno t (by omega) h (by omega))
theorem f69_eq {W H T P : Int} {K : List Int} {b : Int} {l : List Int} (M : Nat) (hM : 2000 ≤ M) (hl : l.length ≤ 900) (kr : List Int → Option R) :
    ∃ r : List Int, f69Cof36S M b W H T P K l (fun z => kr z) (fun a b l => kr (List.take b (List.drop a l))) (fun a b _ _ l => kr (List.take b (List.drop a l))) = kr r ∧ r.Pairwise (· < ·) ∧ ∀ x, x ∈ r ↔ x ∈ l ∧ x ≠ b := by
  have hlen := sortI_length l
  have hsrt := sortI_sorted l
  have hmem : ∀ x, x ∈ sortI l ↔ x ∈ l := fun x => (sortI_perm l).mem_iff
  have fin : ∀ s : List Int, s.Pairwise (· < ·) → (∀ x, x ∈ s ↔ x ∈ l) → (s.filter fun x => decide (x ≠ b)).Pairwise (· < ·) ∧ ∀ x, x ∈ (s.filter fun x => decide (x ≠ b)) ↔ x ∈ l ∧ x ≠ b := fun s h1 h2 =>
    ⟨h1.filter _, fun x => by rw [List.mem_filter, h2]; simp⟩
  unfold f69Cof36S f69Cof36
  rw [g_okL (by omega)]
  simp only [c_lt, lenI]
  by_cases h2 : ((sortI l).length : Int) < 2
  · rw [if_pos h2]
    have hp : (sortI l).Pairwise (· < ·) := by
      match hs : sortI l, h2 with
      | [], _ => simp
      | [a], _ => simp
      | a :: b :: r, h => simp at h; omega
    obtain ⟨f1, f2⟩ := fin _ hp hmem
    exact ⟨_, one_eq M hM (by omega) kr, f1, f2⟩
  · rw [if_neg h2]
    unfold f85L4of36S
    rcases dup (R := R) (W := W) (H := H) (T := T) (P := P) (K := K) (l := sortI l) (b := b) (l2 := []) M (k0 := fun z135 z136 z137 z138 z139 z140 z141 z142 =>
  f59L2of36x2S M z135 z136 (lenI z136) W H T P K z135 z136 z142 b [] [] 0 (fun z159 z160 z161 z162 z163 =>
   bif (eqI z159 (-1)) then
    kr (List.take z136 (List.drop z135 z142))
   else
   f86L5of36x2S M z135 z136 W H T P K z135 z136 b [] z159 (addI .i64 z159 1) z142 (fun z179 z180 z181 z182 =>
    gd (inS z179 (lenI z136) z136) <|
    gd (inS 0 z179 z136) <|
    kr (List.take (Int.toNat z179) (List.drop z135 ((List.take (z135 + (Int.toNat z179)) z182) ++ (List.replicate (z136 - (Int.toNat z179)) 0) ++ (List.drop ((z135 + (Int.toNat z179)) + (z136 - (Int.toNat z179))) z182)))))) (fun z183 z184 =>
   kr (List.take z136 (List.drop z135 z142)))) (k1 := fun z185 z186 =>
  f59L2of36S M (lenI (sortI l).length) W H T P K (sortI l) b [] [] 0 (fun z187 z188 z189 z190 z191 =>
   bif (eqI z187 (-1)) then
    kr (sortI l)
   else
   f86L5of36S M W H T P K b [] z187 (addI .i64 z187 1) (sortI l) (fun z192 z193 z194 z195 =>
    gd (inS z192 (lenI z195.length) z195.length) <|
    gd (inS 0 z192 ((List.take (Int.toNat z192) z195) ++ (List.replicate (z195.length - (Int.toNat z192)) 0) ++ (List.drop ((Int.toNat z192) + (z195.length - (Int.toNat z192))) z195)).length) <|
    kr (List.take (Int.toNat z192) (List.drop 0 ((List.take (Int.toNat z192) z195) ++ (List.replicate (z195.length - (Int.toNat z192)) 0) ++ (List.drop ((Int.toNat z192) + (z195.length - (Int.toNat z192))) z195)))))) (fun z196 z197 =>
   kr (sortI l))) (by omega) ((sortI l).length - 1) 1 M (by omega) (by omega) (by omega) with ⟨j, hj1, hj, hd, hno, e⟩ | ⟨hno, e⟩
    · have hrise : ((sortI l).take j).Pairwise (· < ·) := by
        rw [List.pairwise_iff_getElem]
        intro p q hp hq hpq
        rw [List.length_take] at hp hq
        simp only [List.getElem_take]
        have h1 : (sortI l)[p] ≤ (sortI l)[q - 1] := by
          rcases Nat.lt_or_ge p (q - 1) with h | h
          · exact List.pairwise_iff_getElem.1 hsrt _ _ _ _ h
          · have : p = q - 1 := by omega
            subst this; exact Int.le_refl _
        have h2 : (sortI l)[q - 1] ≤ (sortI l)[q] := List.pairwise_iff_getElem.1 hsrt _ _ _ _ (by omega)
        have h3 := hno q (by omega) (by omega) (by omega)
        omega
      obtain ⟨k', l', c1, c2, c3, c4, c5⟩ := comp (R := R) (W := W) (H := H) (T := T) (P := P) (K := K) (b := b) (l2 := []) (o := sortI l) (B := j) (N := (sortI l).length) (k0 := fun z131 z132 z133 z134 =>
    gd (inS z131 (lenI z134.length) z134.length) <|
    gd (inS 0 z131 ((List.take (Int.toNat z131) z134) ++ (List.replicate (z134.length - (Int.toNat z131)) 0) ++ (List.drop ((Int.toNat z131) + (z134.length - (Int.toNat z131))) z134)).length) <|
    f59L2of36x2S M 0 (Int.toNat z131) (lenI (Int.toNat z131)) W H T P K 0 (Int.toNat z131) ((List.take (Int.toNat z131) z134) ++ (List.replicate (z134.length - (Int.toNat z131)) 0) ++ (List.drop ((Int.toNat z131) + (z134.length - (Int.toNat z131))) z134)) b [] [] 0 (fun z159 z160 z161 z162 z163 =>
   bif (eqI z159 (-1)) then
    kr (List.take (Int.toNat z131) (List.drop 0 ((List.take (Int.toNat z131) z134) ++ (List.replicate (z134.length - (Int.toNat z131)) 0) ++ (List.drop ((Int.toNat z131) + (z134.length - (Int.toNat z131))) z134))))
   else
   f86L5of36x2S M 0 (Int.toNat z131) W H T P K 0 (Int.toNat z131) b [] z159 (addI .i64 z159 1) ((List.take (Int.toNat z131) z134) ++ (List.replicate (z134.length - (Int.toNat z131)) 0) ++ (List.drop ((Int.toNat z131) + (z134.length - (Int.toNat z131))) z134)) (fun z179 z180 z181 z182 =>
    gd (inS z179 (lenI (Int.toNat z131)) (Int.toNat z131)) <|
    gd (inS 0 z179 (Int.toNat z131)) <|
    kr (List.take (Int.toNat z179) (List.drop 0 ((List.take (0 + (Int.toNat z179)) z182) ++ (List.replicate ((Int.toNat z131) - (Int.toNat z179)) 0) ++ (List.drop ((0 + (Int.toNat z179)) + ((Int.toNat z131) - (Int.toNat z179))) z182)))))) (fun z183 z184 =>
   kr (List.take (Int.toNat z131) (List.drop 0 ((List.take (Int.toNat z131) z134) ++ (List.replicate (z134.length - (Int.toNat z131)) 0) ++ (List.drop ((Int.toNat z131) + (z134.length - (Int.toNat z131))) z134)))))) (by omega) rfl hsrt ((sortI l).length - (j + 1)) j 1 M (sortI l) rfl (by omega) (by omega) (by omega) (by omega) (fun _ _ => rfl) hrise (fun x => by
        rw [List.take_add_one, List.getElem?_eq_getElem hj, List.mem_append]
        constructor
        · exact .inl
        · rintro (h | h)
          · exact h
          · simp only [Option.toList_some, List.mem_singleton] at h
            subst h
            rw [hd, List.mem_take_iff_getElem]
            exact ⟨j - 1, by omega, rfl⟩) (fun x hx u hu => by
        rw [show j + 1 - 1 = j from by omega, List.getElem?_eq_getElem hj] at hu
        cases hu
        rw [List.mem_take_iff_getElem] at hx
        obtain ⟨t, ht, rfl⟩ := hx
        exact List.pairwise_iff_getElem.1 hsrt _ _ _ _ (by omega))
      obtain ⟨f1, f2⟩ := fin _ c4 (fun x => (c5 x).trans (hmem x))
      refine ⟨_, e.trans ?_, f1, f2⟩
      unfold f85L9of36S
      refine c1.trans ?_
      simp only [Int.toNat_natCast]
      rw [g_inS (by unfold lenI; omega), g_inS (by rw [clr_len (by omega)]; omega)]
      have t2 := two_eq (R := R) (W := W) (H := H) (T := T) (P := P) (K := K) (b := b) (l := List.take k' l' ++ List.replicate (l'.length - k') 0 ++ List.drop (k' + (l'.length - k')) l') (n := k') M hM (by rw [clr_len (by omega)]; omega) (by rw [clr_len (by omega)]; omega) kr
      refine t2.trans ?_
      rw [List.append_assoc, clr_take (by omega)]
    · have hp : (sortI l).Pairwise (· < ·) := by
        rw [List.pairwise_iff_getElem]
        intro p q hp hq hpq
        have h1 : (sortI l)[p] ≤ (sortI l)[q - 1] := by
          rcases Nat.lt_or_ge p (q - 1) with h | h
          · exact List.pairwise_iff_getElem.1 hsrt _ _ _ _ h
          · have : p = q - 1 := by omega
            subst this; exact Int.le_refl _
        have h2 : (sortI l)[q - 1] ≤ (sortI l)[q] := List.pairwise_iff_getElem.1 hsrt _ _ _ _ (by omega)
        have h3 := hno q (by omega) (by omega)
        omega
      obtain ⟨f1, f2⟩ := fin _ hp hmem
      exact ⟨_, e.trans (one_eq M hM (by omega) kr), f1, f2⟩
end
end Go.Vm.T3
end
section
namespace Go.Vm.T3
open Go Go.Vm
def wi (W H k x y i X Y t : Int) : Prop := (0 ≤ X ∧ X < W ∧ 0 ≤ Y ∧ Y < H) ∧ (k = 4 ∧ x = X ∧ y = Y ∧ i = t ∨ k = 5 ∧ x = X ∧ y = Y ∧ i = t ∨ k = 4 ∧ x = X - 1 ∧ y = Y ∧ i = t ∨ k = 5 ∧ x = X ∧ y = Y - 1 ∧ i = t)
section
variable {W H T P : Int} (g : GO W H T P)
include g
theorem vs_num {k x y i : Int} (h : VS W H T P k x y i) : (k = 1 ∨ k = 2 ∨ k = 3 ∨ k = 4 ∨ k = 5 ∨ k = 6 ∨ k = 7) ∧ (0 ≤ y ∧ y < H) ∧ ((k = 4 ∨ k = 5) → 0 ≤ i ∧ i < T ∧ 0 ≤ x ∧ x < W) ∧ (k = 6 → x = -1 ∧ 0 ≤ i ∧ i < P) ∧ ((k = 1 ∨ k = 2) → i = 0 ∧ 0 ≤ x ∧ x < W) ∧ (k = 3 → 0 ≤ i ∧ i < 4 ∧ 0 ≤ x ∧ x < W) := by
  have hh := g.h
  have h1 := Int.emod_nonneg i (show H ≠ 0 by omega)
  have h2 := Int.emod_lt_of_pos i (show 0 < H by omega)
  unfold VS at h
  omega
theorem drv3 {k x y i xb yb ib : Int} (h : VS W H T P k x y i) (hx : 0 ≤ xb ∧ xb < W) (hy : 0 ≤ yb ∧ yb < H) :
    ((∃ t, 0 ≤ t ∧ t < T ∧ wi W H k x y i xb yb t) ∨ ib = 3 ∧ k = 1 ∧ x = xb ∧ y = yb - 1 ∧ i = 0) ↔ Can W H k x y i 3 xb yb ib := by
  obtain ⟨a, b, c, d, e, f⟩ := vs_num g h
  have ex : (∃ t, 0 ≤ t ∧ t < T ∧ wi W H k x y i xb yb t) ↔ (0 ≤ i ∧ i < T) ∧ wi W H k x y i xb yb i := by
    constructor
    · rintro ⟨t, h1, h2, h3⟩
      have : i = t := by unfold wi at h3; omega
      subst this
      exact ⟨⟨h1, h2⟩, h3⟩
    · rintro ⟨h1, h2⟩; exact ⟨i, h1.1, h1.2, h2⟩
  rw [ex]
  clear ex
  rcases a with rfl | rfl | rfl | rfl | rfl | rfl | rfl <;> simp [Can, Meet, Adj, wi] <;> omega
theorem drv7 {k x y i yb ib : Int} (h : VS W H T P k x y i) (hy : 0 ≤ yb ∧ yb < H) :
    (∃ t, 0 ≤ t ∧ t < T ∧ wi W H k x y i (W - 1) yb t) ↔ Can W H k x y i 7 W yb ib := by
  obtain ⟨a, b, c, d, e, f⟩ := vs_num g h
  have hw := g.w
  have ex : (∃ t, 0 ≤ t ∧ t < T ∧ wi W H k x y i (W - 1) yb t) ↔ (0 ≤ i ∧ i < T) ∧ wi W H k x y i (W - 1) yb i := by
    constructor
    · rintro ⟨t, h1, h2, h3⟩
      have : i = t := by unfold wi at h3; omega
      subst this
      exact ⟨⟨h1, h2⟩, h3⟩
    · rintro ⟨h1, h2⟩; exact ⟨i, h1.1, h1.2, h2⟩
  rw [ex]
  clear ex
  rcases a with rfl | rfl | rfl | rfl | rfl | rfl | rfl <;> simp [Can, Meet, Adj, wi] <;> omega
def co (W H P k x y i X Y t : Int) : Prop := k = 1 ∧ x = X ∧ y = Y ∧ i = 0 ∨ k = 2 ∧ x = X ∧ y = Y ∧ i = 0 ∨ wi W H k x y i X Y t ∨ X = 0 ∧ ∃ n, 0 ≤ n ∧ n < P ∧ k = 6 ∧ x = -1 ∧ y = Y ∧ i = n
theorem co_iff {k x y i X Y t : Int} (h : VS W H T P k x y i) : co W H P k x y i X Y t ↔ (k = 1 ∧ x = X ∧ y = Y ∨ k = 2 ∧ x = X ∧ y = Y ∨ wi W H k x y i X Y t ∨ X = 0 ∧ k = 6 ∧ y = Y) := by
  obtain ⟨a, b, c, d, e, f⟩ := vs_num g h
  unfold co
  constructor
  · rintro (h1 | h1 | h1 | ⟨h1, n, h2, h3, h4, h5, h6, h7⟩)
    · exact .inl ⟨h1.1, h1.2.1, h1.2.2.1⟩
    · exact .inr (.inl ⟨h1.1, h1.2.1, h1.2.2.1⟩)
    · exact .inr (.inr (.inl h1))
    · exact .inr (.inr (.inr ⟨h1, h4, h6⟩))
  · rintro (h1 | h1 | h1 | h1)
    · exact .inl ⟨h1.1, h1.2.1, h1.2.2, by omega⟩
    · exact .inr (.inl ⟨h1.1, h1.2.1, h1.2.2, by omega⟩)
    · exact .inr (.inr (.inl h1))
    · exact .inr (.inr (.inr ⟨h1.1, i, by omega, by omega, h1.2.1, by omega, h1.2.2, rfl⟩))
theorem drv4 {k x y i xb yb ib : Int} (h : VS W H T P k x y i) (hx : 0 ≤ xb ∧ xb < W) (hy : 0 ≤ yb ∧ yb < H) :
    ((co W H P k x y i xb yb ib ∨ xb + 1 < W ∧ co W H P k x y i (xb + 1) yb ib) ∧ ¬ (k = 4 ∧ x = xb ∧ y = yb ∧ i = ib)) ↔ Can W H k x y i 4 xb yb ib := by
  rw [co_iff g h, co_iff g h]
  obtain ⟨a, b, c, d, e, f⟩ := vs_num g h
  rcases a with rfl | rfl | rfl | rfl | rfl | rfl | rfl <;> simp [Can, Meet, Adj, wi] <;> omega
theorem drv5 {k x y i xb yb ib : Int} (h : VS W H T P k x y i) (hx : 0 ≤ xb ∧ xb < W) (hy : 0 ≤ yb ∧ yb < H) :
    ((co W H P k x y i xb yb ib ∨ yb + 1 < H ∧ co W H P k x y i xb (yb + 1) ib) ∧ ¬ (k = 5 ∧ x = xb ∧ y = yb ∧ i = ib)) ↔ Can W H k x y i 5 xb yb ib := by
  rw [co_iff g h, co_iff g h]
  obtain ⟨a, b, c, d, e, f⟩ := vs_num g h
  rcases a with rfl | rfl | rfl | rfl | rfl | rfl | rfl <;> simp [Can, Meet, Adj, wi] <;> omega
theorem drv0 {k x y i kb xb yb ib : Int} (h : VS W H T P k x y i) (hk : kb = 1 ∨ kb = 2 ∨ kb = 6) : ¬ Can W H k x y i kb xb yb ib := by
  obtain ⟨a, b, c, d, e, f⟩ := vs_num g h
  rcases hk with rfl | rfl | rfl <;> rcases a with rfl | rfl | rfl | rfl | rfl | rfl | rfl <;> simp [Can, Meet, Adj]
end
end Go.Vm.T3
end
section
namespace Go.Vm.T3
open Go Go.Vm
section
variable {R : Type} {W H T P : Int} (g : GO W H T P) (M : Nat) (K : List Int)
theorem Wi_iff {m X Y t : Int} : Wi W H T P m X Y t ↔ (0 ≤ m ∧ m < cnt W H T P) ∧ wi W H (dK W H T P m) (dX W H T P m) (dY W H T P m) (dI W H T P m) X Y t := by
  unfold Wi wi Is
  generalize dK W H T P m = k
  generalize dX W H T P m = x
  generalize dY W H T P m = y
  generalize dI W H T P m = i
  omega
theorem Co_iff {m X Y t : Int} : Co W H T P m X Y t ↔ (0 ≤ m ∧ m < cnt W H T P) ∧ co W H P (dK W H T P m) (dX W H T P m) (dY W H T P m) (dI W H T P m) X Y t := by
  unfold Co co
  rw [Wi_iff]
  unfold Is
  constructor
  · rintro (⟨h, h1⟩ | ⟨h, h1⟩ | ⟨h, h1⟩ | ⟨h, n, h1, h2, h3, h4⟩)
    · exact ⟨h, .inl h1⟩
    · exact ⟨h, .inr (.inl h1)⟩
    · exact ⟨h, .inr (.inr (.inl h1))⟩
    · exact ⟨h3, .inr (.inr (.inr ⟨h, n, h1, h2, h4⟩))⟩
  · rintro ⟨h, h1 | h1 | h1 | ⟨h1, n, h2, h3, h4⟩⟩
    · exact .inl ⟨h, h1⟩
    · exact .inr (.inl ⟨h, h1⟩)
    · exact .inr (.inr (.inl ⟨h, h1⟩))
    · exact .inr (.inr (.inr ⟨h1, n, h2, h3, h, h4⟩))
include g
theorem d_inj {m b : Int} (hm : 0 ≤ m ∧ m < cnt W H T P) (hb : 0 ≤ b ∧ b < cnt W H T P) : m = b ↔ dK W H T P m = dK W H T P b ∧ dX W H T P m = dX W H T P b ∧ dY W H T P m = dY W H T P b ∧ dI W H T P m = dI W H T P b := by
  constructor
  · rintro rfl; exact ⟨rfl, rfl, rfl, rfl⟩
  · rintro ⟨a, b', c, d⟩
    rw [← nd_d g hm.1 hm.2, a, b', c, d, nd_d g hb.1 hb.2]
omit g in
theorem fin36 (hM : 2000 ≤ M) {b : Int} {z : List Int} (hz : z.length ≤ 900) (hC : ∀ m, m ∈ z ∧ m ≠ b ↔ (0 ≤ m ∧ m < cnt W H T P) ∧ canN W H T P m b = true) (kr : List Int → Option R) :
    f69Cof36S M b W H T P K z (fun z => kr z) (fun a b l => kr (List.take b (List.drop a l))) (fun a b _ _ l => kr (List.take b (List.drop a l))) = kr (refD W H T P b) := by
  obtain ⟨r, e, h1, h2⟩ := f69_eq (R := R) (W := W) (H := H) (T := T) (P := P) (K := K) (b := b) M hM hz kr
  rw [e, rising_ext h1 (refD_rising b) fun x => by rw [h2, hC, mem_refD]]
theorem f36_eq (hM : 2000 ≤ M) {b : Int} (hb0 : 0 ≤ b) (hb1 : b < cnt W H T P) (kr : List Int → Option R) : f36 M W H T P K b kr = kr (refD W H T P b) := by
  have hw := g.w; have hh := g.h; have hp := g.p; have ht := g.t
  have hv := d_valid g hb0 hb1
  obtain ⟨v1, v2, v3, v4, v5, v6⟩ := vs_num g hv
  have hcan : ∀ m, 0 ≤ m → m < cnt W H T P → (canN W H T P m b = true ↔ Can W H (dK W H T P m) (dX W H T P m) (dY W H T P m) (dI W H T P m) (dK W H T P b) (dX W H T P b) (dY W H T P b) (dI W H T P b)) := fun m _ _ => by
    unfold canN; exact @decide_eq_true_iff _ (Classical.propDecidable _)
  have hne := fun m (h0 : 0 ≤ m) (h1 : m < cnt W H T P) => d_inj g (m := m) ⟨h0, h1⟩ ⟨hb0, hb1⟩
  have h67 : dK W H T P b = 7 → dX W H T P b = W ∧ 0 ≤ dI W H T P b ∧ dI W H T P b < P := by unfold VS at hv; omega
  unfold f36 f36T
  rw [f50_eq g M K hb0 hb1]
  simp only [c_ne, c_eq, c_lt, if_true]
  revert hcan hne v1 v2 v3 v4 v5 v6 h67
  generalize dK W H T P b = kb
  generalize dX W H T P b = xb
  generalize dY W H T P b = yb
  generalize dI W H T P b = ib
  intro v1 v2 v3 v4 v5 v6 hcan hne h67
  have empty : kb = 1 ∨ kb = 2 ∨ kb = 6 → f69Cof36S M b W H T P K [] (fun z => kr z) (fun a b l => kr (List.take b (List.drop a l))) (fun a b _ _ l => kr (List.take b (List.drop a l))) = kr (refD W H T P b) := fun hk => by
    refine fin36 M K hM (by simp) (fun m => ?_) kr
    constructor
    · rintro ⟨h, _⟩; simp at h
    · rintro ⟨h0, h⟩
      exact absurd ((hcan m h0.1 h0.2).1 h) (drv0 g (d_valid g h0.1 h0.2) hk)
  rcases v1 with rfl | rfl | rfl | rfl | rfl | rfl | rfl
  · exact empty (.inl rfl)
  · exact empty (.inr (.inl rfl))
  ·
    simp only [if_true]
    have hxb : 0 ≤ xb ∧ xb < W := by omega
    obtain ⟨L1, e1, n1, m1⟩ := f64_eq (R := R) g M K (x := xb) (y := yb) (by omega) (by omega) (by omega) (l := []) (by simp) (fun z64 =>
      if ib = 3 then
       f65Cof36S M 1 xb (subI .i64 yb 1) 0 W H T P K z64 (fun z65 =>
        f69Cof36S M b W H T P K z65 (fun z => kr z) (fun a b l => kr (List.take b (List.drop a l))) (fun a b _ _ l => kr (List.take b (List.drop a l))))
      else
      f69Cof36S M b W H T P K z64 (fun z => kr z) (fun a b l => kr (List.take b (List.drop a l))) (fun a b _ _ l => kr (List.take b (List.drop a l))))
    refine e1.trans ?_
    simp only [List.nil_append]
    have key : ∀ m, (m ∈ L1 ∨ ib = 3 ∧ Is W H T P m 1 xb (yb - 1) 0) ∧ m ≠ b ↔ (0 ≤ m ∧ m < cnt W H T P) ∧ canN W H T P m b = true := fun m => by
      rw [m1]
      have e : ((∃ t, 0 ≤ t ∧ t < T ∧ Wi W H T P m xb yb t) ∨ ib = 3 ∧ Is W H T P m 1 xb (yb - 1) 0) ↔ (0 ≤ m ∧ m < cnt W H T P) ∧ ((∃ t, 0 ≤ t ∧ t < T ∧ wi W H (dK W H T P m) (dX W H T P m) (dY W H T P m) (dI W H T P m) xb yb t) ∨ ib = 3 ∧ dK W H T P m = 1 ∧ dX W H T P m = xb ∧ dY W H T P m = yb - 1 ∧ dI W H T P m = 0) := by
        simp only [Wi_iff]
        unfold Is
        constructor
        · rintro (⟨t, a, b, c, d⟩ | ⟨a, b, c⟩)
          · exact ⟨c, .inl ⟨t, a, b, d⟩⟩
          · exact ⟨b, .inr ⟨a, c⟩⟩
        · rintro ⟨c, ⟨t, a, b, d⟩ | ⟨a, b⟩⟩
          · exact .inl ⟨t, a, b, c, d⟩
          · exact .inr ⟨a, c, b⟩
      rw [e]
      constructor
      · rintro ⟨⟨h0, h1⟩, _⟩
        exact ⟨h0, (hcan m h0.1 h0.2).2 ((drv3 g (d_valid g h0.1 h0.2) hxb v2).1 h1)⟩
      · rintro ⟨h0, h1⟩
        have h2 := (drv3 g (d_valid g h0.1 h0.2) (xb := xb) (yb := yb) (ib := ib) hxb v2).2 ((hcan m h0.1 h0.2).1 h1)
        refine ⟨⟨h0, h2⟩, fun e => ?_⟩
        have := (hne m h0.1 h0.2).1 e
        rcases h2 with ⟨t, _, _, h3⟩ | h3
        · unfold wi at h3; omega
        · omega
    by_cases h3 : ib = 3
    · rw [if_pos h3, subI_ok (by omega)]
      obtain ⟨L2, e2, n2, m2⟩ := f65_eq (R := R) g M K (k := 1) (x := xb) (y := yb - 1) (i := 0) (by omega) (by omega) (by omega) (by omega) (l := L1) (by omega) (fun z65 =>
        f69Cof36S M b W H T P K z65 (fun z => kr z) (fun a b l => kr (List.take b (List.drop a l))) (fun a b _ _ l => kr (List.take b (List.drop a l))))
      refine e2.trans (fin36 M K hM (by rw [List.length_append]; omega) (fun m => ?_) kr)
      rw [← key, List.mem_append, m2]
      simp [h3]
    · rw [if_neg h3]
      refine fin36 M K hM (by omega) (fun m => ?_) kr
      rw [← key]
      simp [h3]
  ·
    simp only [if_true]
    rw [if_neg (by omega), if_neg (by omega)]
    obtain ⟨L1, e1, n1, m1⟩ := f67_eq (R := R) g M K (x := xb) (y := yb) (t := ib) (a1 := 4) (a2 := xb) (a3 := yb) (l2 := K) (by omega) (by omega) (by omega) (by omega) (l := []) (by simp) (fun z272 =>
      if addI .i64 xb 1 < W then
       if yb < H then
        f67Cof36S M (addI .i64 xb 1) yb 4 xb yb ib W H T P K W H T P K z272 (fun z273 =>
         f69Cof36S M b W H T P K z273 (fun z => kr z) (fun a b l => kr (List.take b (List.drop a l))) (fun a b _ _ l => kr (List.take b (List.drop a l))))
       else
       f69Cof36S M b W H T P K z272 (fun z => kr z) (fun a b l => kr (List.take b (List.drop a l))) (fun a b _ _ l => kr (List.take b (List.drop a l)))
      else
      f69Cof36S M b W H T P K z272 (fun z => kr z) (fun a b l => kr (List.take b (List.drop a l))) (fun a b _ _ l => kr (List.take b (List.drop a l))))
    refine e1.trans ?_
    simp only [List.nil_append]
    have key : ∀ m, (m ∈ L1 ∨ xb + 1 < W ∧ Co W H T P m (xb + 1) yb ib) ∧ m ≠ b ↔ (0 ≤ m ∧ m < cnt W H T P) ∧ canN W H T P m b = true := fun m => by
      rw [m1, Co_iff, Co_iff]
      constructor
      · rintro ⟨h1, h2⟩
        have h0 : 0 ≤ m ∧ m < cnt W H T P := by
          rcases h1 with h1 | h1
          · exact h1.1
          · exact h1.2.1
        refine ⟨h0, (hcan m h0.1 h0.2).2 ((drv4 g (d_valid g h0.1 h0.2) (by omega) v2).1 ⟨?_, fun e => h2 ((hne m h0.1 h0.2).2 e)⟩)⟩
        rcases h1 with h1 | h1
        · exact .inl h1.2
        · exact .inr ⟨h1.1, h1.2.2⟩
      · rintro ⟨h0, h1⟩
        obtain ⟨h2, h3⟩ := (drv4 g (d_valid g h0.1 h0.2) (xb := xb) (yb := yb) (ib := ib) (by omega) v2).2 ((hcan m h0.1 h0.2).1 h1)
        refine ⟨?_, fun e => h3 ((hne m h0.1 h0.2).1 e)⟩
        rcases h2 with h2 | h2
        · exact .inl ⟨h0, h2⟩
        · exact .inr ⟨h2.1, h0, h2.2⟩
    rw [addI_ok (by omega)]
    by_cases h3 : xb + 1 < W
    · rw [if_pos h3, if_pos v2.2]
      obtain ⟨L2, e2, n2, m2⟩ := f67_eq (R := R) g M K (x := xb + 1) (y := yb) (t := ib) (a1 := 4) (a2 := xb) (a3 := yb) (l2 := K) (by omega) (by omega) (by omega) (by omega) (l := L1) (by omega) (fun z273 =>
        f69Cof36S M b W H T P K z273 (fun z => kr z) (fun a b l => kr (List.take b (List.drop a l))) (fun a b _ _ l => kr (List.take b (List.drop a l))))
      refine e2.trans (fin36 M K hM (by rw [List.length_append]; omega) (fun m => ?_) kr)
      rw [← key, List.mem_append, m2]
      simp [h3]
    · rw [if_neg h3]
      refine fin36 M K hM (by omega) (fun m => ?_) kr
      rw [← key]
      simp [h3]
  ·
    simp only [if_true]
    rw [if_neg (by omega), if_neg (by omega), if_neg (by omega)]
    obtain ⟨L1, e1, n1, m1⟩ := f67_eq (R := R) g M K (x := xb) (y := yb) (t := ib) (a1 := 5) (a2 := xb) (a3 := yb) (l2 := K) (by omega) (by omega) (by omega) (by omega) (l := []) (by simp) (fun z338 =>
      if (5 : Int) = 4 then
       if addI .i64 xb 1 < W then
        if yb < H then
         f67Cof36S M (addI .i64 xb 1) yb 5 xb yb ib W H T P K W H T P K z338 (fun z273 =>
          f69Cof36S M b W H T P K z273 (fun z => kr z) (fun a b l => kr (List.take b (List.drop a l))) (fun a b _ _ l => kr (List.take b (List.drop a l))))
        else
        f69Cof36S M b W H T P K z338 (fun z => kr z) (fun a b l => kr (List.take b (List.drop a l))) (fun a b _ _ l => kr (List.take b (List.drop a l)))
       else
       f69Cof36S M b W H T P K z338 (fun z => kr z) (fun a b l => kr (List.take b (List.drop a l))) (fun a b _ _ l => kr (List.take b (List.drop a l)))
      else
      if xb < W then
       if addI .i64 yb 1 < H then
        f67Cof36S M xb (addI .i64 yb 1) 5 xb yb ib W H T P K W H T P K z338 (fun z273 =>
         f69Cof36S M b W H T P K z273 (fun z => kr z) (fun a b l => kr (List.take b (List.drop a l))) (fun a b _ _ l => kr (List.take b (List.drop a l))))
       else
       f69Cof36S M b W H T P K z338 (fun z => kr z) (fun a b l => kr (List.take b (List.drop a l))) (fun a b _ _ l => kr (List.take b (List.drop a l)))
      else
      f69Cof36S M b W H T P K z338 (fun z => kr z) (fun a b l => kr (List.take b (List.drop a l))) (fun a b _ _ l => kr (List.take b (List.drop a l))))
    refine e1.trans ?_
    simp only [List.nil_append]
    have key : ∀ m, (m ∈ L1 ∨ yb + 1 < H ∧ Co W H T P m xb (yb + 1) ib) ∧ m ≠ b ↔ (0 ≤ m ∧ m < cnt W H T P) ∧ canN W H T P m b = true := fun m => by
      rw [m1, Co_iff, Co_iff]
      constructor
      · rintro ⟨h1, h2⟩
        have h0 : 0 ≤ m ∧ m < cnt W H T P := by
          rcases h1 with h1 | h1
          · exact h1.1
          · exact h1.2.1
        refine ⟨h0, (hcan m h0.1 h0.2).2 ((drv5 g (d_valid g h0.1 h0.2) (by omega) v2).1 ⟨?_, fun e => h2 ((hne m h0.1 h0.2).2 e)⟩)⟩
        rcases h1 with h1 | h1
        · exact .inl h1.2
        · exact .inr ⟨h1.1, h1.2.2⟩
      · rintro ⟨h0, h1⟩
        obtain ⟨h2, h3⟩ := (drv5 g (d_valid g h0.1 h0.2) (xb := xb) (yb := yb) (ib := ib) (by omega) v2).2 ((hcan m h0.1 h0.2).1 h1)
        refine ⟨?_, fun e => h3 ((hne m h0.1 h0.2).1 e)⟩
        rcases h2 with h2 | h2
        · exact .inl ⟨h0, h2⟩
        · exact .inr ⟨h2.1, h0, h2.2⟩
    rw [if_neg (by omega), if_pos (by omega), addI_ok (by omega)]
    by_cases h3 : yb + 1 < H
    · rw [if_pos h3]
      obtain ⟨L2, e2, n2, m2⟩ := f67_eq (R := R) g M K (x := xb) (y := yb + 1) (t := ib) (a1 := 5) (a2 := xb) (a3 := yb) (l2 := K) (by omega) (by omega) (by omega) (by omega) (l := L1) (by omega) (fun z273 =>
        f69Cof36S M b W H T P K z273 (fun z => kr z) (fun a b l => kr (List.take b (List.drop a l))) (fun a b _ _ l => kr (List.take b (List.drop a l))))
      refine e2.trans (fin36 M K hM (by rw [List.length_append]; omega) (fun m => ?_) kr)
      rw [← key, List.mem_append, m2]
      simp [h3]
    · rw [if_neg h3]
      refine fin36 M K hM (by omega) (fun m => ?_) kr
      rw [← key]
      simp [h3]
  · exact empty (.inr (.inr rfl))
  ·
    simp only [if_true]
    rw [if_neg (by omega)]
    obtain ⟨hx, _, _⟩ := h67 rfl
    subst hx
    rw [subI_ok (by omega)]
    obtain ⟨L1, e1, n1, m1⟩ := f64_eq (R := R) g M K (x := xb - 1) (y := yb) (by omega) (by omega) (by omega) (l := []) (by simp) (fun z64 =>
      f69Cof36S M b xb H T P K z64 (fun z => kr z) (fun a b l => kr (List.take b (List.drop a l))) (fun a b _ _ l => kr (List.take b (List.drop a l))))
    refine e1.trans (fin36 M K hM (by simp; omega) (fun m => ?_) kr)
    rw [List.nil_append, m1]
    have e : (∃ t, 0 ≤ t ∧ t < T ∧ Wi xb H T P m (xb - 1) yb t) ↔ (0 ≤ m ∧ m < cnt xb H T P) ∧ ∃ t, 0 ≤ t ∧ t < T ∧ wi xb H (dK xb H T P m) (dX xb H T P m) (dY xb H T P m) (dI xb H T P m) (xb - 1) yb t := by
      simp only [Wi_iff]
      constructor
      · rintro ⟨t, a, b, c, d⟩; exact ⟨c, t, a, b, d⟩
      · rintro ⟨c, t, a, b, d⟩; exact ⟨t, a, b, c, d⟩
    rw [e]
    constructor
    · rintro ⟨⟨h0, h1⟩, _⟩
      exact ⟨h0, (hcan m h0.1 h0.2).2 ((drv7 g (d_valid g h0.1 h0.2) v2).1 h1)⟩
    · rintro ⟨h0, h1⟩
      have h2 := (drv7 g (d_valid g h0.1 h0.2) (yb := yb) (ib := ib) v2).2 ((hcan m h0.1 h0.2).1 h1)
      refine ⟨⟨h0, h2⟩, fun e => ?_⟩
      have := (hne m h0.1 h0.2).1 e
      obtain ⟨t, _, _, h3⟩ := h2
      unfold wi at h3; omega
end
end Go.Vm.T3
end
section
namespace Go.Vm.T3
open Go Go.Vm
section
variable {R : Type} (M : Nat)
def At (l : List Int) (x r : Int) : Prop := r = -1 ∧ x ∉ l ∨ 0 ≤ r ∧ r < l.length ∧ l[r.toNat]? = some x
theorem f44_loop {l : List Int} {x : Int} (hn : l.length ≤ 100000) {k0 : Int → Int → Bool → Bool → Option R} {k1 : Int → Bool → Option R} : ∀ (d i m : Nat), i + d = l.length → d ≤ m →
    (∃ j : Nat, i ≤ j ∧ l[j]? = some x ∧ ∃ b1 b2, rounds (fun (g : Int → Option R) (a : Int) => f44L2 l x k0 k1 (fun y0 => g y0) a) m (i : Int) = k0 j j b1 b2) ∨
    ((∀ t, i ≤ t → l[t]? ≠ some x) ∧ ∃ z b, rounds (fun (g : Int → Option R) (a : Int) => f44L2 l x k0 k1 (fun y0 => g y0) a) m (i : Int) = k1 z b)
  | 0, i, m, hi, hm => by
    right
    refine ⟨fun t ht => by rw [List.getElem?_eq_none (by omega)]; simp, i, false, rounds_exit (fun G => ?_) m⟩
    unfold f44L2
    simp only [c_lt, lenI]
    rw [if_neg (by omega)]
    have : ¬ i < l.length := by omega
    simp [ltI, this]
  | d + 1, i, m, hi, hm => by
    obtain ⟨m, rfl⟩ : ∃ m', m = m' + 1 := ⟨m - 1, by omega⟩
    have ih := f44_loop (l := l) (x := x) (k0 := k0) (k1 := k1) hn d (i + 1) m (by omega) (by omega)
    rw [rounds_succ]
    revert ih
    generalize rounds _ m = G
    intro ih
    have hlt : i < l.length := by omega
    have e : f44L2 l x k0 k1 (fun y0 => G y0) (i : Int) = if l[i] = x then k0 i i true true else G ((i + 1 : Nat) : Int) := by
      unfold f44L2
      simp only [c_lt, lenI, c_eq]
      rw [if_pos (by omega), g_inR (by omega), getD_nat, getD_lt hlt]
      by_cases hb : l[i] = x
      · rw [if_pos hb, if_pos hb]
        simp [ltI, eqI, hb, hlt]
      · rw [if_neg hb, if_neg hb, addI_ok (by omega)]; simp
    rw [e]
    by_cases hb : l[i] = x
    · rw [if_pos hb]
      exact .inl ⟨i, Nat.le_refl _, by rw [List.getElem?_eq_getElem hlt, hb], _, _, rfl⟩
    · rw [if_neg hb]
      rcases ih with ⟨j, h1, h2, h3⟩ | ⟨h1, h2⟩
      · exact .inl ⟨j, by omega, h2, h3⟩
      · refine .inr ⟨fun t ht => ?_, h2⟩
        by_cases e : t = i
        · subst e; rw [List.getElem?_eq_getElem hlt]; simpa using hb
        · exact h1 t (by omega)
theorem f44_eq {l : List Int} {x : Int} (hM : l.length ≤ M) (hn : l.length ≤ 100000) (kr : Int → Option R) : ∃ r, f44 M l x kr = kr r ∧ At l x r := by
  unfold f44 f44T f44L2S
  rcases f44_loop (R := R) (l := l) (x := x) hn (k0 := fun z8 z9 z10 z11 => kr z8) (k1 := fun z12 z13 => kr (-1)) l.length 0 M (by omega) hM with ⟨j, _, h, b1, b2, e⟩ | ⟨h, z, b, e⟩
  · refine ⟨j, e, .inr ⟨by omega, ?_, by simpa using h⟩⟩
    have := (List.getElem?_eq_some_iff.1 h).1
    omega
  · refine ⟨-1, e, .inl ⟨rfl, fun hm => ?_⟩⟩
    obtain ⟨t, ht, rfl⟩ := List.mem_iff_getElem.1 hm
    exact h t (Nat.zero_le _) (List.getElem?_eq_getElem ht)
theorem At.neg {l : List Int} {x r : Int} (h : At l x r) : r < 0 ↔ x ∉ l := by
  rcases h with ⟨rfl, h⟩ | ⟨h1, h2, h3⟩
  · simp [h]
  · constructor
    · intro; omega
    · intro h; exact absurd (List.mem_of_getElem? h3) h
def KOk (W H : Int) (K : List Int) : Prop := (K.length : Int) = W * H ∧ ∀ x ∈ K, x = 0 ∨ x = 1 ∨ x = 2
theorem f72_loop {N : Nat} {l : List Int} (hN : N ≤ 1000) (h8 : ∀ x ∈ l, 0 ≤ x ∧ x ≤ 255) {k0 : Int → Bool → List Int → Option R} : ∀ (d i m : Nat) (z : List Int), i + d = N → d ≤ m → z.length = i → (∀ x ∈ z, x = 0 ∨ x = 1 ∨ x = 2) →
    ∃ r : List Int, rounds (fun (g : Int × (List Int) → Option R) (a : Int × (List Int)) => f72L3 (N : Int) l k0 (fun y0 y1 => g (y0, y1)) a.1 a.2) m ((i : Int), z) = k0 N false r ∧ r.length = N ∧ ∀ x ∈ r, x = 0 ∨ x = 1 ∨ x = 2
  | 0, i, m, z, hi, hm, hz, hx => by
    refine ⟨z, rounds_exit (fun G => ?_) m, by omega, hx⟩
    simp only
    unfold f72L3
    simp only [c_lt]
    rw [if_neg (by omega), show i = N from by omega]
    simp [ltI]
  | d + 1, i, m, z, hi, hm, hz, hx => by
    obtain ⟨m, rfl⟩ : ∃ m', m = m' + 1 := ⟨m - 1, by omega⟩
    have ih := fun i z => f72_loop (l := l) (k0 := k0) hN h8 d i m z
    rw [rounds_succ]
    revert ih
    generalize rounds _ m = G
    intro ih
    simp only
    have app : ∀ v : Int, (v = 0 ∨ v = 1 ∨ v = 2) → ∃ r : List Int, gd (okL (z ++ [v]).length) (G (addI .i64 (i : Int) 1, z ++ [v])) = k0 N false r ∧ r.length = N ∧ ∀ x ∈ r, x = 0 ∨ x = 1 ∨ x = 2 := fun v hv => by
      rw [g_okL (by simp; omega), addI_ok (by omega)]
      exact ih (i + 1) (z ++ [v]) (by omega) (by omega) (by simp; omega) (fun x hm => by
        rcases List.mem_append.1 hm with h | h
        · exact hx x h
        · rw [List.mem_singleton] at h; subst h; exact hv)
    unfold f72L3
    simp only [c_lt, lenI]
    rw [if_pos (by omega)]
    by_cases hl : (i : Int) < l.length
    · rw [if_pos hl, g_inR (by omega), getD_nat, getD_lt (by omega)]
      have := h8 l[i] (List.getElem_mem _)
      rw [remI_ok (by omega)]
      by_cases h2 : l[i] % 8 < 2
      · rw [if_pos h2, g_inR (by omega), convI_ok (by omega)]
        exact app _ (by omega)
      · rw [if_neg h2]
        exact app 2 (by omega)
    · rw [if_neg hl]
      exact app 2 (by omega)
theorem f39_eq {a1 a2 a3 a4 : Int} {l : List Int} (hM : 100 ≤ M) (h1 : 0 ≤ a1 ∧ a1 ≤ 255) (h2 : 0 ≤ a2 ∧ a2 ≤ 255) (h3 : 0 ≤ a3 ∧ a3 ≤ 255) (h8 : ∀ x ∈ l, 0 ≤ x ∧ x ≤ 255) (kr : Int → Int → Int → Int → List Int → Option R) :
    ∃ W H T K, GO W H T 4 ∧ KOk W H K ∧ f39 M a1 a2 a3 a4 l kr = kr W H T 24 K := by
  have g : GO (2 + a1 % 4) (2 + a2 % 4) (2 + a3 % 3) 4 := ⟨by omega, by omega, by omega, rfl⟩
  have hb := g.b
  obtain ⟨r, e, e1, e2⟩ := f72_loop (R := R) (N := ((2 + a1 % 4) * (2 + a2 % 4)).toNat) (l := l) (by omega) h8 (k0 := fun z9 z10 z11 => kr (2 + a1 % 4) (2 + a2 % 4) (2 + a3 % 3) 24 z11) ((2 + a1 % 4) * (2 + a2 % 4)).toNat 0 M [] (by omega) (by omega) rfl (by simp)
  refine ⟨_, _, _, r, g, ⟨by omega, e2⟩, ?_⟩
  unfold f39 f39T f72 f72T f72L3S
  rw [remI_ok h1.1, remI_ok h2.1, remI_ok h3.1, convI_ok (by omega), convI_ok (by omega), convI_ok (by omega), addI_ok (by omega), addI_ok (by omega), addI_ok (by omega), mulI_ok (by omega)]
  rw [show (((2 + a1 % 4) * (2 + a2 % 4)).toNat : Int) = (2 + a1 % 4) * (2 + a2 % 4) from by omega] at e
  exact e
end
section
variable {R : Type} {W H T P : Int} (g : GO W H T P) (M : Nat) (K : List Int)
def BkOk (W H : Int) (K : List Int) (tb ram reg t : Int) : Prop := (0 ≤ t ∧ t < W * H) ∧ (0 ≤ tb ∧ tb ≤ 65535) ∧ (-1 ≤ ram ∧ ram ≤ 255) ∧ (-1 ≤ reg ∧ reg ≤ 255) ∧ (ram = -1 ∨ reg = -1) ∧ ∃ k, K[t.toNat]? = some k ∧ k ≠ 0 ∧ (k = 1 → ram = -1)
include g
theorem f73_eq (hK : KOk W H K) {l : List Int} {tb ram reg o t : Int} (kr : Bool → Option R) : ∃ b, (∀ kr : Bool → Option R, f73 M W H T P K l tb ram reg o t kr = kr b) ∧ (b = true ↔ BkOk W H K tb ram reg t) := by
  have hb := g.b
  by_cases h0 : t < 0
  · refine ⟨false, fun kr => ?_, ?_⟩
    · unfold f73 f73T
      simp only [c_lt]; rw [if_pos h0]
    · simp; unfold BkOk; omega
  by_cases h1 : W * H ≤ t
  · refine ⟨false, fun kr => ?_, ?_⟩
    · unfold f73 f73T
      simp only [c_lt, c_le]; rw [if_neg h0, mulI_ok (by omega), if_pos h1]
    · simp; unfold BkOk; omega
  have hlt : t.toNat < K.length := by have := hK.1; omega
  have hk : K[t.toNat]? = some K[t.toNat] := List.getElem?_eq_getElem hlt
  have base : ∀ kr : Bool → Option R, f73 M W H T P K l tb ram reg o t kr = if K[t.toNat] = 0 then kr false else if K[t.toNat] = 1 ∧ ram ≠ -1 then kr false else
      if 0 ≤ tb ∧ tb ≤ 65535 ∧ -1 ≤ ram ∧ ram ≤ 255 ∧ -1 ≤ reg ∧ reg ≤ 255 ∧ (ram = -1 ∨ reg = -1) then kr true else kr false := fun kr => by
    unfold f73 f73T
    simp only [c_lt, c_le, c_eq, c_ne]
    rw [if_neg h0, mulI_ok (by omega), if_neg h1, g_inR (by omega), getD_lt hlt]
    by_cases k0 : K[t.toNat] = 0
    · rw [if_pos k0, if_pos k0]
    · rw [if_neg k0, if_neg k0, g_inR (by omega)]
      have tail : (if 0 ≤ tb then if tb ≤ 65535 then if -1 ≤ ram then if ram ≤ 255 then if -1 ≤ reg then if reg ≤ 255 then if ram = -1 then kr true else kr (eqI reg (-1)) else kr false else kr false else kr false else kr false else kr false else kr false) =
          if 0 ≤ tb ∧ tb ≤ 65535 ∧ -1 ≤ ram ∧ ram ≤ 255 ∧ -1 ≤ reg ∧ reg ≤ 255 ∧ (ram = -1 ∨ reg = -1) then kr true else kr false := by
        by_cases hall : 0 ≤ tb ∧ tb ≤ 65535 ∧ -1 ≤ ram ∧ ram ≤ 255 ∧ -1 ≤ reg ∧ reg ≤ 255 ∧ (ram = -1 ∨ reg = -1)
        · rw [if_pos hall, if_pos (by omega), if_pos (by omega), if_pos (by omega), if_pos (by omega), if_pos (by omega), if_pos (by omega)]
          by_cases a7 : ram = -1
          · rw [if_pos a7]
          · rw [if_neg a7, eqI_dec, decide_eq_true (by omega)]
        · rw [if_neg hall]
          by_cases a1 : 0 ≤ tb
          · rw [if_pos a1]
            by_cases a2 : tb ≤ 65535
            · rw [if_pos a2]
              by_cases a3 : -1 ≤ ram
              · rw [if_pos a3]
                by_cases a4 : ram ≤ 255
                · rw [if_pos a4]
                  by_cases a5 : -1 ≤ reg
                  · rw [if_pos a5]
                    by_cases a6 : reg ≤ 255
                    · rw [if_pos a6, if_neg (by omega), eqI_dec, decide_eq_false (by omega)]
                    · rw [if_neg a6]
                  · rw [if_neg a5]
                · rw [if_neg a4]
              · rw [if_neg a3]
            · rw [if_neg a2]
          · rw [if_neg a1]
      by_cases k1 : K[t.toNat] = 1
      · rw [if_pos k1]
        by_cases r1 : ram = -1
        · rw [if_pos r1, if_neg (show ¬ (K[t.toNat] = 1 ∧ ram ≠ -1) from fun h => h.2 r1)]
          exact tail
        · rw [if_neg r1, if_pos (show K[t.toNat] = 1 ∧ ram ≠ -1 from ⟨k1, r1⟩)]
      · rw [if_neg k1, if_neg (show ¬ (K[t.toNat] = 1 ∧ ram ≠ -1) from fun h => k1 h.1)]
        exact tail
  by_cases h : BkOk W H K tb ram reg t
  · refine ⟨true, fun kr => ?_, by simp [h]⟩
    obtain ⟨_, b1, b2, b3, b4, k, b5, b6, b7⟩ := h
    rw [hk] at b5
    cases b5
    rw [base, if_neg b6, if_neg (by rintro ⟨x, y⟩; exact y (b7 x)), if_pos (by omega)]
  · refine ⟨false, fun kr => ?_, by simp [h]⟩
    rw [base]
    by_cases k0 : K[t.toNat] = 0
    · rw [if_pos k0]
    · rw [if_neg k0]
      by_cases k1 : K[t.toNat] = 1 ∧ ram ≠ -1
      · rw [if_pos k1]
      · rw [if_neg k1, if_neg]
        intro hh
        refine h ⟨by omega, by omega, by omega, by omega, by omega, _, hk, k0, fun e => ?_⟩
        exact Classical.byContradiction fun hr => k1 ⟨e, hr⟩
theorem f46_eq {b : Int} (hM : 400 ≤ M) (hb0 : 0 ≤ b) (hb1 : b < cnt W H T P) (kr : Int → Option R) : f46 M W H T P K b kr = kr ((refD W H T P b).length : Int) := by
  unfold f46 f46T
  rw [f45_eq g M K hM hb0 hb1]
  rfl
theorem f37_eq (kr : List Int → List Int → List Int → List Int → Option R) : f37 M W H T P K kr = kr (List.replicate (cnt W H T P).toNat 0) (List.replicate (W * H).toNat 0) (List.replicate (W * H).toNat 0) (List.replicate (W * H).toNat 0) := by
  have hb := g.b; have hc := cnt_b g
  unfold f37 f37T
  rw [f41_eq g, mulI_ok (by omega), g_inS (by unfold lim; omega), g_inS (by unfold lim; omega), g_inS (by unfold lim; omega), g_inS (by unfold lim; omega)]
end
end Go.Vm.T3
end
