/-
  A part of the proof that FabricPads answers true at every input. No condition.
-/
import Derived.Test.YtnjjhhbogdiceaaGreatP2
import Derived.Test.YtnjjhhbogdiceaaGreatYg
import Derived.Test.YtnjjhhbogdiceaaGreatYh
set_option linter.unusedVariables false
set_option linter.unusedSimpArgs false
set_option linter.unusedSectionVars false
section
namespace Go.Vm.T3
open Go Go.Vm
def y1 (mode table ram : List Int) (extra : List V) (t : Nat) (inp : List Bool) : Bool :=
  if mode.getD t 0 = 0 then false else if mode.getD t 0 = 3 then v56 extra (ram.getD t 0) inp else v81 (table.getD t 0) inp
def y2 (mode ram state : List Int) (t : Nat) : Bool := if mode.getD t 0 = 2 then v55 state (ram.getD t 0 / 8) (ram.getD t 0 % 8) else false
def inpOf (T : Int) (prev : List Bool) (t : Nat) : List Bool := (prev.drop (t * (6 + 2 * T) + 2).toNat).take 4
def phi (W H T P : Int) (mode table ram drive state : List Int) (extra : List V) (prev : List Bool) (n : Int) : Bool :=
  if dK W H T P n = 1 then y1 mode table ram extra (n / (6 + 2 * T)).toNat (inpOf T prev (n / (6 + 2 * T)).toNat)
  else if dK W H T P n = 2 then y2 mode ram state (n / (6 + 2 * T)).toNat
  else if 0 ≤ drive.getD n.toNat 0 then prev.getD (drive.getD n.toNat 0).toNat false else false
def tgt (W H T P : Int) (mode table ram drive state : List Int) (extra : List V) (pads prev : List Bool) (n : Int) : Bool :=
  if dK W H T P n = 6 then pads.getD (dI W H T P n).toNat false else phi W H T P mode table ram drive state extra prev n
def nx (W H T P : Int) (mode table ram drive state : List Int) (extra : List V) (pads prev : List Bool) : List Bool :=
  (List.range (cnt W H T P).toNat).map fun (n : Nat) => tgt W H T P mode table ram drive state extra pads prev (n : Int)
structure Env (W H T P : Int) (mode table ram : List Int) (spots : List V) (firsts drive : List Int) : Prop where
  lm : (mode.length : Int) = W * H
  lt : (table.length : Int) = W * H
  lr : (ram.length : Int) = W * H
  m : ∀ x ∈ mode, 0 ≤ x ∧ x ≤ 3
  r : ∀ x ∈ ram, 0 ≤ x ∧ x ≤ 255
  ls : (spots.length : Int) = cnt W H T P
  sp : ∀ n : Nat, (n : Int) < cnt W H T P → spots.getD n .undef = V.agg [.int .i64 (dK W H T P n), .int .i64 (dX W H T P n), .int .i64 (dY W H T P n), .int .i64 (dI W H T P n)]
  lf : (firsts.length : Int) = W * H
  fi : ∀ t : Nat, (t : Int) < W * H → firsts.getD t 0 = t * (6 + 2 * T)
  ld : (drive.length : Int) = cnt W H T P
  dr : ∀ x ∈ drive, x < cnt W H T P
theorem nx_len {W H T P : Int} {mode table ram drive state : List Int} {extra : List V} {pads prev : List Bool} (h : 0 ≤ cnt W H T P) : ((nx W H T P mode table ram drive state extra pads prev).length : Int) = cnt W H T P := by
  unfold nx; simp; omega
theorem nx_get {W H T P : Int} {mode table ram drive state : List Int} {extra : List V} {pads prev : List Bool} {n : Nat} (h : (n : Int) < cnt W H T P) : (nx W H T P mode table ram drive state extra pads prev).getD n false = tgt W H T P mode table ram drive state extra pads prev n := by
  unfold nx
  rw [List.getD_eq_getElem?_getD, List.getElem?_map, List.getElem?_range (by omega)]; rfl
section
variable {R : Type} {W H T P : Int} (g : GO W H T P) (M : Nat) (Q : Option R → Prop)
include g
theorem k1_iff {n : Int} (h0 : 0 ≤ n) : dK W H T P n = 1 ↔ n < W * H * (6 + 2 * T) ∧ n % (6 + 2 * T) = 0 := by
  have hp := g.p
  unfold dK
  by_cases a : W * H * (6 + 2 * T) + P ≤ n
  · rw [if_pos a]; omega
  · rw [if_neg a]
    by_cases b : W * H * (6 + 2 * T) ≤ n
    · rw [if_pos b]; omega
    · rw [if_neg b]
      generalize n % (6 + 2 * T) = q
      by_cases c : q = 0
      · rw [if_pos c]; omega
      · rw [if_neg c]
        refine ⟨fun h => ?_, fun h => absurd h.2 c⟩
        split at h; omega
        split at h; omega
        split at h <;> omega
theorem k2_iff {n : Int} (h0 : 0 ≤ n) : dK W H T P n = 2 ↔ n < W * H * (6 + 2 * T) ∧ n % (6 + 2 * T) = 1 := by
  have hp := g.p
  unfold dK
  by_cases a : W * H * (6 + 2 * T) + P ≤ n
  · rw [if_pos a]; omega
  · rw [if_neg a]
    by_cases b : W * H * (6 + 2 * T) ≤ n
    · rw [if_pos b]; omega
    · rw [if_neg b]
      generalize n % (6 + 2 * T) = q
      by_cases c : q = 0
      · rw [if_pos c]; omega
      · rw [if_neg c]
        by_cases d : q = 1
        · rw [if_pos d]; omega
        · rw [if_neg d]
          refine ⟨fun h => ?_, fun h => absurd h.2 d⟩
          split at h; omega
          split at h <;> omega
theorem div_lt {n : Int} (h0 : 0 ≤ n) (h1 : n < W * H * (6 + 2 * T)) : 0 ≤ n / (6 + 2 * T) ∧ n / (6 + 2 * T) < W * H := by
  have ht := g.t
  exact ⟨Int.ediv_nonneg h0 (by omega), Int.ediv_lt_of_lt_mul (by omega) h1⟩
theorem f63_eq (hM : 1000 ≤ M) {sel mode table ram : List Int} {spots : List V} {firsts drive state : List Int} {extra : List V} {pads prev : List Bool} (e : Env W H T P mode table ram spots firsts drive) (hpads : pads.length = 4) (hprev : (prev.length : Int) = cnt W H T P) (kr : List Bool → Option R) :
    f63 M sel mode table ram spots firsts drive state extra pads prev kr = kr (nx W H T P mode table ram drive state extra pads prev) := by
  have hc := cnt_b g; have hb := g.b; have hp := g.p; have hT := g.t
  have hlim : lim = 4294967296 := rfl
  have hls := e.ls; have hlf := e.lf; have hld := e.ld
  have hcn : W * H * (6 + 2 * T) + 8 = cnt W H T P := by unfold cnt; omega
  unfold f63 f63T
  simp only [lenI]
  rw [g_inS (by omega)]
  unfold f63L4S
  refine rounds_wp (fun (a : Int × List Bool) => (0 ≤ a.1 ∧ a.1 ≤ cnt W H T P) ∧ (a.2.length : Int) = cnt W H T P ∧ ∀ n : Nat, (n : Int) < a.1 → dK W H T P n ≠ 1 → dK W H T P n ≠ 2 → a.2.getD n false = tgt W H T P mode table ram drive state extra pads prev n) (fun (a : Int × List Bool) => (cnt W H T P - a.1).toNat) (fun o => o = kr (nx W H T P mode table ram drive state extra pads prev)) ?_ M _ ⟨⟨by simp, by simp; omega⟩, by simp; omega, fun n hn => by simp at hn; omega⟩ (by simp; omega)
  rintro G ⟨j, L⟩ ⟨⟨h1, h1'⟩, h2, h3⟩ ih
  simp only at h1 h1' h2 h3 ih ⊢
  obtain ⟨n, rfl⟩ : ∃ n : Nat, j = n := ⟨j.toNat, by omega⟩
  unfold f63L4
  simp only [c_lt, c_eq, c_le, lenI]
  by_cases hj : (n : Int) < cnt W H T P
  · have hsp := e.sp n hj
    have hv := d_valid g (n := (n : Int)) (by omega) hj
    have hnum := vs_num g hv
    rw [if_pos (by omega), g_inR (by omega), show Int.toNat (n : Int) = n from rfl, hsp]
    simp only [show V.toInt (V.cell (V.agg [.int .i64 (dK W H T P n), .int .i64 (dX W H T P n), .int .i64 (dY W H T P n), .int .i64 (dI W H T P n)]) 0) = dK W H T P n from rfl, show V.toInt (V.cell (V.agg [.int .i64 (dK W H T P n), .int .i64 (dX W H T P n), .int .i64 (dY W H T P n), .int .i64 (dI W H T P n)]) 3) = dI W H T P n from rfl]
    rw [addI_ok (by omega)]
    have put : ∀ v : Bool, v = tgt W H T P mode table ram drive state extra pads prev n → G ((n : Int) + 1, L.set n v) = kr (nx W H T P mode table ram drive state extra pads prev) := fun v hv => by
      refine ih _ ⟨⟨by simp only; omega, by simp only; omega⟩, by simp [h2], fun i hi a b => ?_⟩ (by simp only; omega)
      simp only at hi ⊢
      rw [getD_set]
      split
      · rename_i hh; rw [← hh.1]; exact hv
      · rename_i hh
        exact h3 i (by by_cases e : n = i; exact absurd ⟨e, by omega⟩ hh; omega) a b
    have skip : dK W H T P n = 1 ∨ dK W H T P n = 2 → G ((n : Int) + 1, L) = kr (nx W H T P mode table ram drive state extra pads prev) := fun hk => by
      refine ih _ ⟨⟨by simp only; omega, by simp only; omega⟩, h2, fun i hi a b => ?_⟩ (by simp only; omega)
      simp only at hi ⊢
      refine h3 i ?_ a b
      by_cases e : n = i
      · subst e; omega
      · omega
    by_cases k6 : dK W H T P n = 6
    · have hi := hnum.2.2.2.1 k6
      rw [if_pos k6, if_pos (by omega), g_inR (by omega), g_inR (by omega)]
      refine put _ ?_
      unfold tgt; rw [if_pos k6]
    · rw [if_neg k6]
      by_cases k1 : dK W H T P n = 1
      · rw [if_pos k1, if_pos k1]
        exact skip (.inl k1)
      · rw [if_neg k1]
        by_cases k2 : dK W H T P n = 2
        · rw [if_pos k2]; exact skip (.inr k2)
        · rw [if_neg k2, g_inR (by omega)]
          have ht : tgt W H T P mode table ram drive state extra pads prev n = if 0 ≤ drive.getD n 0 then prev.getD (drive.getD n 0).toNat false else false := by
            unfold tgt phi; rw [if_neg k6, if_neg k1, if_neg k2]; rfl
          have hd := e.dr _ (getD_mem (show n < drive.length by omega))
          by_cases d0 : 0 ≤ drive.getD n 0
          · rw [if_pos d0] at ht ⊢
            rw [g_inR (by omega), g_inR (by omega), g_inR (by omega)]
            exact put _ ht.symm
          · rw [if_neg d0] at ht ⊢
            rw [g_inR (by omega)]
            exact put _ ht.symm
  · rw [if_neg (by omega)]
    have hn : (n : Int) = cnt W H T P := by omega
    unfold f63L14S
    refine rounds_wp (fun (a : Int × List Bool) => (0 ≤ a.1 ∧ a.1 ≤ W * H) ∧ (a.2.length : Int) = cnt W H T P ∧ ∀ i : Nat, (i : Int) < cnt W H T P → (dK W H T P i ≠ 1 ∧ dK W H T P i ≠ 2 ∨ (i : Int) / (6 + 2 * T) < a.1) → a.2.getD i false = tgt W H T P mode table ram drive state extra pads prev i) (fun (a : Int × List Bool) => (W * H - a.1).toNat) (fun o => o = kr (nx W H T P mode table ram drive state extra pads prev)) ?_ M _ ⟨⟨by simp, by simp; omega⟩, h2, fun i hi hk => ?_⟩ (by simp; omega)
    · rintro G ⟨j, L⟩ ⟨⟨h4, h4'⟩, h5, h6⟩ ih
      simp only at h4 h4' h5 h6 ih ⊢
      obtain ⟨t, rfl⟩ : ∃ t : Nat, j = t := ⟨j.toNat, by omega⟩
      unfold f63L14
      simp only [c_lt, c_eq]
      have hlm := e.lm; have hlt := e.lt; have hlr := e.lr
      by_cases hj : (t : Int) < W * H
      · have hfi := e.fi t hj
        have hin := inner_lt g (t := (t : Int)) (i := 5) ⟨by omega, hj⟩ (by omega)
        have hin0 := inner_lt g (t := (t : Int)) (i := 0) ⟨by omega, hj⟩ (by omega)
        have d0 := dm (e := 6 + 2 * T) (t := (t : Int)) (i := 0) (by omega) (by omega) (by omega)
        have d1 := dm (e := 6 + 2 * T) (t := (t : Int)) (i := 1) (by omega) (by omega) (by omega)
        rw [if_pos (by omega), g_inR (by omega), g_inR (by omega), show Int.toNat (t : Int) = t from rfl, hfi]
        have uniq : ∀ i : Nat, (i : Int) / (6 + 2 * T) = t → (i : Int) % (6 + 2 * T) = 0 ∨ (i : Int) % (6 + 2 * T) = 1 → (i : Int) = t * (6 + 2 * T) ∨ (i : Int) = t * (6 + 2 * T) + 1 := fun i ha hb => by
          have := (dm_ex (e := 6 + 2 * T) (i : Int) (by omega)).1
          rw [ha] at this
          omega
        rw [Int.add_zero] at d0 hin0
        generalize hf : (t : Int) * (6 + 2 * T) = f at hin hin0 d0 d1 uniq ⊢
        have k1 : dK W H T P f = 1 := (k1_iff g (by omega)).2 ⟨by omega, d0.2⟩
        have k2 : dK W H T P (f + 1) = 2 := (k2_iff g (by omega)).2 ⟨by omega, d1.2⟩
        have t1 : tgt W H T P mode table ram drive state extra pads prev f = y1 mode table ram extra t (inpOf T prev t) := by
          unfold tgt phi
          rw [if_neg (by omega), if_pos k1, d0.1]; rfl
        have t2 : tgt W H T P mode table ram drive state extra pads prev (f + 1) = y2 mode ram state t := by
          unfold tgt phi
          rw [if_neg (by omega), if_neg (by omega), if_pos k2, d1.1]; rfl
        have hinp : List.take ((Int.toNat (addI .i64 (addI .i64 f 2) 4)) - (Int.toNat (addI .i64 f 2))) (List.drop (Int.toNat (addI .i64 f 2)) prev) = inpOf T prev t := by
          unfold inpOf
          rw [hf, addI_ok (a := f) (by omega), addI_ok (by omega), show (f + 2 + 4).toNat - (f + 2).toNat = 4 from by omega]
        have hinl : (inpOf T prev t).length = 4 := by
          unfold inpOf; rw [hf]; simp; omega
        have tail : ∀ a b : Bool, a = y1 mode table ram extra t (inpOf T prev t) → b = y2 mode ram state t → gd (inR f L.length) (gd (inR (addI .i64 f 1) (List.set L (Int.toNat f) a).length) (G (addI .i64 (t : Int) 1, List.set (List.set L (Int.toNat f) a) (Int.toNat (addI .i64 f 1)) b))) = kr (nx W H T P mode table ram drive state extra pads prev) := fun a b ha hb => by
          rw [addI_ok (a := f) (by omega), addI_ok (by omega), g_inR (by omega), g_inR (by rw [List.length_set]; omega)]
          refine ih _ ⟨⟨by simp only; omega, by simp only; omega⟩, by simp [h5], fun i hi hk => ?_⟩ (by simp only; omega)
          simp only at hk ⊢
          rw [getD_set, getD_set]
          split
          · rename_i hh
            rw [show (i : Int) = f + 1 from by omega, t2]; exact hb
          · rename_i hh1
            split
            · rename_i hh
              rw [show (i : Int) = f from by omega, t1]; exact ha
            · rename_i hh2
              rw [List.length_set] at hh1
              refine h6 i hi ?_
              by_cases hkk : dK W H T P i ≠ 1 ∧ dK W H T P i ≠ 2
              · exact .inl hkk
              · right
                have hk' : (i : Int) / (6 + 2 * T) < t + 1 := by
                  rcases hk with hk | hk
                  · exact absurd hk hkk
                  · exact hk
                refine Classical.byContradiction fun hge => ?_
                have hm : (i : Int) % (6 + 2 * T) = 0 ∨ (i : Int) % (6 + 2 * T) = 1 := by
                  by_cases q : dK W H T P i = 1
                  · exact .inl ((k1_iff g (by omega)).1 q).2
                  · by_cases q2 : dK W H T P i = 2
                    · exact .inr ((k2_iff g (by omega)).1 q2).2
                    · exact absurd ⟨q, q2⟩ hkk
                rcases uniq i (by omega) hm with e | e
                · exact hh2 ⟨by omega, by omega⟩
                · exact hh1 ⟨by omega, by omega⟩
        have hmt := e.m _ (getD_mem (show t < mode.length by omega))
        have hrt := e.r _ (getD_mem (show t < ram.length by omega))
        rw [hinp]
        have gsl : ∀ x : Option R, gd (inS (addI .i64 f 2) (addI .i64 (addI .i64 f 2) 4) prev.length) x = x := fun x => by
          rw [addI_ok (a := f) (by omega), addI_ok (by omega)]
          exact g_inS (by omega)
        simp only [gsl]
        have f51e : ∀ kr : Bool → Option R, f51 M sel mode table ram spots firsts drive state extra pads (t : Int) kr = kr false := fun kr => rfl
        have f53e : ∀ kr : Bool → Option R, f53 M sel mode table ram spots firsts drive state extra pads (t : Int) (inpOf T prev t) kr = kr (v81 (table.getD t 0) (inpOf T prev t)) := fun kr => by
          unfold f53 f53T
          rw [g_inR (by omega), f81_eq M (by omega) (by omega)]; rfl
        by_cases m0 : mode.getD t 0 = 0
        · rw [if_pos m0]
          exact tail _ _ (by unfold y1; rw [if_pos m0]) (by unfold y2; rw [if_neg (by omega)])
        · rw [if_neg m0]
          by_cases m1 : mode.getD t 0 = 1
          · rw [if_pos m1, f53e]
            exact tail _ _ (by unfold y1; rw [if_neg m0, if_neg (by omega)]) (by unfold y2; rw [if_neg (by omega)])
          · rw [if_neg m1]
            by_cases m2 : mode.getD t 0 = 2
            · rw [if_pos m2, f53e]
              unfold f54 f54T
              rw [g_inR (by omega), g_inR (by omega), show Int.toNat (t : Int) = t from rfl, quoI_ok (by omega), remI_ok hrt.1, f55_eq M (by omega) (by omega)]
              exact tail _ _ (by unfold y1; rw [if_neg m0, if_neg (by omega)]) (by unfold y2; rw [if_pos m2])
            · have m3 : mode.getD t 0 = 3 := by omega
              rw [if_neg m2, m3, f56_eq M hinl (by omega) (by omega) hrt]
              exact tail _ _ (by unfold y1; rw [if_neg m0, if_pos m3]; rfl) (by unfold y2; rw [if_neg (by omega)])
      · rw [if_neg (by omega)]
        congr 1
        refine List.ext_getElem (by have := nx_len (W := W) (H := H) (T := T) (P := P) (mode := mode) (table := table) (ram := ram) (drive := drive) (state := state) (extra := extra) (pads := pads) (prev := prev) (by omega); omega) fun i hi hi' => ?_
        have h7 := h6 i (by omega) (by
          by_cases q : dK W H T P i = 1
          · right; have := div_lt g (n := (i : Int)) (by omega) ((k1_iff g (by omega)).1 q).1; omega
          · by_cases q2 : dK W H T P i = 2
            · right; have := div_lt g (n := (i : Int)) (by omega) ((k2_iff g (by omega)).1 q2).1; omega
            · exact .inl ⟨q, q2⟩)
        rw [← nx_get (by omega)] at h7
        rw [List.getD_eq_getElem?_getD, List.getD_eq_getElem?_getD, List.getElem?_eq_getElem hi, List.getElem?_eq_getElem hi'] at h7
        exact h7
    · simp only at hk ⊢
      rcases hk with hk | hk
      · exact h3 i (by omega) hk.1 hk.2
      · have := Int.ediv_nonneg (show 0 ≤ (i : Int) by omega) (show 0 ≤ 6 + 2 * T by omega)
        omega
end
end Go.Vm.T3
end
section
namespace Go.Vm.T3
open Go Go.Vm
theorem ext_getD {l l' : List Bool} (h : l.length = l'.length) (e : ∀ i : Nat, i < l.length → l.getD i false = l'.getD i false) : l = l' := by
  refine List.ext_getElem h fun i hi hi' => ?_
  have := e i hi
  rw [List.getD_eq_getElem?_getD, List.getD_eq_getElem?_getD, List.getElem?_eq_getElem hi, List.getElem?_eq_getElem hi'] at this
  exact this
def it (W H T P : Int) (mode table ram drive state : List Int) (extra : List V) (pads : List Bool) : Nat → List Bool
  | 0 => List.replicate (cnt W H T P).toNat false
  | k + 1 => nx W H T P mode table ram drive state extra pads (it W H T P mode table ram drive state extra pads k)
theorem it_len {W H T P : Int} {mode table ram drive state : List Int} {extra : List V} {pads : List Bool} (h : 0 ≤ cnt W H T P) : ∀ k, ((it W H T P mode table ram drive state extra pads k).length : Int) = cnt W H T P
  | 0 => by unfold it; simp; omega
  | k + 1 => nx_len h
theorem it_fix {W H T P : Int} {mode table ram drive state : List Int} {extra : List V} {pads : List Bool} {k : Nat} (h : it W H T P mode table ram drive state extra pads (k + 1) = it W H T P mode table ram drive state extra pads k) : ∀ d, it W H T P mode table ram drive state extra pads (k + d) = it W H T P mode table ram drive state extra pads k
  | 0 => rfl
  | d + 1 => by
    rw [← Nat.add_assoc]
    show nx W H T P mode table ram drive state extra pads (it W H T P mode table ram drive state extra pads (k + d)) = _
    rw [it_fix h d]; exact h
section
variable {R : Type} (M : Nat) (Q : Option R → Prop)
theorem f62_wp {a b : List Bool} (hM : a.length ≤ M) (hl : a.length = b.length) (hn : a.length ≤ 100000) {kr : Bool → Option R} (h1 : a = b → Q (kr true)) (h2 : a ≠ b → Q (kr false)) : Q (f62 M a b kr) := by
  unfold f62 f62T f62L4S
  simp only [c_ne, lenI]
  rw [if_pos (by omega)]
  refine rounds_wp (fun (j : Int) => (0 ≤ j ∧ j ≤ (a.length : Int)) ∧ ∀ i : Nat, (i : Int) < j → a.getD i false = b.getD i false) (fun (j : Int) => ((a.length : Int) - j).toNat) Q ?_ M _ ⟨by omega, fun i hi => by omega⟩ (by omega)
  rintro G j ⟨⟨h3, h4⟩, h5⟩ ih
  unfold f62L4
  simp only [c_lt]
  by_cases hj : j < a.length
  · rw [if_pos hj, g_inR (by omega), g_inR (by omega)]
    cases hc : neB (a.getD j.toNat false) (b.getD j.toNat false) with
    | true =>
      refine h2 fun e => ?_
      subst e
      simp [neB] at hc
    | false =>
      simp only [cond_false]
      have he : a.getD j.toNat false = b.getD j.toNat false := by simpa [neB] using hc
      rw [addI_ok (by omega)]
      refine ih _ ⟨by omega, fun i hi => ?_⟩ (by omega)
      by_cases e : (i : Int) = j
      · rw [show i = j.toNat from by omega]; exact he
      · exact h5 i (by omega)
  · rw [if_neg hj]
    exact h1 (ext_getD hl fun i hi => h5 i (by omega))
end
section
variable {R : Type} {W H T P : Int} (g : GO W H T P) (M : Nat) (Q : Option R → Prop)
include g
theorem f61_eq (hM : 1000 ≤ M) {sel mode table ram : List Int} {spots : List V} {firsts drive state : List Int} {extra : List V} {pads : List Bool} (e : Env W H T P mode table ram spots firsts drive) (hpads : pads.length = 4) (kr : List Bool → Option R) :
    f61 M sel mode table ram spots firsts drive state extra pads kr = kr (it W H T P mode table ram drive state extra pads (cnt W H T P).toNat) := by
  have hc := cnt_b g
  have hlim : lim = 4294967296 := rfl
  have hls := e.ls
  unfold f61 f61T f61L3S
  simp only [lenI]
  rw [g_inS (by omega)]
  refine rounds_wp (fun (a : Int × List Bool) => (0 ≤ a.1 ∧ a.1 ≤ cnt W H T P) ∧ a.2 = it W H T P mode table ram drive state extra pads a.1.toNat) (fun (a : Int × List Bool) => (cnt W H T P - a.1).toNat) (fun o => o = kr (it W H T P mode table ram drive state extra pads (cnt W H T P).toNat)) ?_ M _ ⟨⟨by simp, by simp; omega⟩, by simp [it]; omega⟩ (by simp; omega)
  rintro G ⟨j, L⟩ ⟨⟨h1, h1'⟩, h2⟩ ih
  simp only at h1 h1' h2 ih ⊢
  unfold f61L3
  simp only [c_lt]
  have hL := it_len (W := W) (H := H) (T := T) (P := P) (mode := mode) (table := table) (ram := ram) (drive := drive) (state := state) (extra := extra) (pads := pads) (by omega) j.toNat
  rw [← h2] at hL
  by_cases hj : j < cnt W H T P
  · rw [if_pos (by omega), f63_eq g M hM e hpads hL]
    have hnl := nx_len (W := W) (H := H) (T := T) (P := P) (mode := mode) (table := table) (ram := ram) (drive := drive) (state := state) (extra := extra) (pads := pads) (prev := L) (by omega)
    have hs : it W H T P mode table ram drive state extra pads (j.toNat + 1) = nx W H T P mode table ram drive state extra pads L := by rw [h2]; rfl
    refine f62_wp M (fun o => o = kr (it W H T P mode table ram drive state extra pads (cnt W H T P).toNat)) (by omega) (by omega) (by omega) (fun he => ?_) (fun he => ?_)
    · simp only [cond_true]
      have := it_fix (W := W) (H := H) (T := T) (P := P) (mode := mode) (table := table) (ram := ram) (drive := drive) (state := state) (extra := extra) (pads := pads) (k := j.toNat) (by rw [hs, he, h2]) ((cnt W H T P).toNat - j.toNat)
      rw [show j.toNat + ((cnt W H T P).toNat - j.toNat) = (cnt W H T P).toNat from by omega] at this
      rw [this, h2]
    · simp only [cond_false]
      rw [addI_ok (by omega)]
      refine ih _ ⟨⟨by simp only; omega, by simp only; omega⟩, ?_⟩ (by simp only; omega)
      simp only
      rw [show (j + 1).toNat = j.toNat + 1 from by omega, hs]
  · rw [if_neg (by omega), h2, show j = cnt W H T P from by omega]
theorem d6 {n : Int} (h0 : 0 ≤ n) (h1 : n < cnt W H T P) (h : dK W H T P n = 6) : n = W * H * (6 + 2 * T) + dI W H T P n := by
  have hp := g.p; have ht := g.t
  unfold dK at h
  unfold dI
  by_cases a : W * H * (6 + 2 * T) + P ≤ n
  · rw [if_pos a] at h; omega
  · rw [if_neg a] at h ⊢
    by_cases b : W * H * (6 + 2 * T) ≤ n
    · rw [if_pos b]; omega
    · rw [if_neg b] at h
      split at h; omega
      split at h; omega
      split at h; omega
      split at h <;> omega
theorem k6 {p : Int} (hp : 0 ≤ p ∧ p < 4) : dK W H T P (W * H * (6 + 2 * T) + p) = 6 ∧ dI W H T P (W * H * (6 + 2 * T) + p) = p := by
  have hP := g.p
  unfold dK dI
  rw [if_neg (by omega), if_pos (by omega), if_neg (by omega), if_pos (by omega)]
  omega
theorem it_apart {mode table ram drive state : List Int} {extra : List V} {pads pads' : List Bool} {p : Int} (hp : 0 ≤ p ∧ p < 4) (hpads : ∀ i : Nat, (i : Int) ≠ p → pads.getD i false = pads'.getD i false)
    (hd : ∀ n : Nat, (n : Int) < cnt W H T P → drive.getD n 0 ≠ W * H * (6 + 2 * T) + p) (hdl : ∀ n : Nat, (n : Int) < cnt W H T P → drive.getD n 0 < cnt W H T P) : ∀ (k n : Nat), (n : Int) < cnt W H T P → (n : Int) ≠ W * H * (6 + 2 * T) + p →
    (it W H T P mode table ram drive state extra pads k).getD n false = (it W H T P mode table ram drive state extra pads' k).getD n false
  | 0, n, hn, hq => rfl
  | k + 1, n, hn, hq => by
    have hc := cnt_b g; have hT := g.t
    have hcn : W * H * (6 + 2 * T) + 8 = cnt W H T P := by have := g.p; unfold cnt; omega
    have ih := it_apart (mode := mode) (table := table) (ram := ram) (state := state) (extra := extra) hp hpads hd hdl k
    have l1 := it_len (W := W) (H := H) (T := T) (P := P) (mode := mode) (table := table) (ram := ram) (drive := drive) (state := state) (extra := extra) (pads := pads) (by omega) k
    have l2 := it_len (W := W) (H := H) (T := T) (P := P) (mode := mode) (table := table) (ram := ram) (drive := drive) (state := state) (extra := extra) (pads := pads') (by omega) k
    show (nx W H T P mode table ram drive state extra pads _).getD n false = (nx W H T P mode table ram drive state extra pads' _).getD n false
    rw [nx_get hn, nx_get hn]
    revert ih l1 l2
    generalize it W H T P mode table ram drive state extra pads k = A
    generalize it W H T P mode table ram drive state extra pads' k = B
    intro ih l1 l2
    unfold tgt
    by_cases k6' : dK W H T P n = 6
    · rw [if_pos k6', if_pos k6']
      have := d6 g (n := (n : Int)) (by omega) hn k6'
      exact hpads _ (by have := (vs_num g (d_valid g (n := (n : Int)) (by omega) hn)).2.2.2.1 k6'; omega)
    · rw [if_neg k6', if_neg k6']
      unfold phi
      by_cases k1 : dK W H T P n = 1
      · rw [if_pos k1, if_pos k1]
        have hdv := div_lt g (n := (n : Int)) (by omega) ((k1_iff g (by omega)).1 k1).1
        have hin := inner_lt g (t := (n : Int) / (6 + 2 * T)) (i := 5) hdv (by omega)
        have hin0 := inner_lt g (t := (n : Int) / (6 + 2 * T)) (i := 0) hdv (by omega)
        congr 1
        unfold inpOf
        rw [show (((n : Int) / (6 + 2 * T)).toNat : Int) = (n : Int) / (6 + 2 * T) from by omega]
        generalize hf : (n : Int) / (6 + 2 * T) * (6 + 2 * T) = f at hin hin0
        refine ext_getD (by simp; omega) fun i hi => ?_
        simp only [List.length_take, List.length_drop] at hi
        simp only [List.getD_eq_getElem?_getD, List.getElem?_take, List.getElem?_drop]
        rw [if_pos (by omega), if_pos (by omega)]
        have := ih ((f + 2).toNat + i) (by omega) (by omega)
        simpa only [List.getD_eq_getElem?_getD] using this
      · rw [if_neg k1, if_neg k1]
        by_cases k2 : dK W H T P n = 2
        · rw [if_pos k2, if_pos k2]
        · rw [if_neg k2, if_neg k2]
          show (if 0 ≤ drive.getD n 0 then A.getD (drive.getD n 0).toNat false else false) = if 0 ≤ drive.getD n 0 then B.getD (drive.getD n 0).toNat false else false
          have := hd n hn; have := hdl n hn
          by_cases d0 : 0 ≤ drive.getD n 0
          · rw [if_pos d0, if_pos d0]
            exact ih _ (by omega) (by omega)
          · rw [if_neg d0, if_neg d0]
theorem it_pad {mode table ram drive state : List Int} {extra : List V} {pads : List Bool} {p : Int} (hp : 0 ≤ p ∧ p < 4) {k : Nat} (hk : 0 < k) :
    (it W H T P mode table ram drive state extra pads k).getD (W * H * (6 + 2 * T) + p).toNat false = pads.getD p.toNat false := by
  obtain ⟨k, rfl⟩ : ∃ k', k = k' + 1 := ⟨k - 1, by omega⟩
  have hc := cnt_b g; have hb := g.b
  have hcn : W * H * (6 + 2 * T) + 8 = cnt W H T P := by have := g.p; unfold cnt; omega
  show (nx W H T P mode table ram drive state extra pads _).getD _ false = _
  rw [nx_get (by omega), show ((W * H * (6 + 2 * T) + p).toNat : Int) = W * H * (6 + 2 * T) + p from by omega]
  unfold tgt
  have := k6 g hp
  rw [if_pos this.1, this.2]
end
end Go.Vm.T3
end
section
namespace Go.Vm.T3
open Go Go.Vm
noncomputable def drvN (W H T P : Int) (sel : List Int) (n : Nat) : Int := if 0 < sel.getD n 0 then (refD W H T P n).getD (sel.getD n 0 - 1).toNat 0 else -1
noncomputable def drv (W H T P : Int) (sel : List Int) (m : Nat) : List Int := (List.range m).map (drvN W H T P sel)
def spotN (W H T P : Int) (n : Nat) : V := V.agg [.int .i64 (dK W H T P n), .int .i64 (dX W H T P n), .int .i64 (dY W H T P n), .int .i64 (dI W H T P n)]
theorem map_range_succ {α : Type} (f : Nat → α) (n : Nat) : (List.range n).map f ++ [f n] = (List.range (n + 1)).map f := by
  rw [List.range_succ, List.map_append]; rfl
theorem map_range_getD {α : Type} (f : Nat → α) {n i : Nat} (d : α) (h : i < n) : ((List.range n).map f).getD i d = f i := by
  rw [List.getD_eq_getElem?_getD, List.getElem?_map, List.getElem?_range h]; rfl
section
variable {R : Type} {W H T P : Int} (g : GO W H T P) (M : Nat) (K : List Int) (Q : Option R → Prop)
include g
theorem drvN_b {sel mode table ram : List Int} (c : ConfOk W H T P sel mode table ram) {n : Nat} (hn : n < sel.length) : -1 ≤ drvN W H T P sel n ∧ drvN W H T P sel n < cnt W H T P := by
  have hc := cnt_b g
  unfold drvN
  have := c.s n hn
  by_cases h : 0 < sel.getD n 0
  · rw [if_pos h]
    have hm := getD_mem (l := refD W H T P n) (i := (sel.getD n 0 - 1).toNat) (by omega)
    have := (mem_refD.1 hm).1
    omega
  · rw [if_neg h]; omega
theorem f47_eq (hM : 1000 ≤ M) {sel mode table ram : List Int} (c : ConfOk W H T P sel mode table ram) (kr : List Int → Option R) : f47 M W H T P K sel mode table ram kr = kr (drv W H T P sel (cnt W H T P).toNat) := by
  have hc := cnt_b g; have hls := c.ls
  unfold f47 f47T f47L3S
  refine rounds_wp (fun (a : Int × List Int) => (0 ≤ a.1 ∧ a.1 ≤ cnt W H T P) ∧ a.2 = drv W H T P sel a.1.toNat) (fun (a : Int × List Int) => (cnt W H T P - a.1).toNat) (fun o => o = kr (drv W H T P sel (cnt W H T P).toNat)) ?_ M _ ⟨⟨by simp, by simp; omega⟩, rfl⟩ (by simp; omega)
  rintro G ⟨j, L⟩ ⟨⟨h1, h1'⟩, h2⟩ ih
  simp only at h1 h1' h2 ih ⊢
  obtain ⟨n, rfl⟩ : ∃ n : Nat, j = n := ⟨j.toNat, by omega⟩
  subst h2
  unfold f47L3
  simp only [c_lt, lenI, show Int.toNat (n : Int) = n from rfl]
  by_cases hj : (n : Int) < sel.length
  · have hs := c.s n (by omega)
    have hrl := refD_len g (n : Int)
    rw [if_pos hj, g_inR (by omega), addI_ok (by omega)]
    have app : ∀ v : Int, v = drvN W H T P sel n → gd (okL (drv W H T P sel n ++ [v]).length) (G ((n : Int) + 1, drv W H T P sel n ++ [v])) = kr (drv W H T P sel (cnt W H T P).toNat) := fun v hv => by
      rw [g_okL (by unfold drv; simp; omega)]
      refine ih _ ⟨⟨by simp only; omega, by simp only; omega⟩, ?_⟩ (by simp only; omega)
      simp only
      rw [hv, show ((n : Int) + 1).toNat = n + 1 from rfl]
      exact map_range_succ _ _
    by_cases h0 : 0 < sel.getD n 0
    · rw [if_pos h0, f45_eq g M K (by omega) (by omega) (by omega), g_inR (by omega), subI_ok (by omega), g_inR (by omega)]
      refine app _ ?_
      unfold drvN; rw [if_pos h0]
    · rw [if_neg h0]
      refine app _ ?_
      unfold drvN; rw [if_neg h0]
  · rw [if_neg hj, show (n : Nat) = (cnt W H T P).toNat from by omega]
def FK (W H T : Int) (k : Nat) (n : Int) : Prop := (k : Int) ≤ W * H ∧ ((k : Int) - 1) * (6 + 2 * T) < n ∧ (n ≤ (k : Int) * (6 + 2 * T) ∨ (k : Int) = W * H)
theorem fk_hit {k : Nat} {n : Int} (h0 : 0 ≤ n) (h : FK W H T k n ∨ k = 0 ∧ n = 0) (hk : dK W H T P n = 1) : n = (k : Int) * (6 + 2 * T) ∧ FK W H T (k + 1) (n + 1) := by
  have hT := g.t; have hb := g.b
  obtain ⟨a, b⟩ := (k1_iff g h0).1 hk
  have hx := (dm_ex (e := 6 + 2 * T) n (by omega)).1
  rw [b, Int.add_zero] at hx
  have hd := div_lt g h0 a
  generalize hq : n / (6 + 2 * T) = q at hx hd
  have hT' : T = 2 ∨ T = 3 ∨ T = 4 := by omega
  have he : n = (k : Int) * (6 + 2 * T) := by
    rcases h with ⟨h1, h2, h3⟩ | ⟨h1, h2⟩
    · rcases hT' with rfl | rfl | rfl <;> omega
    · rw [h2, h1]; simp
  refine ⟨he, ?_, ?_, ?_⟩
  · rcases hT' with rfl | rfl | rfl <;> omega
  · push_cast
    rcases hT' with rfl | rfl | rfl <;> omega
  · push_cast
    left
    rcases hT' with rfl | rfl | rfl <;> omega
theorem fk_miss {k : Nat} {n : Int} (h0 : 0 ≤ n) (h : FK W H T k n ∨ k = 0 ∧ n = 0) (hk : dK W H T P n ≠ 1) : FK W H T k (n + 1) := by
  have hT := g.t; have hb := g.b
  have hk' := fun hh => hk ((k1_iff g h0).2 hh)
  rcases h with ⟨h1, h2, h3⟩ | ⟨h1, h2⟩
  · refine ⟨h1, by omega, ?_⟩
    by_cases e : (k : Int) = W * H
    · exact .inr e
    · left
      rcases h3 with h3 | h3
      · by_cases hn : n = (k : Int) * (6 + 2 * T)
        · exfalso
          have d0 := dm (e := 6 + 2 * T) (t := (k : Int)) (i := 0) (by omega) (by omega) (by omega)
          have hin := inner_lt g (t := (k : Int)) (i := 0) ⟨by omega, by omega⟩ (by omega)
          rw [Int.add_zero] at d0 hin
          rw [← hn] at d0 hin
          exact hk' ⟨by omega, d0.2⟩
        · omega
      · exact absurd h3 e
  · exfalso
    subst h2
    refine hk' ⟨by omega, by simp⟩
theorem f32_eq (hM : 2000 ≤ M) {sel mode table ram state : List Int} {extra : List V} {pads : List Bool} (c : ConfOk W H T P sel mode table ram) (hpads : pads.length = 4) (kr : List Bool → Option R) :
    f32 M W H T P K sel mode table ram state extra pads kr = kr (it W H T P mode table ram (drv W H T P sel (cnt W H T P).toNat) state extra pads (cnt W H T P).toNat) := by
  have hc := cnt_b g; have hls := c.ls; have hT := g.t; have hb := g.b
  have hcn : W * H * (6 + 2 * T) + 8 = cnt W H T P := by have := g.p; unfold cnt; omega
  unfold f32 f32T f27L3of32S
  simp only [lenI]
  refine rounds_wp (fun (a : Int × List V × List Int × List Int) => (0 ≤ a.1 ∧ a.1 ≤ cnt W H T P) ∧ a.2.1 = (List.range a.1.toNat).map (spotN W H T P) ∧ (∃ k : Nat, (FK W H T k a.1 ∨ k = 0 ∧ a.1 = 0) ∧ a.2.2.1 = (List.range k).map fun (t : Nat) => (t : Int) * (6 + 2 * T)) ∧ a.2.2.2 = drv W H T P sel a.1.toNat) (fun (a : Int × List V × List Int × List Int) => (cnt W H T P - a.1).toNat) (fun o => o = kr (it W H T P mode table ram (drv W H T P sel (cnt W H T P).toNat) state extra pads (cnt W H T P).toNat)) ?_ M _ ⟨⟨by simp, by simp; omega⟩, rfl, ⟨0, .inr ⟨rfl, rfl⟩, rfl⟩, rfl⟩ (by simp; omega)
  rintro G ⟨j, S, F, D⟩ ⟨⟨h1, h1'⟩, h2, ⟨k, h3, h4⟩, h5⟩ ih
  simp only at h1 h1' h2 h3 h4 h5 ih ⊢
  obtain ⟨n, rfl⟩ : ∃ n : Nat, j = n := ⟨j.toNat, by omega⟩
  subst h2 h4 h5
  unfold f27L3of32
  simp only [c_lt, c_eq, show Int.toNat (n : Int) = n from rfl]
  by_cases hj : (n : Int) < cnt W H T P
  · have hs := c.s n (by omega)
    have hrl := refD_len g (n : Int)
    have hkb : (k : Int) ≤ W * H := by rcases h3 with h | h; exact h.1; omega
    rw [if_pos (by omega), g_inR (by omega), f50_eq g M K (by omega) hj, g_okL (by simp; omega), addI_ok (by omega)]
    have hsp : (List.range n).map (spotN W H T P) ++ [V.agg [.int .i64 (dK W H T P n), .int .i64 (dX W H T P n), .int .i64 (dY W H T P n), .int .i64 (dI W H T P n)]] = (List.range (n + 1)).map (spotN W H T P) := map_range_succ (spotN W H T P) n
    rw [hsp]
    have step : ∀ F' : List Int, (∃ k : Nat, (FK W H T k ((n : Int) + 1) ∨ k = 0 ∧ (n : Int) + 1 = 0) ∧ F' = (List.range k).map fun (t : Nat) => (t : Int) * (6 + 2 * T)) → ∀ v : Int, v = drvN W H T P sel n → gd (okL (drv W H T P sel n ++ [v]).length) (G ((n : Int) + 1, (List.range (n + 1)).map (spotN W H T P), F', drv W H T P sel n ++ [v])) = kr (it W H T P mode table ram (drv W H T P sel (cnt W H T P).toNat) state extra pads (cnt W H T P).toNat) := fun F' hF' v hv => by
      rw [g_okL (by unfold drv; simp; omega)]
      refine ih _ ⟨⟨by simp only; omega, by simp only; omega⟩, rfl, hF', ?_⟩ (by simp only; omega)
      simp only
      rw [hv, show ((n : Int) + 1).toNat = n + 1 from rfl]
      exact map_range_succ _ _
    have both : ∀ F' : List Int, (∃ k : Nat, (FK W H T k ((n : Int) + 1) ∨ k = 0 ∧ (n : Int) + 1 = 0) ∧ F' = (List.range k).map fun (t : Nat) => (t : Int) * (6 + 2 * T)) →
        (if 0 < sel.getD n 0 then f36 M W H T P K (n : Int) (fun y87 => gd (inR (subI .i64 (sel.getD n 0) 1) y87.length) <| gd (okL (drv W H T P sel n ++ [(List.getD y87 (Int.toNat (subI .i64 (sel.getD n 0) 1)) 0)]).length) <| G ((n : Int) + 1, (List.range (n + 1)).map (spotN W H T P), F', drv W H T P sel n ++ [(List.getD y87 (Int.toNat (subI .i64 (sel.getD n 0) 1)) 0)]))
          else gd (okL (drv W H T P sel n ++ [(-1)]).length) <| G ((n : Int) + 1, (List.range (n + 1)).map (spotN W H T P), F', drv W H T P sel n ++ [(-1)])) = kr (it W H T P mode table ram (drv W H T P sel (cnt W H T P).toNat) state extra pads (cnt W H T P).toNat) := fun F' hF' => by
      by_cases h0 : 0 < sel.getD n 0
      · rw [if_pos h0, f36_eq g M K hM (by omega) hj, subI_ok (by omega), g_inR (by omega)]
        refine step F' hF' _ ?_
        unfold drvN; rw [if_pos h0]
      · rw [if_neg h0]
        refine step F' hF' _ ?_
        unfold drvN; rw [if_neg h0]
    by_cases k1 : dK W H T P n = 1
    · rw [if_pos k1, g_okL (by simp; omega)]
      have hit := fk_hit g (n := (n : Int)) (by omega) h3 k1
      refine both _ ⟨k + 1, .inl hit.2, ?_⟩
      rw [← map_range_succ (fun (t : Nat) => (t : Int) * (6 + 2 * T)) k, ← hit.1]
    · rw [if_neg k1]
      exact both _ ⟨k, .inl (fk_miss g (by omega) h3 k1), rfl⟩
  · have hn : n = (cnt W H T P).toNat := by omega
    have hk : (k : Int) = W * H := by
      rcases h3 with ⟨a, b, h3 | h3⟩ | h
      · by_cases e : (k : Int) = W * H
        · exact e
        · exfalso
          have hin := inner_lt g (t := (k : Int)) (i := 0) ⟨by omega, by omega⟩ (by omega)
          omega
      · exact h3
      · omega
    rw [if_neg (by omega)]
    subst hn
    refine f61_eq g M (by omega) ⟨c.lm, c.lt, c.lr, c.m, c.r, by simp; omega, fun i hi => map_range_getD _ _ (by omega), by simp; omega, fun i hi => map_range_getD _ _ (by omega), by unfold drv; simp; omega, fun x hx => ?_⟩ hpads kr
    unfold drv at hx
    obtain ⟨i, hi, rfl⟩ := List.mem_map.1 hx
    rw [List.mem_range] at hi
    exact (drvN_b g c (by omega)).2
end
end Go.Vm.T3
end
section
namespace Go.Vm.T3
open Go Go.Vm
section
variable {R : Type} (M : Nat) (Q : Option R → Prop)
theorem f7_wp {a1 a2 a3 a4 : Int} {a6 : List Int} {a8 a10 : List V} {a12 : List Int} {a14 a16 : List V} {a18 : List Int} {a20 a22 : List V} {a24 : List Bool} {a26 a28 : List Int} (hM : a20.length ≤ M) (hl : a20.length ≤ 9223372036854775807) {kr : Bool → Option R} (h : ∀ b, Q (kr b)) : Q (f7 M a1 a2 a3 a4 a6 a8 a10 a12 a14 a16 a18 a20 a22 a24 a26 a28 kr) := by
  unfold f7 f7T f7L3S
  refine rounds_wp (fun (a : Int × Int) => 0 ≤ a.2 ∧ a.2 ≤ (a20.length : Int)) (fun (a : Int × Int) => ((a20.length : Int) - a.2).toNat) Q ?_ M _ ⟨by simp, by simp⟩ (by simp; omega)
  rintro G ⟨z, j⟩ ⟨h1, h2⟩ ih
  simp only at h1 h2 ih ⊢
  unfold f7L3
  simp only [c_lt, lenI]
  by_cases hj : j < a20.length
  · rw [if_pos hj, g_inR (by omega), addI_ok (a := j) (by omega)]
    exact ih _ ⟨by simp only; omega, by simp only; omega⟩ (by simp only; omega)
  · rw [if_neg hj]; exact h _
theorem f12_wp {l : List Int} (hM : 10 ≤ M) {kr : List Bool → Option R} (h : ∀ p, p.length = 4 → Q (kr p)) : Q (f12 M 4 l kr) := by
  unfold f12 f12T f12L3S
  refine rounds_wp (fun (a : Int × List Bool) => (0 ≤ a.1 ∧ a.1 ≤ 4) ∧ (a.2.length : Int) = a.1) (fun (a : Int × List Bool) => (4 - a.1).toNat) Q ?_ M _ ⟨⟨by simp, by simp⟩, rfl⟩ (by simp; omega)
  rintro G ⟨j, L⟩ ⟨⟨h1, h1'⟩, h2⟩ ih
  simp only at h1 h1' h2 ih ⊢
  unfold f12L3
  simp only [c_lt, lenI]
  by_cases hj : j < 4
  · rw [if_pos hj, addI_ok (by omega)]
    have app : ∀ b : Bool, Q (gd (okL (L ++ [b]).length) (G (j + 1, L ++ [b]))) := fun b => by
      rw [g_okL (by simp; omega)]
      exact ih _ ⟨⟨by simp only; omega, by simp only; omega⟩, by simp; omega⟩ (by simp only; omega)
    by_cases hl : j < l.length
    · rw [if_pos hl, g_inR (by omega)]; exact app _
    · rw [if_neg hl]; exact app _
  · rw [if_neg hj]; exact h _ (by omega)
theorem f4L15_wp {x83 : Bool} {x84 x85 x88 x89 x90 x91 : Int} {x92 x93 x94 x95 x96 D x98 : List Int} {x99 : List V} {x100 x101 x102 : List Bool} (hM : D.length ≤ M) (hl : D.length ≤ 100000) {k0 : Bool → Int → Bool → Option R}
    (h : ∀ u z b, (u = false → ∀ i : Nat, i < D.length → D.getD i 0 ≠ addI .i64 x84 x85) → Q (k0 u z b)) : Q (f4L15S M x83 x84 x85 x88 x89 x90 x91 x92 x93 x94 x95 x96 D x98 x99 x100 x101 x102 false 0 k0) := by
  unfold f4L15S
  refine rounds_wp (fun (a : Bool × Int) => (0 ≤ a.2 ∧ a.2 ≤ (D.length : Int)) ∧ (a.1 = false → ∀ i : Nat, (i : Int) < a.2 → D.getD i 0 ≠ addI .i64 x84 x85)) (fun (a : Bool × Int) => ((D.length : Int) - a.2).toNat) Q ?_ M _ ⟨⟨by simp, by simp⟩, fun _ i hi => by simp at hi; omega⟩ (by simp; omega)
  rintro G ⟨u, j⟩ ⟨⟨h1, h1'⟩, h2⟩ ih
  simp only at h1 h1' h2 ih ⊢
  unfold f4L15
  simp only [c_lt, lenI]
  by_cases hj : j < D.length
  · rw [if_pos hj, addI_ok (a := j) (by omega)]
    cases u with
    | true => exact ih _ ⟨⟨by simp only; omega, by simp only; omega⟩, fun e => by simp at e⟩ (by simp only; omega)
    | false =>
      simp only [cond_false]
      rw [g_inR (by omega)]
      refine ih _ ⟨⟨by simp only; omega, by simp only; omega⟩, fun e i hi => ?_⟩ (by simp only; omega)
      simp only at e hi
      rw [eqI_dec] at e
      by_cases hij : (i : Int) = j
      · rw [show i = j.toNat from by omega]
        exact of_decide_eq_false e
      · exact h2 rfl i (by omega)
  · rw [if_neg hj]
    exact h _ _ _ fun e i hi => h2 e i (by omega)
theorem f4L19_wp {x106 : Bool} {x107 x108 : Int} {u : Bool} {A B : List Bool} (hl : A.length = B.length) (hM : A.length ≤ M) (hn : A.length ≤ 100000) (hab : u = false → ∀ i : Nat, i < A.length → (i : Int) ≠ addI .i64 x107 x108 → A.getD i false = B.getD i false)
    {k0 : Bool → Int → Bool → Bool → Option R} {k1 : Int → Bool → Option R} (h : ∀ z b, Q (k1 z b)) : Q (f4L19S M x106 x107 x108 u A B 0 k0 k1) := by
  unfold f4L19S
  refine rounds_wp (fun (j : Int) => 0 ≤ j ∧ j ≤ (A.length : Int)) (fun (j : Int) => ((A.length : Int) - j).toNat) Q ?_ M _ ⟨by simp, by simp⟩ (by simp; omega)
  rintro G j ⟨h1, h1'⟩ ih
  unfold f4L19
  simp only [c_lt, lenI]
  by_cases hj : j < A.length
  · rw [if_pos hj]
    cases u with
    | true => exact h _ _
    | false =>
      simp only [notB, Bool.not_false, cond_true, c_ne]
      rw [addI_ok (a := j) (by omega)]
      have nxt := ih (j + 1) ⟨by omega, by omega⟩ (by omega)
      by_cases hq : j = addI .i64 x107 x108
      · rw [if_pos hq]; exact nxt
      · rw [if_neg hq, g_inR (by omega), g_inR (by omega), hab rfl j.toNat (by omega) (by omega)]
        have : neB (B.getD j.toNat false) (B.getD j.toNat false) = false := by simp [neB]
        rw [this]; exact nxt
  · rw [if_neg hj]; exact h _ _
end
section
variable {R : Type} {W H T : Int} (g : GO W H T 4) (M : Nat) (K : List Int) (Q : Option R → Prop)
include g
theorem core_wp (hM : 2000 ≤ M) {s m t r a11 a15 : List Int} {a12 : List V} {a17 : Int} (h17 : 0 ≤ a17 ∧ a17 ≤ 255) (c : ConfOk W H T 4 s m t r) {kr : Bool → Option R} (hq : Q (kr true)) :
    Q (f25 M W H T 4 K s m t r (fun y119 y120 y121 y122 y123 y124 y125 y126 y127 y128 y129 y130 y131 =>
      f12 M 4 a15 (fun y132 =>
       f16 M y119 y120 y121 y122 y123 y124 y125 y126 y127 y128 y129 y130 y131 a11 a12 y132 (fun y133 y134 y135 y136 y137 y138 y139 y140 y141 y142 y143 y144 y145 =>
        f17 M y145 (convI .i64 (remI a17 4)) (fun y146 =>
         f16 M y133 y134 y135 y136 y137 y138 y139 y140 y141 y142 y143 y144 y145 y143 y144 y146 (fun y147 y148 y149 y150 y151 y152 y153 y154 y155 y156 y157 y158 y159 =>
          f11 M y133 y134 y135 y136 y137 y138 y139 y140 y141 y142 y143 y144 y145 (fun y160 =>
           f11 M y147 y148 y149 y150 y151 y152 y153 y154 y155 y156 y157 y158 y159 (fun y161 =>
            bif (neI (lenI y160.length) (lenI y138.length)) then
             kr false
            else
            bif (neI (lenI y161.length) (lenI y160.length)) then
             kr false
            else
            gd (inR (addI .i64 (subI .i64 (lenI y138.length) (mulI .i64 2 y136)) (convI .i64 (remI a17 4))) y160.length) <|
            gd (inR (addI .i64 (subI .i64 (lenI y138.length) (mulI .i64 2 y136)) (convI .i64 (remI a17 4))) y161.length) <|
            bif (eqB (List.getD y160 (Int.toNat (addI .i64 (subI .i64 (lenI y138.length) (mulI .i64 2 y136)) (convI .i64 (remI a17 4)))) false) (List.getD y161 (Int.toNat (addI .i64 (subI .i64 (lenI y138.length) (mulI .i64 2 y136)) (convI .i64 (remI a17 4)))) false)) then
             kr false
            else
            f4L15S M true (subI .i64 (lenI y138.length) (mulI .i64 2 y136)) (convI .i64 (remI a17 4)) y133 y134 y135 y136 y137 y138 y139 y140 y141 y142 y143 y144 y145 y160 y161 false 0 (fun z162 z163 z164 =>
             f4L19S M true (subI .i64 (lenI y138.length) (mulI .i64 2 y136)) (convI .i64 (remI a17 4)) z162 y160 y161 0 (fun z165 z166 z167 z168 =>
              kr z165) (fun z169 z170 =>
              kr true)))))))))) := by
  have hc := cnt_b g; have hb := g.b; have hls := c.ls
  have hcn : W * H * (6 + 2 * T) + 8 = cnt W H T 4 := by unfold cnt; omega
  unfold f25 f25T
  rw [f47_eq g M K (by omega) c]
  refine f12_wp M Q (by omega) fun pads hp => ?_
  unfold f16 f16T f17 f17T f11 f11T
  simp only [lenI, c_ne]
  have hp0 : 0 ≤ a17 % 4 ∧ a17 % 4 < 4 := by omega
  rw [remI_ok h17.1, convI_ok (by omega)]
  generalize a17 % 4 = p at hp0
  rw [g_okL (by omega), g_inR (by omega), g_inR (by omega), f32_eq g M K hM c hp, f32_eq g M K hM c (by simp [hp])]
  generalize hA : it W H T 4 m t r (drv W H T 4 s (cnt W H T 4).toNat) a11 a12 pads (cnt W H T 4).toNat = A
  generalize hB : it W H T 4 m t r (drv W H T 4 s (cnt W H T 4).toNat) a11 a12 (List.set pads p.toNat (notB (List.getD pads p.toNat false))) (cnt W H T 4).toNat = B
  have lA : (A.length : Int) = cnt W H T 4 := by rw [← hA]; exact it_len (by omega) _
  have lB : (B.length : Int) = cnt W H T 4 := by rw [← hB]; exact it_len (by omega) _
  rw [if_pos (by omega), if_pos (by omega), mulI_ok (by omega), subI_ok (by omega)]
  have hqi : addI .i64 ((s.length : Int) - 2 * 4) p = W * H * (6 + 2 * T) + p := by rw [addI_ok (by omega)]; omega
  rw [hqi, g_inR (by omega), g_inR (by omega)]
  have eA : A.getD (W * H * (6 + 2 * T) + p).toNat false = pads.getD p.toNat false := by rw [← hA]; exact it_pad g hp0 (by omega)
  have eB : B.getD (W * H * (6 + 2 * T) + p).toNat false = notB (pads.getD p.toNat false) := by
    rw [← hB, it_pad g hp0 (by omega), getD_set, if_pos ⟨rfl, by omega⟩]
  have hne : eqB (A.getD (W * H * (6 + 2 * T) + p).toNat false) (B.getD (W * H * (6 + 2 * T) + p).toNat false) = false := by
    rw [eA, eB]; unfold eqB notB; cases pads.getD p.toNat false <;> rfl
  rw [hne]
  simp only [cond_false]
  have hdl : (drv W H T 4 s (cnt W H T 4).toNat).length = (cnt W H T 4).toNat := by unfold drv; simp
  refine f4L15_wp M Q (by omega) (by omega) fun u z b hu => ?_
  rw [hqi] at hu
  refine f4L19_wp M Q (by omega) (by omega) (by omega) (fun e i hi hne => ?_) (fun z b => hq)
  rw [hqi] at hne
  rw [← hA, ← hB]
  refine it_apart g hp0 (fun i hi => ?_) (fun n hn => hu e n (by omega)) (fun n hn => ?_) _ i (by omega) hne
  · rw [getD_set, if_neg (by omega)]
  · unfold drv
    rw [map_range_getD _ _ (by omega)]
    exact (drvN_b g c (by omega)).2
end
section
variable {R : Type} (M : Nat)
theorem f4_eq (hM : 2000 ≤ M) {a1 a2 a3 a4 : Int} {a5 : List Int} {a6 a7 : List V} {a8 : List Int} {a9 a10 : List V} {a11 : List Int} {a12 a13 : List V} {a14 : List Bool} {a15 a16 : List Int} {a17 : Int}
    (h12 : a12.length ≤ M) (h12' : a12.length ≤ 9223372036854775807) (h1 : 0 ≤ a1 ∧ a1 ≤ 255) (h2 : 0 ≤ a2 ∧ a2 ≤ 255) (h3 : 0 ≤ a3 ∧ a3 ≤ 255) (h5 : ∀ x ∈ a5, 0 ≤ x ∧ x ≤ 255) (h7 : ∀ r ∈ a7, ∀ x ∈ V.toInts (V.cell r 0), 0 ≤ x ∧ x ≤ 255) (h8 : ∀ x ∈ a8, 0 ≤ x ∧ x ≤ 255) (h17 : 0 ≤ a17 ∧ a17 ≤ 255) (kr : Bool → Option R) :
    f4 M a1 a2 a3 a4 a5 a6 a7 a8 a9 a10 a11 a12 a13 a14 a15 a16 a17 kr = kr true := by
  unfold f4 f4T f6
  show (bif notB true then _ else _) = _
  simp only [notB, Bool.not_true, cond_false]
  refine f7_wp M (fun o => o = kr true) h12 h12' fun b => ?_
  cases b with
  | false => rfl
  | true =>
    simp only [Bool.not_true, cond_false]
    refine f22_wp M (fun o => o = kr true) hM h1 h2 h3 h5 h7 fun W H T K B A rs g hK hB hR => ?_
    refine f23_wp g M K (fun o => o = kr true) (by omega) hK hB hR fun s m t r c => ?_
    simp only [c_lt]
    by_cases hl : 0 < lenI a8.length
    · rw [if_pos hl]
      refine f24_wp g M K (fun o => o = kr true) (by omega) hK h8 fun s m t r c => ?_
      exact core_wp g M K (fun o => o = kr true) hM h17 c rfl
    · rw [if_neg hl]
      exact core_wp g M K (fun o => o = kr true) hM h17 c rfl
end
end Go.Vm.T3
end
