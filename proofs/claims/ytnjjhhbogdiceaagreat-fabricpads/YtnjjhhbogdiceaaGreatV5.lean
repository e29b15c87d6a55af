/-
  A part of the proof that FabricPads answers true at every input. No condition.
-/
import Derived.Sort.Row
import Derived.Sort.Grow
import Derived.Test.YtnjjhhbogdiceaaGreatV4
section
namespace Go.Vm
open Go.RowKit
section
variable {E : Env} {C : Calls}
theorem runD_det (hD : InlDet C) {R : Type} {all : List Oper} {k : St → Option R} {r : R} : ∀ (l : List Pl) (st : St) (log : List Lg), runD E C all l st log k = some r →
    ∃ st', k st' = some r ∧ ∀ (R' : Type) (k' : St → Option R'), runD E C all l st log k' = k' st'
  | [], st, log, h => by
    simp only [runD] at h
    obtain ⟨hk, h⟩ := cond_some h
    exact ⟨st, h, fun R' k' => by simp only [runD, hk, cond_true]⟩
  | p :: l, st, log, h => by
    simp only [runD] at h
    split at h
    case h_1 => simp at h
    rename_i o ho
    obtain ⟨hkk, h⟩ := cond_none h
    obtain ⟨b, st1, h1, h2⟩ := guarded_det h
    cases b with
    | true =>
      simp only [cond_true] at h1 h2
      cases hap : apartL p.m log with
      | nil =>
        simp only [hap] at h1
        obtain ⟨sv, h3, h4⟩ := step_det hD h1
        obtain ⟨hc, h3⟩ := cond_none h3
        obtain ⟨st3, h5, h6⟩ := runD_det hD l _ _ h3
        exact ⟨st3, h5, fun R' k' => by simp only [runD, ho, hkk, cond_false]; rw [h2]; simp only [hap]; rw [h4]; simp only [hc, cond_false]; rw [h6]⟩
      | cons x u =>
        simp only [hap] at h1
        obtain ⟨hb, h1⟩ := cond_none h1
        cases hq : swapOf all o (x :: u) with
        | none =>
          simp only [hq] at h1
          obtain ⟨sv, h3, h4⟩ := step_det hD h1
          obtain ⟨hc, h3⟩ := cond_none h3
          obtain ⟨st3, h5, h6⟩ := runD_det hD l _ _ h3
          exact ⟨st3, h5, fun R' k' => by simp only [runD, ho, hkk, cond_false]; rw [h2]; simp only [hap, hb, cond_false, hq]; rw [h4]; simp only [hc, cond_false]; rw [h6]⟩
        | some q =>
          simp only [hq] at h1
          split at h1
          case h_2 => simp at h1
          rename_i sv sw hsv hsw
          obtain ⟨hc, h3⟩ := cond_some h1
          obtain ⟨st3, h5, h6⟩ := runD_det hD l _ _ h3
          exact ⟨st3, h5, fun R' k' => by simp only [runD, ho, hkk, cond_false]; rw [h2]; simp only [hap, hb, cond_false, hq, hsv, hsw, hc, cond_true]; rw [h6]⟩
    | false =>
      simp only [cond_false] at h1 h2
      obtain ⟨st3, h5, h6⟩ := runD_det hD l _ _ h1
      exact ⟨st3, h5, fun R' k' => by simp only [runD, ho, hkk, cond_false]; rw [h2]; rw [h6]⟩
def ExDet {R : Type} (f : (R' : Type) → (Ex → St → Option R') → Option R') (k : Ex → St → Option R) (r : R) : Prop :=
  ∃ e st', k e st' = some r ∧ ∀ (R' : Type) (k' : Ex → St → Option R'), f R' k' = k' e st'
theorem exec_det (hD : InlDet C) {f : FuncId} {N : Nat} {R : Type} {r : R} : ∀ (code : Code) (st : St) (k : Ex → St → Option R), exec E C f N code st k = some r → ExDet (fun R' k' => exec (R := R') E C f N code st k') k r := by
  intro code
  induction code with
  | skip => exact fun st k h => ⟨.normal, st, h, fun _ _ => rfl⟩
  | region id ops dr =>
    intro st k h
    cases dr with
    | true =>
      obtain ⟨st', h1, h2⟩ := runD_det hD _ _ _ (show runD E C ops.toList _ st [] _ = some r from h)
      exact ⟨.normal, _, h1, fun R' k' => h2 R' _⟩
    | false =>
      obtain ⟨st', h1, h2⟩ := runOps_det hD _ _ (show runOps E C ops.toList ops.toList st _ = some r from h)
      exact ⟨.normal, _, h1, fun R' k' => h2 R' _⟩
  | seq x y ihx ihy =>
    intro st k h
    obtain ⟨e, st', h1, h2⟩ := ihx st _ h
    cases e with
    | normal =>
      obtain ⟨e2, st2, h3, h4⟩ := ihy st' k h1
      exact ⟨e2, st2, h3, fun R' k' => (h2 R' _).trans (h4 R' k')⟩
    | exit id => exact ⟨.exit id, st', h1, fun R' k' => h2 R' _⟩
    | ret => exact ⟨.ret, st', h1, fun R' k' => h2 R' _⟩
  | cond x y z ihy ihz =>
    intro st k h
    unfold exec at h
    split at h
    · rename_i b hb
      cases b with
      | true =>
        obtain ⟨e, st', h1, h2⟩ := ihy st k h
        exact ⟨e, st', h1, fun R' k' => by show exec E C f N _ st k' = _; unfold exec; rw [hb]; exact h2 R' k'⟩
      | false =>
        obtain ⟨e, st', h1, h2⟩ := ihz st k h
        exact ⟨e, st', h1, fun R' k' => by show exec E C f N _ st k' = _; unfold exec; rw [hb]; exact h2 R' k'⟩
    · simp at h
  | block id x ih =>
    intro st k h
    obtain ⟨e, st', h1, h2⟩ := ih st _ h
    cases e with
    | normal => exact ⟨.normal, st', h1, fun R' k' => h2 R' _⟩
    | ret => exact ⟨.ret, st', h1, fun R' k' => h2 R' _⟩
    | exit j =>
      cases hj : Nat.beq j id with
      | true =>
        simp only [hj, cond_true] at h1
        exact ⟨.normal, st', h1, fun R' k' => (h2 R' _).trans (by simp only [hj, cond_true])⟩
      | false =>
        simp only [hj, cond_false] at h1
        exact ⟨.exit j, st', h1, fun R' k' => (h2 R' _).trans (by simp only [hj, cond_false])⟩
  | loop x ih =>
    intro st k h
    have key : ∀ (M : Nat) (st : St), loopN (exec E C f N x) (canon 4096 (E.live f ((firstRegion x).getD 0))) M st k = some r →
        ExDet (fun R' k' => loopN (R := R') (exec E C f N x) (canon 4096 (E.live f ((firstRegion x).getD 0))) M st k') k r := by
      intro M
      induction M with
      | zero => intro st h; simp [loopN] at h
      | succ M ihM =>
        intro st h
        simp only [loopN] at h
        split at h
        case h_2 => simp at h
        rename_i st0 hst0
        obtain ⟨e, st', h1, h2⟩ := ih st0 _ h
        cases e with
        | normal =>
          obtain ⟨e2, st2, h3, h4⟩ := ihM st' h1
          exact ⟨e2, st2, h3, fun R' k' => by simp only [loopN, hst0]; exact (h2 R' _).trans (h4 R' k')⟩
        | exit id => exact ⟨.exit id, st', h1, fun R' k' => by simp only [loopN, hst0]; exact h2 R' _⟩
        | ret => exact ⟨.ret, st', h1, fun R' k' => by simp only [loopN, hst0]; exact h2 R' _⟩
    exact key N st h
  | exit id => exact fun st k h => ⟨.exit id, st, h, fun _ _ => rfl⟩
  | ret => exact fun st k h => ⟨.ret, st, h, fun _ _ => rfl⟩
  | _ => intros; rename_i h; simp [exec] at h
theorem inlBody_det (hD : InlDet C) {N : Nat} {R : Type} {f : FuncId} {as : List V} {st : St} {k : List V → St → Option R} {r : R} (h : inlBody E N C f as st k = some r) :
    ∃ ws st', k ws st' = some r ∧ ∀ (R' : Type) (k' : List V → St → Option R'), inlBody E N C f as st k' = k' ws st' := by
  unfold inlBody at h
  split at h
  case h_2 => simp at h
  rename_i fn hfn
  split at h
  case h_2 => simp at h
  rename_i code hcode
  obtain ⟨hlen, h⟩ := cond_some h
  obtain ⟨e, st', h1, h2⟩ := exec_det hD code _ _ h
  cases e with
  | exit j => simp at h1
  | normal =>
    simp only at h1
    split at h1
    case h_2 => simp at h1
    rename_i vs hvs
    exact ⟨vs.1, _, h1, fun R' k' => by unfold inlBody; simp only [hfn, hcode, hlen, cond_true]; refine (h2 R' _).trans ?_; simp only [hvs]⟩
  | ret =>
    simp only at h1
    split at h1
    case h_2 => simp at h1
    rename_i vs hvs
    exact ⟨vs.1, _, h1, fun R' k' => by unfold inlBody; simp only [hfn, hcode, hlen, cond_true]; refine (h2 R' _).trans ?_; simp only [hvs]⟩
end
section
variable {E : Env} {C : Calls}
theorem subBody_det (hD : InlDet C) {N : Nat} {R : Type} {f : FuncId} {as : List V} {st : St} {k : List V → St → Option R} {r : R} (h : subBodyS E (inlCore E N C) f as st k = some r) :
    ∃ ws st', k ws st' = some r ∧ ∀ (R' : Type) (k' : List V → St → Option R'), subBodyS E (inlCore E N C) f as st k' = k' ws st' := by
  unfold subBodyS at h
  split at h
  case h_2 => simp at h
  rename_i fn hfn
  obtain ⟨hlen, h⟩ := cond_some h
  split at h
  case h_2 => simp at h
  rename_i s hs
  unfold inlCore at h
  simp only [hfn] at h
  split at h
  case h_2 => simp at h
  rename_i code hcode
  obtain ⟨e, st', h1, h2⟩ := exec_det hD code _ _ h
  have fin : ∀ e, e = Ex.normal ∨ e = Ex.ret → (match (resultOf E.ty fn st').bind fun vs => endCall vs st' with
      | some p => (match subEnd s st p.1 p.2 with
        | some p => k p.1 p.2
        | none => none)
      | none => none) = some r → (∀ (R' : Type) (k' : Ex → St → Option R'), exec E C f N code s.st k' = k' e st') →
      ∃ ws st', k ws st' = some r ∧ ∀ (R' : Type) (k' : List V → St → Option R'), subBodyS E (inlCore E N C) f as st k' = k' ws st' := by
    intro e he h1 h2
    split at h1
    case h_2 => simp at h1
    rename_i p hp
    split at h1
    case h_2 => simp at h1
    rename_i q hq
    refine ⟨q.1, q.2, h1, fun R' k' => ?_⟩
    unfold subBodyS inlCore
    simp only [hfn, hcode, hlen, cond_true, hs]
    refine (h2 R' _).trans ?_
    rcases he with rfl | rfl <;> simp only [hp, hq]
  cases e with
  | exit j => simp at h1
  | normal => exact fin _ (.inl rfl) h1 h2
  | ret => exact fin _ (.inr rfl) h1 h2
end
abbrev Tab := (R : Type) → FuncId → List V → (List V → Option R) → Option R
abbrev Sp := FuncId → List V → St → Option (Option (Bool × List V × St))
def nxt (E : Env) (f : FuncId) (d : Nat) : Nat := bif Nat.beq (E.rk f) 0 then d else bif Nat.ble (E.rk f) d then E.rk f else d
theorem nxt_le (E : Env) (f : FuncId) (d : Nat) : nxt E f d ≤ d := by
  unfold nxt
  cases Nat.beq (E.rk f) 0 with
  | true => exact Nat.le_refl _
  | false =>
    simp only [cond_false]
    cases h : Nat.ble (E.rk f) d with
    | true => exact Nat.le_of_ble_eq_true h
    | false => exact Nat.le_refl _
def callsU (E : Env) (N : Nat) (pure : Tab) (sp : Sp) : Nat → Nat → Calls
  | 0, _ => { pure, inl := fun _ _ _ _ _ => none }
  | d + 1, r => bif Nat.ble r d then callsU E N pure sp d r else { pure, inl := fun _ f as st k => match sp f as st with
      | some (some p) => cond p.1 (k p.2.1 p.2.2) none
      | some none => none
      | none => bif E.sub f then subBodyS E (inlCore E N (callsU E N pure sp d (nxt E f d))) f as st k else inlBody E N (callsU E N pure sp d (nxt E f d)) f as st k }
abbrev callsT (E : Env) (N : Nat) (pure : Tab) (sp : Sp) (d : Nat) : Calls := callsU E N pure sp d d
theorem callsU_le {E : Env} {N : Nat} {pure : Tab} {sp : Sp} : ∀ {d r : Nat}, r ≤ d → callsU E N pure sp d r = callsU E N pure sp r r
  | 0, r, h => by obtain rfl : r = 0 := by omega
                  rfl
  | d + 1, r, h => by
    by_cases e : r = d + 1
    · subst e; rfl
    · have h' : r ≤ d := by omega
      unfold callsU
      rw [Nat.ble_eq_true_of_le h']
      simp only [cond_true]
      exact (callsU_le h').trans (by cases r <;> rfl)
theorem callsT_succ {E : Env} {N : Nat} {pure : Tab} {sp : Sp} (d : Nat) : callsT E N pure sp (d + 1) = { pure, inl := fun _ f as st k => match sp f as st with
      | some (some p) => cond p.1 (k p.2.1 p.2.2) none
      | some none => none
      | none => bif E.sub f then subBodyS E (inlCore E N (callsT E N pure sp (nxt E f d))) f as st k else inlBody E N (callsT E N pure sp (nxt E f d)) f as st k } := by
  show (bif Nat.ble (d + 1) d then callsU E N pure sp d (d + 1) else { pure, inl := fun _ f as st k => match sp f as st with
      | some (some p) => cond p.1 (k p.2.1 p.2.2) none
      | some none => none
      | none => bif E.sub f then subBodyS E (inlCore E N (callsU E N pure sp d (nxt E f d))) f as st k else inlBody E N (callsU E N pure sp d (nxt E f d)) f as st k }) = _
  have : Nat.ble (d + 1) d = false := by
    cases h : Nat.ble (d + 1) d with
    | false => rfl
    | true => exact absurd (Nat.le_of_ble_eq_true h) (by omega)
  rw [this]
  simp only [cond_false, callsU_le (nxt_le E _ d)]
section
variable {P : Program} {E : Env}
structure TabOk (P : Program) (E : Env) (pure : Tab) : Prop where
  spec : ∀ (R : Type) f as (k : List V → Option R) r0, pure R f as k = some r0 → ∃ r, k r = some r0 ∧ PureSpec P E f as r ∧ ∀ (R' : Type) (k' : List V → Option R'), pure R' f as k' = k' r
  fn : ∀ (R : Type) f as (k : List V → Option R) r, pure R f as k = some r → ∃ fn, E.fn f = some fn
structure SpOk (P : Program) (E : Env) (sp : Sp) : Prop where
  spec : ∀ f as st ws st', sp f as st = some (some (true, ws, st')) → ∀ (R : Type) (k : List V → St → Option R) r, k ws st' = some r → InlSpec P E R f as st k r
  fn : ∀ f as st p, sp f as st = some (some p) → ∃ fn, E.fn f = some fn
theorem callsT_ok (hT : TyOk P E.ty) (hF : FnsOk P E) (hR : AllRegions P E) {N : Nat} {pure : Tab} {sp : Sp} (hp : TabOk P E pure) (hs : SpOk P E sp) : ∀ d, CallsOk P E (callsT E N pure sp d) ∧ InlDet (callsT E N pure sp d) := by
  intro d
  induction d using Nat.strongRecOn with
  | _ d ih =>
  cases d with
  | zero => exact ⟨⟨fun R f as k r h => (hp.spec R f as k r h).imp fun _ h => ⟨h.1, h.2.1⟩, fun _ _ _ _ _ _ h => by simp [callsT, callsU] at h, hF, hp.fn, fun _ _ _ _ _ _ h => by simp [callsT, callsU] at h⟩,
      fun R f as k r h => (hp.spec R f as k r h).imp fun _ h => ⟨h.1, h.2.2⟩, fun _ _ _ _ _ _ h => by simp [callsT, callsU] at h⟩
  | succ d =>
    have hCD : ∀ f, CallsOk P E (callsT E N pure sp (nxt E f d)) ∧ InlDet (callsT E N pure sp (nxt E f d)) := fun f => ih _ (Nat.lt_succ_of_le (nxt_le E f d))
    rw [callsT_succ]
    refine ⟨⟨fun R f as k r h => (hp.spec R f as k r h).imp fun _ h => ⟨h.1, h.2.1⟩, fun R f as st k r h => ?_, hF, hp.fn, fun R f as st k r h => ?_⟩, fun R f as k r h => (hp.spec R f as k r h).imp fun _ h => ⟨h.1, h.2.2⟩, fun R f as st k r h => ?_⟩
    · simp only at h
      split at h
      · rename_i p hsp
        obtain ⟨hp1, h⟩ := cond_some h
        exact hs.spec f as st p.2.1 p.2.2 (by rw [hsp, ← hp1]) R k r h
      · simp at h
      · cases hsub : E.sub f with
        | false => rw [hsub] at h; exact inl_sound hT hF hR (canon_ok) (hCD f).1 (hCD f).2 h
        | true => rw [hsub] at h; exact sub_sound hT hF hR (hCD f).1 (hCD f).2 h
    · simp only at h
      split at h
      · rename_i p hsp
        exact hs.fn f as st p hsp
      · simp at h
      · cases hfn : E.fn f with
        | some fn => exact ⟨fn, rfl⟩
        | none =>
          unfold inlBody subBodyS at h
          rw [hfn] at h
          cases hsub : E.sub f <;> rw [hsub] at h <;> simp at h
    · simp only at h
      split at h
      · rename_i p hsp
        obtain ⟨hp1, h⟩ := cond_some h
        exact ⟨p.2.1, p.2.2, h, fun R' k' => by simp only [hsp, hp1, cond_true]⟩
      · simp at h
      · rename_i hsp
        cases hsub : E.sub f with
        | false =>
          rw [hsub] at h
          obtain ⟨ws, st', h1, h2⟩ := inlBody_det (hCD f).2 h
          exact ⟨ws, st', h1, fun R' k' => by simp only [hsp, hsub, cond_false]; exact h2 R' k'⟩
        | true =>
          rw [hsub] at h
          obtain ⟨ws, st', h1, h2⟩ := subBody_det (hCD f).2 h
          exact ⟨ws, st', h1, fun R' k' => by simp only [hsp, hsub, cond_true]; exact h2 R' k'⟩
end
end Go.Vm
end
section
namespace Go.Vm
open Go.RowKit
def ck (n : Nat) (p : Nat → Bool) : Bool := (List.range n).all p
theorem ck_at {n : Nat} {p : Nat → Bool} (h : ck n p = true) {k : Nat} (hk : k < n) : p k = true := List.all_eq_true.1 h k (List.mem_range.2 hk)
def dstAt (ops : Array Oper) (i : Nat) : Option Nat := (ops[i]?).bind (·.dst)
def planB (ops : Array Oper) (pl : List Pl) : Bool :=
  ck pl.length (fun k => Nat.blt (plAt pl k).i ops.size && Nat.blt (plAt pl k).m (2 ^ ops.size)) &&
  ck ops.size (fun i => (List.range pl.length).any fun k => Nat.beq (plAt pl k).i i) &&
  ck pl.length (fun k => ck pl.length fun k' => notB (Nat.beq (plAt pl k).i (plAt pl k').i) || Nat.beq k k') &&
  ck ops.size (fun i => match ops[i]? with
    | some o => o.after.toList.all fun e => notB (bindsE e) || Nat.blt e.on i
    | none => true) &&
  ck pl.length (fun k => match ops[(plAt pl k).i]? with
    | some o => (ck ops.size fun i => notB (bitN (plAt pl k).m i) || o.after.toList.any fun e => bindsE e && (Nat.beq i e.on || (List.range pl.length).any fun k' => Nat.beq (plAt pl k').i e.on && bitN (plAt pl k').m i)) &&
        (match o.guard with
          | some (g, _) => bitN (plAt pl k).m g
          | none => true)
    | none => true) &&
  ck pl.length (fun k => ck ops.size fun i => notB (bitN (plAt pl k).m i) || (List.range k).any fun k' => Nat.beq (plAt pl k').i i) &&
  ck pl.length (fun k => ck pl.length fun k' => match dstAt ops (plAt pl k').i with
    | some d => (match dstAt ops (plAt pl k).i with
        | some d' => notB (Nat.beq d' d) || Nat.beq k k'
        | none => true) && (Nat.beq k k' || bitN (plAt pl k).m (plAt pl k').i || bitN (plAt pl k').m (plAt pl k).i || has d (plAt pl k).x)
    | none => true)
theorem plan_ok {ops : Array Oper} {pl : List Pl} (h : planB ops pl = true) : PlanOk ops pl := by
  unfold planB at h
  simp only [Bool.and_eq_true] at h
  obtain ⟨⟨⟨⟨⟨⟨h1, h2⟩, h3⟩, h4⟩, h5⟩, h6⟩, h7⟩ := h
  have hlt : ∀ k, k < pl.length → (plAt pl k).i < ops.size ∧ (plAt pl k).m < 2 ^ ops.size := fun k hk => by
    have := ck_at h1 hk
    simp only [Bool.and_eq_true] at this
    exact ⟨by simpa using this.1, by simpa using this.2⟩
  have hbit : ∀ k, k < pl.length → ∀ i, bitN (plAt pl k).m i = true → i < ops.size := fun k hk i hb => by
    rcases Nat.lt_or_ge i ops.size with g | g
    · exact g
    · have := Nat.testBit_lt_two_pow (Nat.lt_of_lt_of_le (hlt k hk).2 (Nat.pow_le_pow_right (by omega) g))
      unfold bitN at hb
      rw [this] at hb; cases hb
  refine ⟨fun k hk => (hlt k hk).1, fun i hi => ?_, fun k k' hk hk' e => ?_, fun i o e ho he hb => ?_, fun k o hk ho i hb => ?_, fun k hk i hb => ?_, fun k k' o o' d hk hk' ho ho' hd hd' => ?_, fun k k' o' d hk hk' ho' hd hne => ?_, fun k o g w hk ho hg => ?_⟩
  · have := ck_at h2 hi
    obtain ⟨k, hk, he⟩ := List.any_eq_true.1 this
    exact ⟨k, List.mem_range.1 hk, beq_true.1 he⟩
  · have := ck_at (ck_at h3 hk) hk'
    simp only [notB, Bool.or_eq_true, Bool.not_eq_true'] at this
    rcases this with h | h
    · exact absurd e (beq_false.1 h)
    · exact beq_true.1 h
  · have hi : i < ops.size := (Array.getElem?_eq_some_iff.1 ho).1
    have := ck_at h4 hi
    rw [ho] at this
    have := List.all_eq_true.1 this e (by simpa using he)
    simp only [notB, Bool.or_eq_true, Bool.not_eq_true'] at this
    rcases this with h | h
    · rw [hb] at h; cases h
    · simpa using h
  · have := ck_at h5 hk
    rw [ho] at this
    simp only [Bool.and_eq_true] at this
    have := ck_at this.1 (hbit k hk i hb)
    simp only [notB, hb, Bool.not_true, Bool.false_or] at this
    obtain ⟨e, he, hc⟩ := List.any_eq_true.1 this
    simp only [Bool.and_eq_true, Bool.or_eq_true] at hc
    refine ⟨e, by simpa using he, hc.1, ?_⟩
    rcases hc.2 with h | h
    · exact .inl (beq_true.1 h)
    · obtain ⟨k', hk', hc'⟩ := List.any_eq_true.1 h
      simp only [Bool.and_eq_true] at hc'
      exact .inr ⟨k', List.mem_range.1 hk', beq_true.1 hc'.1, hc'.2⟩
  · have := ck_at (ck_at h6 hk) (hbit k hk i hb)
    simp only [notB, hb, Bool.not_true, Bool.false_or] at this
    obtain ⟨k', hk', hc⟩ := List.any_eq_true.1 this
    exact ⟨k', List.mem_range.1 hk', beq_true.1 hc⟩
  · have := ck_at (ck_at h7 hk) hk'
    unfold dstAt at this
    rw [ho, ho'] at this
    simp only [Option.bind_some, hd, hd', Bool.and_eq_true, Bool.or_eq_true, notB, Bool.not_eq_true'] at this
    rcases this.1 with h | h
    · exact absurd rfl (beq_false.1 h)
    · exact beq_true.1 h
  · have := ck_at (ck_at h7 hk) hk'
    unfold dstAt at this
    rw [ho'] at this
    simp only [Option.bind_some, hd, Bool.and_eq_true, Bool.or_eq_true] at this
    rcases this.2 with ((h | h) | h) | h
    · exact absurd (beq_true.1 h) hne
    · exact .inl h
    · exact .inr (.inl h)
    · exact .inr (.inr h)
  · have := ck_at h5 hk
    rw [ho] at this
    simp only [hg, Bool.and_eq_true] at this
    exact this.2
def opsB (n : Nat) (ops : List Oper) : Bool := ops.all fun o => match o.dst with
  | some d => Nat.blt d n
  | none => true
def regionsB (E : Env) (n : Nat) : Code → Bool
  | .region _ ops dr => opsB n ops.toList && (bif dr then planB ops (planOf E ops.toList) else true)
  | .seq x y => regionsB E n x && regionsB E n y
  | .cond _ x y => regionsB E n x && regionsB E n y
  | .block _ x => regionsB E n x
  | .loop x => regionsB E n x
  | _ => true
section
variable {P : Program} {E : Env} {C : Calls}
theorem regions_ok (hm : P.follows .mixedOrders = true) (hT : TyOk P E.ty) (hC : CallsOk P E C) (hD : InlDet C) {n m : Nat} (hnm : n ≤ m) : ∀ code, regionsB E n code = true → RegionsOk P E C m code := by
  have dsts : ∀ ops : Array Oper, opsB n ops.toList = true → ∀ o ∈ ops.toList, ∀ d, o.dst = some d → d < m := fun ops h o ho d hd => by
    have := List.all_eq_true.1 h o ho
    rw [hd] at this
    have h2 : d < n := by simpa using this
    exact Nat.lt_of_lt_of_le h2 hnm
  intro code
  induction code with
  | region id ops dr =>
    intro h
    simp only [regionsB, Bool.and_eq_true] at h
    cases dr with
    | false => exact region_plain hT (write_ok hT) hC (dsts ops h.1)
    | true => exact region_drawn hm hT (write_ok hT) hC hD (dsts ops h.1) (plan_ok h.2)
  | seq x y ihx ihy => intro h; simp only [regionsB, Bool.and_eq_true] at h; exact ⟨ihx h.1, ihy h.2⟩
  | cond c x y ihx ihy => intro h; simp only [regionsB, Bool.and_eq_true] at h; exact ⟨ihx h.1, ihy h.2⟩
  | block id x ih => intro h; exact ih h
  | loop x ih => intro h; exact ih h
  | _ => intro _; trivial
def funcB (E : Env) (f : Func) : Bool := match f.body with
  | some c => regionsB E f.ntmps c
  | none => true
theorem all_regions (hm : P.follows .mixedOrders = true) (hT : TyOk P E.ty) (h : ∀ f fn, E.fn f = some fn → funcB E fn = true) : AllRegions P E := by
  intro f fn code hf hc C n hC hD hn
  have := h f fn hf
  unfold funcB at this
  rw [hc] at this
  exact regions_ok hm hT hC hD hn code this
end
end Go.Vm
end
section
namespace Go.Vm
inductive Lf where
  | int (n : Int)
  | bool (b : Bool)
  | str (s : ByteArray)
  | ints (t : Tag) (l : List Int)
  | bools (t : Tag) (l : List Bool)
  | vals (t : Tag) (l : List V)
mutual
def eqV : V → V → Bool
  | .undef, .undef => true
  | .bool _, .bool _ => true
  | .int k _, .int k' _ => IntKind.same k k'
  | .str _, .str _ => true
  | .ints _ k _, .ints _ k' _ => IntKind.same k k'
  | .bools _ _, .bools _ _ => true
  | .vals _ e _, .vals _ e' _ => Nat.beq e e'
  | .own i, .own j => Nat.beq i j
  | .owns i _ _, .owns j _ _ => Nat.beq i j
  | .ptr i o, .ptr j p => Nat.beq i j && Nat.beq o p
  | .elem i _ o, .elem j _ p => Nat.beq i j && Nat.beq o p
  | .ro l, .ro m => eqL l m
  | .nilp, .nilp => true
  | .agg l, .agg m => eqL l m
  | .tup l, .tup m => eqL l m
  | .fn f a b, .fn g c d => Nat.beq f g && eqL a c && eqL b d
  | .nilfn, .nilfn => true
  | .nils, .nils => true
  | .mp i, .mp j => Nat.beq i j
  | .nilmp, .nilmp => true
  | _, _ => false
def eqL : List V → List V → Bool
  | [], [] => true
  | v :: r, w :: s => eqV v w && eqL r s
  | _, _ => false
end
mutual
def lfV : V → List Lf → List Lf
  | .bool b, r => .bool b :: r
  | .int _ n, r => .int n :: r
  | .str s, r => .str s :: r
  | .ints t _ l, r => .ints t l :: r
  | .bools t l, r => .bools t l :: r
  | .vals t _ l, r => .vals t l :: r
  | .owns _ o n, r => .int o :: .int n :: r
  | .elem _ x _, r => .int x :: r
  | .ro l, r => lfL l r
  | .agg l, r => lfL l r
  | .tup l, r => lfL l r
  | .fn _ a b, r => lfL a (lfL b r)
  | _, r => r
def lfL : List V → List Lf → List Lf
  | [], r => r
  | v :: l, r => lfV v (lfL l r)
end
mutual
def fillV : V → List Lf → Option (V × List Lf)
  | .bool _, .bool b :: r => some (.bool b, r)
  | .int k _, .int n :: r => some (.int k n, r)
  | .str _, .str s :: r => some (.str s, r)
  | .ints _ k _, .ints t l :: r => some (.ints t k l, r)
  | .bools _ _, .bools t l :: r => some (.bools t l, r)
  | .vals _ e _, .vals t l :: r => some (.vals t e l, r)
  | .owns i _ _, .int o :: .int n :: r => some (.owns i o.toNat n.toNat, r)
  | .elem i _ p, .int x :: r => some (.elem i x.toNat p, r)
  | .ro l, r => (fillL l r).map fun p => (.ro p.1, p.2)
  | .agg l, r => (fillL l r).map fun p => (.agg p.1, p.2)
  | .tup l, r => (fillL l r).map fun p => (.tup p.1, p.2)
  | .fn f a b, r => match fillL a r with
    | some p => (fillL b p.2).map fun q => (.fn f p.1 q.1, q.2)
    | none => none
  | .undef, r => some (.undef, r)
  | .own i, r => some (.own i, r)
  | .ptr i o, r => some (.ptr i o, r)
  | .nilp, r => some (.nilp, r)
  | .nilfn, r => some (.nilfn, r)
  | .nils, r => some (.nils, r)
  | .mp i, r => some (.mp i, r)
  | .nilmp, r => some (.nilmp, r)
  | _, _ => none
def fillL : List V → List Lf → Option (List V × List Lf)
  | [], r => some ([], r)
  | v :: l, r => match fillV v r with
    | some p => (fillL l p.2).map fun q => (p.1 :: q.1, q.2)
    | none => none
end
mutual
theorem fillV_ok : ∀ (v p : V) (r : List Lf), eqV v p = true → fillV p (lfV v r) = some (v, r)
  | .undef, p, r, h => by cases p <;> simp [eqV] at h; simp [fillV, lfV]
  | .bool _, p, r, h => by cases p <;> simp [eqV] at h; simp [fillV, lfV]
  | .int k n, p, r, h => by
    cases p <;> simp only [eqV, Bool.false_eq_true] at h
    obtain rfl := same_eq h
    simp [fillV, lfV]
  | .str _, p, r, h => by cases p <;> simp [eqV] at h; simp [fillV, lfV]
  | .ints _ k _, p, r, h => by
    cases p <;> simp only [eqV, Bool.false_eq_true] at h
    obtain rfl := same_eq h
    simp [fillV, lfV]
  | .bools _ _, p, r, h => by cases p <;> simp [eqV] at h; simp [fillV, lfV]
  | .vals _ e _, p, r, h => by
    cases p <;> simp only [eqV, Bool.false_eq_true] at h
    obtain rfl := beq_true.1 h
    simp [fillV, lfV]
  | .own i, p, r, h => by
    cases p <;> simp only [eqV, Bool.false_eq_true] at h
    obtain rfl := beq_true.1 h
    simp [fillV, lfV]
  | .owns i _ _, p, r, h => by
    cases p <;> simp only [eqV, Bool.false_eq_true] at h
    obtain rfl := beq_true.1 h
    simp [fillV, lfV]
  | .ptr i o, p, r, h => by
    cases p <;> simp only [eqV, Bool.false_eq_true, Bool.and_eq_true] at h
    obtain rfl := beq_true.1 h.1
    obtain rfl := beq_true.1 h.2
    simp [fillV, lfV]
  | .elem i x o, p, r, h => by
    cases p <;> simp only [eqV, Bool.false_eq_true, Bool.and_eq_true] at h
    obtain rfl := beq_true.1 h.1
    obtain rfl := beq_true.1 h.2
    simp [fillV, lfV]
  | .ro l, p, r, h => by
    cases p <;> simp only [eqV, Bool.false_eq_true] at h
    simp [fillV, lfV, fillL_ok l _ r h]
  | .nilp, p, r, h => by cases p <;> simp [eqV] at h; simp [fillV, lfV]
  | .agg l, p, r, h => by
    cases p <;> simp only [eqV, Bool.false_eq_true] at h
    simp [fillV, lfV, fillL_ok l _ r h]
  | .tup l, p, r, h => by
    cases p <;> simp only [eqV, Bool.false_eq_true] at h
    simp [fillV, lfV, fillL_ok l _ r h]
  | .fn f a b, p, r, h => by
    cases p <;> simp only [eqV, Bool.false_eq_true, Bool.and_eq_true] at h
    obtain ⟨⟨h1, h2⟩, h3⟩ := h
    obtain rfl := beq_true.1 h1
    simp [fillV, lfV, fillL_ok a _ _ h2, fillL_ok b _ r h3]
  | .nilfn, p, r, h => by cases p <;> simp [eqV] at h; simp [fillV, lfV]
  | .nils, p, r, h => by cases p <;> simp [eqV] at h; simp [fillV, lfV]
  | .mp i, p, r, h => by
    cases p <;> simp only [eqV, Bool.false_eq_true] at h
    obtain rfl := beq_true.1 h
    simp [fillV, lfV]
  | .nilmp, p, r, h => by cases p <;> simp [eqV] at h; simp [fillV, lfV]
theorem fillL_ok : ∀ (l p : List V) (r : List Lf), eqL l p = true → fillL p (lfL l r) = some (l, r)
  | [], [], r, _ => by simp [fillL, lfL]
  | [], _ :: _, _, h => by simp [eqL] at h
  | _ :: _, [], _, h => by simp [eqL] at h
  | v :: l, w :: p, r, h => by
    simp only [eqL, Bool.and_eq_true] at h
    simp [fillL, lfL, fillV_ok v w _ h.1, fillL_ok l p r h.2]
end
def eqO : Obj → Obj → Bool
  | .cells l, .cells m => eqL l m
  | .ints k _, .ints k' _ => IntKind.same k k'
  | .bools _, .bools _ => true
  | .vals e _, .vals e' _ => Nat.beq e e'
  | _, _ => false
def lfO : Obj → List Lf → List Lf
  | .cells l, r => lfL l r
  | .ints _ l, r => .ints .frz l :: r
  | .bools l, r => .bools .frz l :: r
  | .vals _ l, r => .vals .frz l :: r
  | _, r => r
def fillO : Obj → List Lf → Option (Obj × List Lf)
  | .cells l, r => (fillL l r).map fun p => (.cells p.1, p.2)
  | .ints k _, .ints _ l :: r => some (.ints k l, r)
  | .bools _, .bools _ l :: r => some (.bools l, r)
  | .vals e _, .vals _ l :: r => some (.vals e l, r)
  | _, _ => none
theorem fillO_ok (o p : Obj) (r : List Lf) (h : eqO o p = true) : fillO p (lfO o r) = some (o, r) := by
  cases o <;> cases p <;> simp only [eqO, Bool.false_eq_true] at h
  · rename_i l m
    simp [fillO, lfO, fillL_ok l m r h]
  · obtain rfl := same_eq h
    simp [fillO, lfO]
  · simp [fillO, lfO]
  · obtain rfl := beq_true.1 h
    simp [fillO, lfO]
def eqT : List (Nat × V) → List (Nat × V) → Bool
  | [], [] => true
  | a :: r, b :: s => Nat.beq a.1 b.1 && eqV a.2 b.2 && eqT r s
  | _, _ => false
def lfT : List (Nat × V) → List Lf → List Lf
  | [], r => r
  | a :: l, r => lfV a.2 (lfT l r)
def fillT : List (Nat × V) → List Lf → Option (List (Nat × V) × List Lf)
  | [], r => some ([], r)
  | a :: l, r => match fillV a.2 r with
    | some p => (fillT l p.2).map fun q => ((a.1, p.1) :: q.1, q.2)
    | none => none
theorem fillT_ok : ∀ (l p : List (Nat × V)) (r : List Lf), eqT l p = true → fillT p (lfT l r) = some (l, r)
  | [], [], r, _ => by simp [fillT, lfT]
  | [], _ :: _, _, h => by simp [eqT] at h
  | _ :: _, [], _, h => by simp [eqT] at h
  | (n, v) :: l, (m, w) :: p, r, h => by
    simp only [eqT, Bool.and_eq_true] at h
    obtain rfl := beq_true.1 h.1.1
    simp [fillT, lfT, fillV_ok v w _ h.1.2, fillT_ok l p r h.2]
def eqH : Heap → Heap → Bool
  | [], [] => true
  | a :: r, b :: s => Nat.beq a.1 b.1 && eqO a.2 b.2 && eqH r s
  | _, _ => false
def lfH : Heap → List Lf → List Lf
  | [], r => r
  | a :: l, r => lfO a.2 (lfH l r)
def fillH : Heap → List Lf → Option (Heap × List Lf)
  | [], r => some ([], r)
  | a :: l, r => match fillO a.2 r with
    | some p => (fillH l p.2).map fun q => ((a.1, p.1) :: q.1, q.2)
    | none => none
theorem fillH_ok : ∀ (l p : Heap) (r : List Lf), eqH l p = true → fillH p (lfH l r) = some (l, r)
  | [], [], r, _ => by simp [fillH, lfH]
  | [], _ :: _, _, h => by simp [eqH] at h
  | _ :: _, [], _, h => by simp [eqH] at h
  | (n, v) :: l, (m, w) :: p, r, h => by
    simp only [eqH, Bool.and_eq_true] at h
    obtain rfl := beq_true.1 h.1.1
    simp [fillH, lfH, fillO_ok v w _ h.1.2, fillH_ok l p r h.2]
def eqN : List Nat → List Nat → Bool
  | [], [] => true
  | a :: r, b :: s => Nat.beq a b && eqN r s
  | _, _ => false
theorem eqN_eq : ∀ {a b : List Nat}, eqN a b = true → a = b
  | [], [], _ => rfl
  | [], _ :: _, h => by simp [eqN] at h
  | _ :: _, [], h => by simp [eqN] at h
  | a :: r, b :: s, h => by
    simp only [eqN, Bool.and_eq_true] at h
    rw [beq_true.1 h.1, eqN_eq h.2]
def eqS (a b : St) : Bool := eqT a.t b.t && eqH a.h b.h && eqN a.fz b.fz && Nat.beq a.nx b.nx && Nat.beq a.lo b.lo
def lfS (a : St) : List Lf := lfT a.t (lfH a.h [])
def fillS (p : St) (r : List Lf) : Option St := match fillT p.t r with
  | some a => (fillH p.h a.2).map fun b => { t := a.1, h := b.1, fz := p.fz, nx := p.nx, lo := p.lo }
  | none => none
theorem fillS_ok {a p : St} (h : eqS a p = true) : fillS p (lfS a) = some a := by
  obtain ⟨t, hh, fz, nx, lo⟩ := a
  simp only [eqS, Bool.and_eq_true] at h
  obtain ⟨⟨⟨⟨h1, h2⟩, h3⟩, h4⟩, h5⟩ := h
  unfold fillS lfS
  simp [fillT_ok _ _ _ h1, fillH_ok _ _ _ h2, (eqN_eq h3).symm, (beq_true.1 h4).symm, (beq_true.1 h5).symm]
abbrev LOT := (R : Type) → Nat → FuncId → Nat → St → (Ex → St → Option R) → Option R
def loopId (c : Code) : Nat := (firstRegion c).getD 0
def headOf (E : Env) (f : FuncId) (r : Nat) : St → Option St := canon 4096 (E.live f r)
def execL {R : Type} (E : Env) (C : Calls) (f : FuncId) (LO : Nat → St → (Ex → St → Option R) → Option R) : Code → St → (Ex → St → Option R) → Option R
  | .skip, st, k => k .normal st
  | .region _ ops dr, st, k => bif dr then runD E C ops.toList (planOf E ops.toList) st [] fun st' => k .normal { st' with t := restrict (E.keep f) st'.t }
    else runOps E C ops.toList ops.toList st fun st' => k .normal { st' with t := restrict (E.keep f) st'.t }
  | .seq a b, st, k => execL E C f LO a st fun e st' => match e with
    | .normal => execL E C f LO b st' k
    | e => k e st'
  | .cond c a b, st, k => match evalO st.t c with
    | some (.bool x) => cond x (execL E C f LO a st k) (execL E C f LO b st k)
    | _ => none
  | .block id c, st, k => execL E C f LO c st fun e st' => match e with
    | .exit j => bif Nat.beq j id then k .normal st' else k (.exit j) st'
    | e => k e st'
  | .loop c, st, k => match headOf E f (loopId c) st with
    | some st' => LO (loopId c) st' k
    | none => none
  | .exit id, st, k => k (.exit id) st
  | .ret, st, k => k .ret st
  | _, _, _ => none
def bodyK {R : Type} (E : Env) (f : FuncId) (r : Nat) (g : St → Option R) (k : Ex → St → Option R) : Ex → St → Option R := fun e st' => match e with
  | .normal => (match headOf E f r st' with
    | some st'' => g st''
    | none => none)
  | e => k e st'
def loopM {R : Type} (E : Env) (C : Calls) (M : Nat) (f : FuncId) (c : Code) (m : Nat) (st : St) (k : Ex → St → Option R) : Option R :=
  exec E C f (M + 1) c st fun e st' => match e with
    | .normal => loopN (exec E C f (M + 1) c) (headOf E f (loopId c)) m st' k
    | e => k e st'
def loopAt (r : Nat) : Code → Option Code
  | .loop c => bif Nat.beq (loopId c) r then some c else loopAt r c
  | .seq a b => match loopAt r a with
    | some c => some c
    | none => loopAt r b
  | .cond _ a b => match loopAt r a with
    | some c => some c
    | none => loopAt r b
  | .block _ c => loopAt r c
  | _ => none
def loopIds : Code → List Nat
  | .loop c => loopId c :: loopIds c
  | .seq a b => loopIds a ++ loopIds b
  | .cond _ a b => loopIds a ++ loopIds b
  | .block _ c => loopIds c
  | _ => []
def LoopIn (c : Code) : Code → Prop
  | .loop d => c = d ∨ LoopIn c d
  | .seq a b => LoopIn c a ∨ LoopIn c b
  | .cond _ a b => LoopIn c a ∨ LoopIn c b
  | .block _ d => LoopIn c d
  | _ => False
theorem loopIn_id {c : Code} : ∀ {code : Code}, LoopIn c code → loopId c ∈ loopIds code := by
  intro code
  induction code with
  | loop d ih =>
    rintro (rfl | h)
    · simp [loopIds]
    · simp [loopIds, ih h]
  | seq a b iha ihb =>
    rintro (h | h)
    · simp [loopIds, iha h]
    · simp [loopIds, ihb h]
  | cond x a b iha ihb =>
    rintro (h | h)
    · simp [loopIds, iha h]
    · simp [loopIds, ihb h]
  | block id d ih => exact ih
  | _ => intro h; exact h.elim
theorem loopAt_none {r : Nat} : ∀ {code : Code}, r ∉ loopIds code → loopAt r code = none := by
  intro code
  induction code with
  | loop d ih =>
    intro h
    simp only [loopIds, List.mem_cons, not_or] at h
    simp [loopAt, beq_false.2 (Ne.symm h.1), ih h.2]
  | seq a b iha ihb =>
    intro h
    simp only [loopIds, List.mem_append, not_or] at h
    simp [loopAt, iha h.1, ihb h.2]
  | cond x a b iha ihb =>
    intro h
    simp only [loopIds, List.mem_append, not_or] at h
    simp [loopAt, iha h.1, ihb h.2]
  | block id d ih => exact ih
  | _ => intro _; rfl
theorem once_append {a b : List Nat} : once (a ++ b) = true → once a = true ∧ once b = true ∧ ∀ x ∈ a, x ∉ b := by
  induction a with
  | nil => intro h; exact ⟨rfl, h, by simp⟩
  | cons x a ih =>
    intro h
    simp only [List.cons_append, once, Bool.and_eq_true, Bool.not_eq_true'] at h
    obtain ⟨h1, h2, h3⟩ := ih h.2
    have hx : x ∉ a ++ b := fun hm => by rw [has_mem.2 hm] at h; cases h.1
    refine ⟨?_, h2, fun y hy => ?_⟩
    · simp only [once, Bool.and_eq_true, Bool.not_eq_true']
      refine ⟨?_, h1⟩
      cases hh : has x a with
      | false => rfl
      | true => exact absurd (List.mem_append.2 (.inl (has_mem.1 hh))) hx
    · rcases List.mem_cons.1 hy with rfl | hy
      · exact fun hm => hx (List.mem_append.2 (.inr hm))
      · exact h3 y hy
theorem loopAt_in {c : Code} : ∀ {code : Code}, once (loopIds code) = true → LoopIn c code → loopAt (loopId c) code = some c := by
  intro code
  induction code with
  | loop d ih =>
    intro ho h
    simp only [loopIds, once, Bool.and_eq_true, Bool.not_eq_true'] at ho
    rcases h with rfl | h
    · simp [loopAt]
    · have hne : loopId d ≠ loopId c := fun e => by
        have := has_mem.2 (loopIn_id h)
        rw [← e, ho.1] at this; cases this
      simp [loopAt, beq_false.2 hne, ih ho.2 h]
  | seq a b iha ihb =>
    intro ho h
    obtain ⟨h1, h2, h3⟩ := once_append ho
    rcases h with h | h
    · simp [loopAt, iha h1 h]
    · rw [show loopAt (loopId c) (a.seq b) = (match loopAt (loopId c) a with | some c => some c | none => loopAt (loopId c) b) from rfl, loopAt_none fun hm => h3 _ hm (loopIn_id h)]
      exact ihb h2 h
  | cond x a b iha ihb =>
    intro ho h
    obtain ⟨h1, h2, h3⟩ := once_append ho
    rcases h with h | h
    · simp [loopAt, iha h1 h]
    · rw [show loopAt (loopId c) (Code.cond x a b) = (match loopAt (loopId c) a with | some c => some c | none => loopAt (loopId c) b) from rfl, loopAt_none fun hm => h3 _ hm (loopIn_id h)]
      exact ihb h2 h
  | block id d ih => exact ih
  | _ => intro _ h; exact h.elim
def loopOf (E : Env) (f : FuncId) (r : Nat) : Option Code := match E.fn f with
  | some fn => match fn.body with
    | some b => loopAt r b
    | none => none
  | none => none
theorem exec_eq {R : Type} {E : Env} {C : Calls} {M : Nat} {f : FuncId} {LO : Nat → St → (Ex → St → Option R) → Option R} : ∀ (code : Code), (∀ c, LoopIn c code → ∀ st k, LO (loopId c) st k = loopM E C M f c M st k) →
    ∀ (st : St) (k : Ex → St → Option R), exec E C f (M + 1) code st k = execL E C f LO code st k := by
  intro code
  induction code with
  | seq a b iha ihb =>
    intro hL st k
    unfold exec execL
    rw [iha fun c h => hL c (.inl h)]
    congr 1
    funext e st'
    cases e with
    | normal => exact ihb (fun c h => hL c (.inr h)) st' k
    | _ => rfl
  | cond c a b iha ihb =>
    intro hL st k
    unfold exec execL
    simp only [iha fun c h => hL c (.inl h), ihb fun c h => hL c (.inr h)]
    cases evalO st.t c with
    | none => rfl
    | some v => cases v <;> rfl
  | block id c ih =>
    intro hL st k
    unfold exec execL
    rw [ih hL]
    congr 1
  | loop c ih =>
    intro hL st k
    show loopN (exec E C f (M + 1) c) (headOf E f (loopId c)) (M + 1) st k = _
    unfold loopN execL
    cases headOf E f (loopId c) st with
    | none => rfl
    | some st' => exact (hL c (.inl rfl) st' k).symm
  | _ => intros; rfl
def inlCoreL {R : Type} (E : Env) (C : Calls) (f : FuncId) (LO : Nat → St → (Ex → St → Option R) → Option R) (st : St) (k : List V → St → Option R) : Option R :=
  match E.fn f with
  | some fn => match fn.body with
    | some c => execL E C f LO c st fun e st' => match e with
          | .exit _ => none
          | _ => match (resultOf E.ty fn st').bind fun vs => endCall vs st' with
            | some p => k p.1 p.2
            | none => none
    | none => none
  | none => none
def inlBodyS {R : Type} (E : Env) (core : FuncId → St → (List V → St → Option R) → Option R) (f : FuncId) (args : List V) (st : St) (k : List V → St → Option R) : Option R :=
  match E.fn f with
  | some fn => bif Nat.beq args.length (fn.params.size + fn.nfree) then core f { dropDead args st with t := argT 0 args, lo := st.nx } fun ws st' => k ws { st' with t := st.t, lo := st.lo } else none
  | none => none
theorem inlBody_core {R : Type} {E : Env} {N : Nat} {C : Calls} {f : FuncId} {as : List V} {st : St} {k : List V → St → Option R} : inlBody E N C f as st k = inlBodyS E (inlCore E N C) f as st k := by
  unfold inlBody inlBodyS inlCore
  cases E.fn f with
  | none => rfl
  | some fn =>
    simp only
    cases fn.body with
    | none => cases Nat.beq as.length (fn.params.size + fn.nfree) <;> rfl
    | some c => rfl
def bodyS {R : Type} (E : Env) (core : FuncId → St → (List V → St → Option R) → Option R) (f : FuncId) (args : List V) (st : St) (k : List V → St → Option R) : Option R :=
  bif E.sub f then subBodyS E core f args st k else inlBodyS E core f args st k
theorem bodyS_congr {R : Type} {E : Env} {c c' : FuncId → St → (List V → St → Option R) → Option R} {f : FuncId} {as : List V} {st : St} {k : List V → St → Option R} (h : ∀ st k, c f st k = c' f st k) : bodyS E c f as st k = bodyS E c' f as st k := by
  unfold bodyS subBodyS inlBodyS
  simp only [h]
structure Sc where
  d : Nat
  f : FuncId
  p : St
  s : (R : Type) → List Lf → (List V → St → Option R) → Option R
def scFind (d : Nat) (f : FuncId) (st : St) : List Sc → Option Sc
  | [] => none
  | s :: l => bif Nat.beq d s.d && Nat.beq f s.f && eqS st s.p then some s else scFind d f st l
def callsV (E : Env) (pure : Tab) (sp : Sp) (LO : LOT) (cs : List Sc) : Nat → Nat → Calls
  | 0, _ => { pure, inl := fun _ _ _ _ _ => none }
  | d + 1, r => bif Nat.ble r d then callsV E pure sp LO cs d r else { pure, inl := fun R f as st k => match sp f as st with
      | some (some p) => cond p.1 (k p.2.1 p.2.2) none
      | some none => none
      | none => bodyS E (fun f st k => match scFind (nxt E f d) f st cs with
        | some s => s.s R (lfS st) k
        | none => inlCoreL E (callsV E pure sp LO cs d (nxt E f d)) f (LO R (nxt E f d) f) st k) f as st k }
abbrev callsL (E : Env) (pure : Tab) (sp : Sp) (LO : LOT) (cs : List Sc) (d : Nat) : Calls := callsV E pure sp LO cs d d
theorem callsV_le {E : Env} {pure : Tab} {sp : Sp} {LO : LOT} {cs : List Sc} : ∀ {d r : Nat}, r ≤ d → callsV E pure sp LO cs d r = callsV E pure sp LO cs r r
  | 0, r, h => by obtain rfl : r = 0 := by omega
                  rfl
  | d + 1, r, h => by
    by_cases e : r = d + 1
    · subst e; rfl
    · have h' : r ≤ d := by omega
      unfold callsV
      rw [Nat.ble_eq_true_of_le h']
      simp only [cond_true]
      exact (callsV_le h').trans (by cases r <;> rfl)
theorem callsL_succ {E : Env} {pure : Tab} {sp : Sp} {LO : LOT} {cs : List Sc} (d : Nat) : callsL E pure sp LO cs (d + 1) = { pure, inl := fun R f as st k => match sp f as st with
      | some (some p) => cond p.1 (k p.2.1 p.2.2) none
      | some none => none
      | none => bodyS E (fun f st k => match scFind (nxt E f d) f st cs with
        | some s => s.s R (lfS st) k
        | none => inlCoreL E (callsL E pure sp LO cs (nxt E f d)) f (LO R (nxt E f d) f) st k) f as st k } := by
  show (bif Nat.ble (d + 1) d then callsV E pure sp LO cs d (d + 1) else { pure, inl := fun R f as st k => match sp f as st with
      | some (some p) => cond p.1 (k p.2.1 p.2.2) none
      | some none => none
      | none => bodyS E (fun f st k => match scFind (nxt E f d) f st cs with
        | some s => s.s R (lfS st) k
        | none => inlCoreL E (callsV E pure sp LO cs d (nxt E f d)) f (LO R (nxt E f d) f) st k) f as st k }) = _
  have : Nat.ble (d + 1) d = false := by
    cases h : Nat.ble (d + 1) d with
    | false => rfl
    | true => exact absurd (Nat.le_of_ble_eq_true h) (by omega)
  rw [this]
  simp only [cond_false, callsV_le (nxt_le E _ d)]
def LOr (E : Env) (M : Nat) (pure : Tab) (sp : Sp) : LOT := fun _ d f r st k => match loopOf E f r with
  | some c => loopM E (callsT E (M + 1) pure sp d) M f c M st k
  | none => none
def LoopsOnce (E : Env) : Prop := ∀ f fn c, E.fn f = some fn → fn.body = some c → once (loopIds c) = true
theorem LOr_in {E : Env} (hO : LoopsOnce E) {M : Nat} {pure : Tab} {sp : Sp} {R : Type} {d : Nat} {f : FuncId} {fn : Func} {b : Code} (hf : E.fn f = some fn) (hb : fn.body = some b) : ∀ c, LoopIn c b → ∀ st (k : Ex → St → Option R), LOr E M pure sp R d f (loopId c) st k = loopM E (callsT E (M + 1) pure sp d) M f c M st k := by
  intro c hc st k
  unfold LOr loopOf
  rw [hf]
  simp only [hb]
  rw [loopAt_in (hO f fn b hf hb) hc]
def ScOk (E : Env) (M : Nat) (pure : Tab) (sp : Sp) (s : Sc) : Prop := ∀ (R : Type) (l : List Lf) (st : St) (k : List V → St → Option R), fillS s.p l = some st → inlCore E (M + 1) (callsT E (M + 1) pure sp s.d) s.f st k = s.s R l k
theorem inlCoreL_eq {E : Env} (hO : LoopsOnce E) {M : Nat} {pure : Tab} {sp : Sp} {R : Type} {d : Nat} {f : FuncId} {st : St} {k : List V → St → Option R} :
    inlCoreL E (callsT E (M + 1) pure sp d) f (LOr E M pure sp R d f) st k = inlCore E (M + 1) (callsT E (M + 1) pure sp d) f st k := by
  unfold inlCoreL inlCore
  cases hf : E.fn f with
  | none => rfl
  | some fn =>
    simp only
    cases hb : fn.body with
    | none => rfl
    | some c =>
      simp only
      rw [exec_eq c (LOr_in hO hf hb)]
      rfl
theorem callsL_eq {E : Env} (hO : LoopsOnce E) {M : Nat} {pure : Tab} {sp : Sp} {cs : List Sc} (hcs : ∀ s ∈ cs, ScOk E M pure sp s) : ∀ d, callsL E pure sp (LOr E M pure sp) cs d = callsT E (M + 1) pure sp d := by
  intro d
  induction d using Nat.strongRecOn with
  | _ d ih =>
  cases d with
  | zero => rfl
  | succ d =>
    rw [callsL_succ, callsT_succ]
    congr 1
    funext R f as st k
    have ih := ih (nxt E f d) (Nat.lt_succ_of_le (nxt_le E f d))
    cases sp f as st with
    | some p => cases p <;> rfl
    | none =>
      simp only
      rw [inlBody_core]
      show bodyS E _ f as st k = bodyS E (inlCore E (M + 1) (callsT E (M + 1) pure sp (nxt E f d))) f as st k
      refine bodyS_congr fun st k => ?_
      simp only [ih]
      generalize nxt E f d = d
      have key : ∀ (l : List Sc), (∀ s ∈ l, ScOk E M pure sp s) → (match scFind d f st l with | some s => s.s R (lfS st) k | none => inlCoreL E (callsT E (M + 1) pure sp d) f (LOr E M pure sp R d f) st k) = inlCore E (M + 1) (callsT E (M + 1) pure sp d) f st k := by
        intro l
        induction l with
        | nil => intro _; exact inlCoreL_eq hO
        | cons s l ihl =>
          intro h
          simp only [scFind]
          cases hc : (Nat.beq d s.d && Nat.beq f s.f && eqS st s.p) with
          | false => simp only [cond_false]; exact ihl fun s hs => h s (by simp [hs])
          | true =>
            simp only [cond_true]
            simp only [Bool.and_eq_true] at hc
            obtain ⟨⟨h1, h2⟩, h4⟩ := hc
            obtain rfl := beq_true.1 h1
            obtain rfl := beq_true.1 h2
            exact (h s (by simp) R _ st k (fillS_ok h4)).symm
      exact key cs hcs
structure Sm where
  d : Nat
  f : FuncId
  r : Nat
  p : St
  s : (R : Type) → List Lf → (Ex → St → Option R) → Option R
def smFind (d : Nat) (f : FuncId) (r : Nat) (st : St) : List Sm → Option Sm
  | [] => none
  | s :: l => bif Nat.beq d s.d && Nat.beq f s.f && Nat.beq r s.r && eqS st s.p then some s else smFind d f r st l
def LOs (l : List Sm) (LO : LOT) : LOT := fun R d f r st k => match smFind d f r st l with
  | some s => s.s R (lfS st) k
  | none => LO R d f r st k
def SmOk (LO : LOT) (s : Sm) : Prop := ∀ (R : Type) (l : List Lf) (st : St) (k : Ex → St → Option R), fillS s.p l = some st → LO R s.d s.f s.r st k = s.s R l k
theorem LOs_eq {l : List Sm} {LO : LOT} (h : ∀ s ∈ l, SmOk LO s) : LOs l LO = LO := by
  funext R d f r st k
  unfold LOs
  have key : ∀ (l : List Sm), (∀ s ∈ l, SmOk LO s) → (match smFind d f r st l with | some s => s.s R (lfS st) k | none => LO R d f r st k) = LO R d f r st k := by
    intro l
    induction l with
    | nil => intro _; rfl
    | cons s l ih =>
      intro h
      simp only [smFind]
      cases hc : (Nat.beq d s.d && Nat.beq f s.f && Nat.beq r s.r && eqS st s.p) with
      | false => simp only [cond_false]; exact ih fun s hs => h s (by simp [hs])
      | true =>
        simp only [cond_true]
        simp only [Bool.and_eq_true] at hc
        obtain ⟨⟨⟨h1, h2⟩, h3⟩, h4⟩ := hc
        obtain rfl := beq_true.1 h1
        obtain rfl := beq_true.1 h2
        obtain rfl := beq_true.1 h3
        exact (h s (by simp) R _ st k (fillS_ok h4)).symm
  exact key l h
def rounds {R α : Type} (B : (α → Option R) → α → Option R) : Nat → α → Option R
  | 0, a => B (fun _ => none) a
  | m + 1, a => B (rounds B m) a
theorem loop_rounds {E : Env} (hO : LoopsOnce E) {cs : List Sc} {M : Nat} {pure : Tab} {sp : Sp} {R α : Type} {d : Nat} {f : FuncId} {fn : Func} {b c : Code} {k : Ex → St → Option R} (hf : E.fn f = some fn) (hb : fn.body = some b) (hin : LoopIn c b) (hcs : ∀ s ∈ cs, ScOk E M pure sp s)
    {S : α → St} {B : (α → Option R) → α → Option R} (hB : ∀ (g : St → Option R) (a : α), execL E (callsL E pure sp (LOr E M pure sp) cs d) f (LOr E M pure sp R d f) c (S a) (bodyK E f (loopId c) g k) = B (fun a => g (S a)) a) :
    ∀ (m : Nat) (a : α), loopM E (callsT E (M + 1) pure sp d) M f c m (S a) k = rounds B m a := by
  have hsub : ∀ c', LoopIn c' c → LoopIn c' b := by
    have : ∀ (b : Code), LoopIn c b → ∀ c', LoopIn c' c → LoopIn c' b := by
      intro b
      induction b with
      | loop e ih =>
        rintro (rfl | h) c' h'
        · exact .inr h'
        · exact .inr (ih h c' h')
      | seq x y ihx ihy =>
        rintro (h | h) c' h'
        · exact .inl (ihx h c' h')
        · exact .inr (ihy h c' h')
      | cond z x y ihx ihy =>
        rintro (h | h) c' h'
        · exact .inl (ihx h c' h')
        · exact .inr (ihy h c' h')
      | block id e ih => exact ih
      | _ => intro h; exact h.elim
    exact this b hin
  have step : ∀ (g : St → Option R) (a : α), exec E (callsT E (M + 1) pure sp d) f (M + 1) c (S a) (bodyK E f (loopId c) g k) = B (fun a => g (S a)) a := by
    intro g a
    rw [exec_eq c (fun c' h => LOr_in hO hf hb c' (hsub c' h)), ← callsL_eq hO hcs]
    exact hB g a
  intro m
  induction m with
  | zero =>
    intro a
    refine Eq.trans ?_ (step (fun _ => none) a)
    unfold loopM
    congr 1
    funext e st'
    cases e with
    | normal => simp only [loopN, bodyK]; cases headOf E f (loopId c) st' <;> rfl
    | _ => rfl
  | succ m ih =>
    intro a
    refine Eq.trans ?_ ((step (fun st => loopM E (callsT E (M + 1) pure sp d) M f c m st k) a).trans ?_)
    · show exec _ _ _ _ _ _ _ = _
      congr 1
    · show B _ a = B (rounds B m) a
      congr 1
      funext a'
      exact ih a'
end Go.Vm
end
section
namespace Go.Vm
open Go.RowKit
def pureBodyK {R : Type} (E : Env) (N : Nat) (C : Calls) (f : FuncId) (args : List V) (k : List V → Option R) : Option R :=
  match E.fn f with
  | some fn => match fn.body with
    | some c => bif Nat.beq args.length (fn.params.size + fn.nfree) then
        exec E C f N c { t := argT 0 args, h := [], fz := [], nx := 0, lo := 0 } fun e st => match e with
          | .exit _ => none
          | _ => match resultOf E.ty fn st with
            | some vs => bif once (ownIds (vs.flatMap V.flat)) then
                match expRes st.h st.fz vs with
                | some r => k r
                | none => none
              else none
            | none => none
      else none
    | none => none
  | none => none
def pureBodyLK {R : Type} (E : Env) (C : Calls) (f : FuncId) (LO : Nat → St → (Ex → St → Option R) → Option R) (args : List V) (k : List V → Option R) : Option R :=
  match E.fn f with
  | some fn => match fn.body with
    | some c => bif Nat.beq args.length (fn.params.size + fn.nfree) then
        execL E C f LO c { t := argT 0 args, h := [], fz := [], nx := 0, lo := 0 } fun e st => match e with
          | .exit _ => none
          | _ => match resultOf E.ty fn st with
            | some vs => bif once (ownIds (vs.flatMap V.flat)) then
                match expRes st.h st.fz vs with
                | some r => k r
                | none => none
              else none
            | none => none
      else none
    | none => none
  | none => none
section
variable {P : Program} {E : Env}
theorem pureBodyLK_eq (hO : LoopsOnce E) {cs : List Sc} {R : Type} {M : Nat} {pure : Tab} {sp : Sp} {d : Nat} {f : FuncId} {as : List V} {k : List V → Option R} (hcs : ∀ s ∈ cs, ScOk E M pure sp s) : pureBodyLK E (callsL E pure sp (LOr E M pure sp) cs d) f (LOr E M pure sp R d f) as k = pureBodyK E (M + 1) (callsT E (M + 1) pure sp d) f as k := by
  rw [callsL_eq hO hcs]
  unfold pureBodyLK pureBodyK
  cases hf : E.fn f with
  | none => rfl
  | some fn =>
    simp only
    cases hb : fn.body with
    | none => rfl
    | some c =>
      simp only
      rw [exec_eq c (LOr_in hO hf hb)]
theorem pureBodyK_det {C : Calls} (hD : InlDet C) {N : Nat} {R : Type} {f : FuncId} {as : List V} {k : List V → Option R} {r0 : R} (h : pureBodyK E N C f as k = some r0) :
    ∃ r, k r = some r0 ∧ (∀ (R' : Type) (k' : List V → Option R'), pureBodyK E N C f as k' = k' r) ∧ pureBody E N C f as = some r ∧ ∃ fn, E.fn f = some fn := by
  unfold pureBodyK at h
  split at h
  case h_2 => simp at h
  rename_i fn hfn
  split at h
  case h_2 => simp at h
  rename_i code hcode
  obtain ⟨hlen, h⟩ := cond_some h
  obtain ⟨e, st', h1, h2⟩ := exec_det hD code _ _ h
  have fin : ∀ e, e = Ex.normal ∨ e = Ex.ret → (match resultOf E.ty fn st' with
            | some vs => bif once (ownIds (vs.flatMap V.flat)) then
                match expRes st'.h st'.fz vs with
                | some r => k r
                | none => none
              else none
            | none => none) = some r0 → (∀ (R' : Type) (k' : Ex → St → Option R'), exec E C f N code { t := argT 0 as, h := [], fz := [], nx := 0, lo := 0 } k' = k' e st') →
      ∃ r, k r = some r0 ∧ (∀ (R' : Type) (k' : List V → Option R'), pureBodyK E N C f as k' = k' r) ∧ pureBody E N C f as = some r ∧ ∃ fn, E.fn f = some fn := by
    intro e he h1 h2
    split at h1
    case h_2 => simp at h1
    rename_i vs hvs
    obtain ⟨ho, h1⟩ := cond_some h1
    split at h1
    case h_2 => simp at h1
    rename_i r hr
    refine ⟨r, h1, fun R' k' => ?_, ?_, fn, hfn⟩
    · unfold pureBodyK
      simp only [hfn, hcode, hlen, cond_true]
      refine (h2 R' _).trans ?_
      rcases he with rfl | rfl <;> simp only [hvs, ho, cond_true, hr]
    · unfold pureBody
      simp only [hfn, hcode, hlen, cond_true]
      refine (h2 _ _).trans ?_
      rcases he with rfl | rfl <;> simp only [hvs, ho, cond_true, hr]
  cases e with
  | exit j => simp at h1
  | normal => exact fin _ (.inl rfl) h1 h2
  | ret => exact fin _ (.inr rfl) h1 h2
abbrev Fk := (R : Type) → List V → (List V → Option R) → Option R
def Good (P : Program) (E : Env) (f : FuncId) (w : Fk) : Prop := ∀ (R : Type) (as : List V) (k : List V → Option R) (r0 : R), w R as k = some r0 →
  ∃ r, k r = some r0 ∧ PureSpec P E f as r ∧ (∀ (R' : Type) (k' : List V → Option R'), w R' as k' = k' r) ∧ ∃ fn, E.fn f = some fn
def tabOf : List (Nat × Fk) → Tab
  | [] => fun _ _ _ _ => none
  | p :: l => fun R f as k => bif Nat.beq f p.1 then p.2 R as k else tabOf l R f as k
theorem tab_ok : ∀ {l : List (Nat × Fk)}, (∀ p ∈ l, Good P E p.1 p.2) → TabOk P E (tabOf l)
  | [], _ => ⟨fun _ _ _ _ _ h => by simp [tabOf] at h, fun _ _ _ _ _ h => by simp [tabOf] at h⟩
  | p :: l, hl => by
    have ih := tab_ok (l := l) fun q hq => hl q (by simp [hq])
    refine ⟨fun R f as k r0 h => ?_, fun R f as k r h => ?_⟩
    · unfold tabOf at h
      cases hb : Nat.beq f p.1 with
      | true =>
        rw [hb] at h
        obtain rfl := beq_true.1 hb
        obtain ⟨r, h1, h2, h3, _⟩ := hl p (by simp) R as k r0 h
        exact ⟨r, h1, h2, fun R' k' => by unfold tabOf; rw [hb]; exact h3 R' k'⟩
      | false =>
        rw [hb] at h
        obtain ⟨r, h1, h2, h3⟩ := ih.spec R f as k r0 h
        exact ⟨r, h1, h2, fun R' k' => by unfold tabOf; rw [hb]; exact h3 R' k'⟩
    · unfold tabOf at h
      cases hb : Nat.beq f p.1 with
      | true =>
        rw [hb] at h
        obtain rfl := beq_true.1 hb
        exact (hl p (by simp) R as k r h).choose_spec.2.2.2
      | false =>
        rw [hb] at h
        exact ih.fn R f as k r h
structure Sys (P : Program) (E : Env) (sp : Sp) : Prop where
  ty : TyOk P E.ty
  fns : FnsOk P E
  regs : AllRegions P E
  once : LoopsOnce E
  sp : SpOk P E sp
theorem good_of {sp : Sp} (S : Sys P E sp) {M : Nat} {d : Nat} {f : FuncId} {l : List (Nat × Fk)} (hl : ∀ p ∈ l, Good P E p.1 p.2) {w : Fk} {cs : List Sc} (hcs : ∀ s ∈ cs, ScOk E M (tabOf l) sp s)
    (h : ∀ as, (∀ R k, w R as k = none) ∨ ∀ R k, pureBodyLK E (callsL E (tabOf l) sp (LOr E M (tabOf l) sp) cs d) f (LOr E M (tabOf l) sp R d f) as k = w R as k) : Good P E f w := by
  intro R as k r0 hr
  obtain ⟨hC, hD⟩ := callsT_ok S.ty S.fns S.regs (N := M + 1) (tab_ok hl) S.sp d
  rcases h as with h | h
  · rw [h] at hr; simp at hr
  · rw [← h, pureBodyLK_eq S.once hcs] at hr
    obtain ⟨r, h1, h2, h3, h4⟩ := pureBodyK_det hD hr
    exact ⟨r, h1, pure_sound S.ty S.fns S.regs (canon_ok) hC hD h3, fun R' k' => by rw [← h, pureBodyLK_eq S.once hcs]; exact h2 R' k', h4⟩
end
theorem sm_rounds {E : Env} (hO : LoopsOnce E) {cs : List Sc} {M : Nat} {pure : Tab} {sp : Sp} {R α : Type} {d : Nat} {f : FuncId} {r : Nat} {c : Code} {k : Ex → St → Option R} (hc : loopOf E f r = some c) (hr : loopId c = r) (hcs : ∀ s ∈ cs, ScOk E M pure sp s)
    {S : α → St} {B : (α → Option R) → α → Option R} (hB : ∀ (g : St → Option R) (a : α), execL E (callsL E pure sp (LOr E M pure sp) cs d) f (LOr E M pure sp R d f) c (S a) (bodyK E f r g k) = B (fun a => g (S a)) a) (a : α) :
    LOr E M pure sp R d f r (S a) k = rounds B M a := by
  subst hr
  unfold LOr
  rw [hc]
  unfold loopOf at hc
  split at hc
  · rename_i fn hf
    split at hc
    · rename_i b hb
      have hin : LoopIn c b := by
        have : ∀ b : Code, loopAt (loopId c) b = some c → LoopIn c b := by
          intro b
          induction b with
          | loop e ih =>
            intro h
            unfold loopAt at h
            cases hb : Nat.beq (loopId e) (loopId c) with
            | true => rw [hb] at h; simp at h; exact .inl h.symm
            | false => rw [hb] at h; exact .inr (ih h)
          | seq x y ihx ihy =>
            intro h
            unfold loopAt at h
            split at h
            · rename_i c' hx; simp at h; subst h; exact .inl (ihx hx)
            · exact .inr (ihy h)
          | cond z x y ihx ihy =>
            intro h
            unfold loopAt at h
            split at h
            · rename_i c' hx; simp at h; subst h; exact .inl (ihx hx)
            · exact .inr (ihy h)
          | block id e ih => exact ih
          | _ => intro h; simp [loopAt] at h
        exact this b hc
      exact loop_rounds hO hf hb hin hcs hB M a
    · simp at hc
  · simp at hc
end Go.Vm
end
section
namespace Go.Vm
def zeroB : Leaf → Value → Bool
  | .bool, .bool b => !b
  | .int k, .int k' n => IntKind.same k k' && n == 0
  | .str, .string s => s.data.isEmpty
  | .sl _, .slice none 0 0 => true
  | .fn, .nilFunc => true
  | .ptr, .pointer none => true
  | .mp, .map none => true
  | _, _ => false
theorem zeroB_ok {l : Leaf} {v : Value} (h : zeroB l v = true) : v = zeroVal l := by
  unfold zeroB at h
  split at h
  · simp at h; subst h; rfl
  · simp only [Bool.and_eq_true, beq_iff_eq] at h
    obtain ⟨h1, rfl⟩ := h
    obtain rfl := same_eq h1
    rfl
  · rename_i s
    obtain ⟨d⟩ := s
    simp at h
    subst h; rfl
  · rfl
  · rfl
  · rfl
  · rfl
  · cases h
def zerosB : List Leaf → List Value → Bool
  | [], [] => true
  | l :: r, v :: s => zeroB l v && zerosB r s
  | _, _ => false
theorem zerosB_ok : ∀ {l : List Leaf} {v : List Value}, zerosB l v = true → v = l.map zeroVal
  | [], [], _ => rfl
  | [], _ :: _, h => by simp [zerosB] at h
  | _ :: _, [], h => by simp [zerosB] at h
  | l :: r, v :: s, h => by
    simp only [zerosB, Bool.and_eq_true] at h
    rw [zeroB_ok h.1, zerosB_ok h.2]; rfl
def leafB (d : TypeDesc) (i : TyI) : Bool := match i.leaves with
  | [.bool] => (match d with | .bool => true | _ => false)
  | [.int k] => (match d with | .int k' => IntKind.same k k' | _ => false)
  | [.str] => (match d with | .string => true | _ => false)
  | [.sl e] => (match d with | .slice e' => Nat.beq e e' | _ => false)
  | [.mp] => (match i.fields with | [(k, e)] => (match d with | .map k' e' => Nat.beq k k' && Nat.beq e e' | _ => false) | _ => true)
  | [_] => true
  | _ => false
def plainLeafB (P : Program) (t : TypeId) (l : Leaf) : Bool := match l, P.underlying t with
  | .int k, some (.int k') => IntKind.same k k'
  | .bool, some .bool => true
  | _, _ => false
theorem plainLeafB_ok {P : Program} {t : TypeId} {l : Leaf} (h : plainLeafB P t l = true) : PlainLeaf P t l := by
  unfold plainLeafB at h
  split at h
  · rename_i hu
    obtain rfl := same_eq h
    exact hu
  · rename_i hu; exact hu
  · cases h
def plainFs (P : Program) : Nat → List Field → List Leaf → Bool
  | _, [], [] => true
  | n, f :: fs, l :: ls => (f.name != "_") && Nat.beq f.offset n && plainLeafB P f.type l && plainFs P (n + 1) fs ls
  | _, _, _ => false
theorem plainFs_ok {P : Program} : ∀ {fs : List Field} {ls : List Leaf} {n : Nat}, plainFs P n fs ls = true → fs.length = ls.length ∧ ∀ (j : Nat) (f : Field) (l : Leaf), fs[j]? = some f → ls[j]? = some l → f.name ≠ "_" ∧ f.offset = n + j ∧ PlainLeaf P f.type l
  | [], [], _, _ => ⟨rfl, fun j f l h => by simp at h⟩
  | [], _ :: _, _, h => by simp [plainFs] at h
  | _ :: _, [], _, h => by simp [plainFs] at h
  | f :: fs, l :: ls, n, h => by
    simp only [plainFs, Bool.and_eq_true, bne_iff_ne] at h
    obtain ⟨⟨⟨h1, h2⟩, h3⟩, h4⟩ := h
    obtain ⟨q1, q2⟩ := plainFs_ok h4
    refine ⟨by simp [q1], fun j f' l' hf hl => ?_⟩
    cases j with
    | zero => simp at hf hl; subst hf; subst hl; exact ⟨h1, beq_true.1 h2, plainLeafB_ok h3⟩
    | succ j =>
      simp at hf hl
      obtain ⟨a, b, c⟩ := q2 j f' l' hf hl
      exact ⟨a, by omega, c⟩
def sameLeaf : Leaf → Leaf → Bool
  | .bool, .bool => true
  | .int k, .int k' => IntKind.same k k'
  | _, _ => false
theorem sameLeaf_ok {a b : Leaf} (h : sameLeaf a b = true) : a = b := by
  cases a <;> cases b <;> simp [sameLeaf] at h
  · rfl
  · rw [same_eq h]
def plainB (P : Program) (t : TypeId) (i : TyI) : Bool :=
  bif i.agg then
    notB (P.eqGuardType P.depth t) && (match P.underlying t with
      | some (.struct fs) => (match i.fields with | [] => false | _ => true) && notB (P.stoodInHeld t) && plainFs P 0 fs.toList i.leaves
      | some (.array n e) => (match i.fields with | [] => true | _ => false) && Nat.beq n i.leaves.length && (match P.info? e with | some f => Nat.beq f.size 1 | none => false) &&
          (match i.leaves with | l :: _ => i.leaves.all (sameLeaf · l) && plainLeafB P e l | [] => false)
      | _ => false)
  else match i.leaves with
    | [l] => plainLeafB P t l
    | _ => false
theorem plainB_ok {P : Program} {t : TypeId} {i : TyI} (h : plainB P t i = true) : PlainTy P t i := by
  unfold plainB at h
  cases ha : i.agg with
  | false =>
    rw [ha] at h
    simp only [cond_false] at h
    split at h
    · rename_i l hl
      exact .inr ⟨ha, l, hl, plainLeafB_ok h⟩
    · cases h
  | true =>
    rw [ha] at h
    simp only [cond_true, Bool.and_eq_true] at h
    obtain ⟨h1, h2⟩ := h
    have h1 : P.eqGuardType P.depth t = false := by unfold notB at h1; simpa using h1
    refine .inl ⟨ha, h1, ?_⟩
    split at h2
    · rename_i fs hu
      simp only [Bool.and_eq_true] at h2
      obtain ⟨⟨h3, h4⟩, h5⟩ := h2
      obtain ⟨q1, q2⟩ := plainFs_ok h5
      have hfs : P.fieldsOf t = fs := by unfold Program.fieldsOf; rw [hu]
      refine .inl ⟨fun e => (by rw [e] at h3; cases h3), by rw [hfs]; exact hu, by unfold notB at h4; simpa using h4, by rw [hfs]; simpa using q1, fun j f l hf hl => ?_⟩
      rw [hfs] at hf
      have := q2 j f l (by simpa using hf) hl
      exact ⟨this.1, by omega, this.2.2⟩
    · rename_i n e hu
      simp only [Bool.and_eq_true] at h2
      obtain ⟨⟨⟨h3, h4⟩, h5⟩, h6⟩ := h2
      split at h5
      case h_2 => cases h5
      rename_i inf hinf
      split at h6
      case h_2 => cases h6
      rename_i l r hl
      simp only [Bool.and_eq_true] at h6
      refine .inr ⟨e, l, inf, ?_, by rw [beq_true.1 h4] at hu; exact hu, hinf, beq_true.1 h5, fun x hx => sameLeaf_ok (List.all_eq_true.1 h6.1 x hx), plainLeafB_ok h6.2⟩
      cases hf : i.fields with
      | nil => rfl
      | cons a b => rw [hf] at h3; cases h3
    · cases h2
def fieldsB (P : Program) (ty : Tys) : List Field → List (Nat × TypeId) → Bool
  | [], [] => true
  | f :: fs, p :: ps => Nat.beq f.offset p.1 && Nat.beq f.type p.2 && (match P.info? f.type, tyAt ty p.2 with
      | some inf, some fi => Nat.beq inf.size fi.leaves.length
      | _, _ => false) && fieldsB P ty fs ps
  | _, _ => false
theorem fieldsB_ok {P : Program} {ty : Tys} : ∀ {fs : List Field} {ps : List (Nat × TypeId)}, fieldsB P ty fs ps = true →
    (∀ (j : Nat) (p : Nat × TypeId), ps[j]? = some p → ∃ f : Field, fs[j]? = some f ∧ f.offset = p.1 ∧ f.type = p.2) ∧ ∃ places, fs.mapM (fun f => (P.info? f.type).map fun i => (f.offset, i.size)) = some places ∧
      ∀ (j : Nat) (p : Nat × TypeId) (fi : TyI), ps[j]? = some p → tyAt ty p.2 = some fi → places[j]? = some (p.1, fi.leaves.length)
  | [], [], _ => ⟨fun j p h => by simp at h, [], rfl, fun j p fi h => by simp at h⟩
  | [], _ :: _, h => by simp [fieldsB] at h
  | _ :: _, [], h => by simp [fieldsB] at h
  | f :: fs, p :: ps, h => by
    simp only [fieldsB, Bool.and_eq_true] at h
    obtain ⟨⟨⟨h1, h2⟩, h3⟩, h4⟩ := h
    obtain ⟨q1, places, q2, q3⟩ := fieldsB_ok h4
    split at h3
    case h_2 => cases h3
    rename_i inf fi hinf hfi
    refine ⟨fun j p' hp => ?_, (f.offset, inf.size) :: places, by simp [hinf, q2], fun j p' fi' hp hfi' => ?_⟩
    · cases j with
      | zero => simp at hp; subst hp; exact ⟨f, rfl, beq_true.1 h1, beq_true.1 h2⟩
      | succ j => simp at hp; obtain ⟨f', a, b⟩ := q1 j p' hp; exact ⟨f', by simpa using a, b⟩
    · cases j with
      | zero => simp at hp; subst hp; rw [hfi] at hfi'; cases hfi'; simp [beq_true.1 h1, beq_true.1 h3]
      | succ j => simp at hp; simpa using q3 j p' fi' hp hfi'
def aggB (P : Program) (ty : Tys) (d : TypeDesc) (i : TyI) : Bool := match d with
  | .struct fs => Nat.beq i.alen 0 && (match i.fields with | [] => false | _ => true) && fieldsB P ty fs.toList i.fields
  | .array n e => (match i.fields with | [] => true | _ => false) && Nat.beq n i.alen && Nat.beq e i.elem && (match P.info? e, tyAt ty e with
      | some f, some ei => Nat.beq f.size ei.leaves.length
      | _, _ => false)
  | _ => false
def plainD : TypeDesc → Bool | .struct _ | .array _ _ => false | _ => true
def tyOne (P : Program) (ty : Tys) (t : TypeId) (i : TyI) : Bool := match i.leaves with
  | [] => notB i.agg && notB i.plain
  | _ => match P.info? t, P.underlying t with
    | some f, some d => match f.zero with
      | some z => Nat.beq f.size i.leaves.length && Nat.beq f.bytes i.bytes && zerosB i.leaves z.cells.toList &&
          (bif i.agg then (match z with | .agg _ => true | _ => false) && aggB P ty d i
            else Nat.beq i.leaves.length 1 && (match z with | .agg _ => false | _ => true) && plainD d && leafB d i) &&
          (bif i.plain then plainB P t i else true)
      | none => false
    | _, _ => false
def tyGo (P : Program) (ty : Tys) : Nat → Tys → Bool
  | _, [] => true
  | n, i :: r => tyOne P ty n i && tyGo P ty (n + 1) r
theorem tyGo_ok {P : Program} {ty : Tys} : ∀ {r : Tys} {n : Nat}, tyGo P ty n r = true → ∀ j i, r[j]? = some i → tyOne P ty (n + j) i = true
  | [], _, _, j, i, h => by simp at h
  | a :: r, n, h, j, i, hj => by
    simp only [tyGo, Bool.and_eq_true] at h
    cases j with
    | zero => simp at hj; subst hj; exact h.1
    | succ j => simp at hj; have := tyGo_ok h.2 j i hj; rwa [show n + 1 + j = n + (j + 1) from by omega] at this
structure TyOne (P : Program) (ty : Tys) (t : TypeId) (i : TyI) (f : TypeInfo) (d : TypeDesc) (z : Value) : Prop where
  hf : P.info? t = some f
  hd : P.underlying t = some d
  hz : f.zero = some z
  size : f.size = i.leaves.length
  bytes : f.bytes = i.bytes
  cells : z.cells.toList = i.leaves.map zeroVal
  agg : i.agg = true → (∃ a, z = .agg a) ∧ aggB P ty d i = true
  one : i.agg = false → i.leaves.length = 1 ∧ z.cells = #[z] ∧ plainD d = true ∧ leafB d i = true
  plain : i.plain = true → plainB P t i = true
theorem tyOne_ok {P : Program} {ty : Tys} {t : TypeId} {i : TyI} (h : tyOne P ty t i = true) (hn : i.leaves ≠ []) : ∃ f d z, TyOne P ty t i f d z := by
  unfold tyOne at h
  split at h
  · rename_i e; exact absurd e hn
  · split at h
    case h_2 => cases h
    rename_i f d hf hd
    split at h
    case h_2 => cases h
    rename_i z hz
    simp only [Bool.and_eq_true] at h
    obtain ⟨⟨⟨⟨h1, h2⟩, h3⟩, h4⟩, h5⟩ := h
    refine ⟨f, d, z, hf, hd, hz, beq_true.1 h1, beq_true.1 h2, zerosB_ok h3, fun ha => ?_, fun ha => ?_, fun hp => ?_⟩
    · rw [ha] at h4
      simp only [cond_true, Bool.and_eq_true] at h4
      refine ⟨?_, h4.2⟩
      have := h4.1
      split at this
      · exact ⟨_, rfl⟩
      · cases this
    · rw [ha] at h4
      simp only [cond_false, Bool.and_eq_true] at h4
      refine ⟨beq_true.1 h4.1.1.1, ?_, h4.1.2, h4.2⟩
      have := h4.1.1.2
      cases z <;> first | rfl | cases this
    · rw [hp] at h5; exact h5
theorem tyB_ok {P : Program} {ty : Tys} (h : tyGo P ty 0 ty = true) : TyOk P ty := by
  have key : ∀ t i, tyAt ty t = some i → tyOne P ty t i = true := fun t i ht => by simpa using tyGo_ok h t i ht
  have leaf : ∀ t i l, tyAt ty t = some i → i.agg = false → i.leaves = [l] → ∃ f d z, TyOne P ty t i f d z ∧ leafB d i = true := fun t i l ht ha hl => by
    obtain ⟨f, d, z, T⟩ := tyOne_ok (key t i ht) (by rw [hl]; simp)
    exact ⟨f, d, z, T, (T.one ha).2.2.2⟩
  refine { info := ?_, zero := ?_, agg := ?_, one := ?_, sl := ?_, int := ?_, bool := ?_, plain := ?_, str := ?_, fld := ?_, place := ?_, arr := ?_, mp := ?_ }
  · intro t i ht hn
    obtain ⟨f, d, z, T⟩ := tyOne_ok (key t i ht) hn
    exact ⟨f, T.hf, T.size, T.bytes, z, T.hz, T.cells⟩
  · intro t i ht hn
    obtain ⟨f, d, z, T⟩ := tyOne_ok (key t i ht) hn
    exact ⟨f, z, T.hf, T.hz, fun ha => (T.agg ha).1, fun ha => (T.one ha).2.1⟩
  · intro t i ht hn
    obtain ⟨f, d, z, T⟩ := tyOne_ok (key t i ht) hn
    unfold isAggP
    rw [T.hd]
    cases ha : i.agg with
    | true =>
      have := (T.agg ha).2
      unfold aggB at this
      cases d <;> first | rfl | cases this
    | false =>
      have := (T.one ha).2.2.1
      cases d <;> first | rfl | cases this
  · intro t i ht hn ha
    obtain ⟨f, d, z, T⟩ := tyOne_ok (key t i ht) hn
    exact (T.one ha).1
  · intro t e he
    unfold slElem at he
    split at he
    case h_2 => cases he
    rename_i ti ht
    split at he
    case h_2 => cases he
    rename_i e' ha hl
    cases he
    obtain ⟨f, d, z, T, hb⟩ := leaf t ti _ ht ha hl
    rw [T.hd]
    unfold leafB at hb
    rw [hl] at hb
    simp only at hb
    split at hb
    · rw [beq_true.1 hb]
    · cases hb
  · intro t i k ht ha hl
    obtain ⟨f, d, z, T, hb⟩ := leaf t i _ ht ha hl
    rw [T.hd]
    unfold leafB at hb
    rw [hl] at hb
    simp only at hb
    split at hb
    · rw [same_eq hb]
    · cases hb
  · intro t i ht ha hl
    obtain ⟨f, d, z, T, hb⟩ := leaf t i _ ht ha hl
    rw [T.hd]
    unfold leafB at hb
    rw [hl] at hb
    simp only at hb
    split at hb
    · rfl
    · cases hb
  · intro t i ht hp
    by_cases hn : i.leaves = []
    · have := key t i ht
      unfold tyOne at this
      rw [hn] at this
      simp only [hp, notB, Bool.and_eq_true] at this
      simp at this
    · obtain ⟨f, d, z, T⟩ := tyOne_ok (key t i ht) hn
      exact plainB_ok (T.plain hp)
  · intro t i ht ha hl
    obtain ⟨f, d, z, T, hb⟩ := leaf t i _ ht ha hl
    rw [T.hd]
    unfold leafB at hb
    rw [hl] at hb
    simp only at hb
    split at hb
    · rfl
    · cases hb
  · intro s f o fi hfo
    unfold fieldOf at hfo
    split at hfo
    case h_2 => cases hfo
    rename_i ti ht
    cases ha : ti.agg with
    | false => rw [ha] at hfo; cases hfo
    | true =>
      rw [ha] at hfo
      simp only [cond_true] at hfo
      split at hfo
      case h_2 => cases hfo
      rename_i p hp
      simp only [Option.map_eq_some_iff] at hfo
      obtain ⟨fi', hfi, e⟩ := hfo
      simp only [Prod.mk.injEq] at e
      obtain ⟨rfl, rfl⟩ := e
      have hn : ti.leaves ≠ [] := fun e => by
        have := key s ti ht
        unfold tyOne at this
        rw [e] at this
        simp only [ha, notB, Bool.and_eq_true] at this
        simp at this
      obtain ⟨f', d, z, T⟩ := tyOne_ok (key s ti ht) hn
      have hb := (T.agg ha).2
      unfold aggB at hb
      split at hb
      · rename_i fs
        simp only [Bool.and_eq_true] at hb
        obtain ⟨q1, _⟩ := fieldsB_ok hb.2
        obtain ⟨fd, a, b, c⟩ := q1 f p hp
        exact ⟨fs, fd, T.hd, by simpa using a, b, by rw [c]; exact hfi⟩
      · simp only [Bool.and_eq_true] at hb
        have h0 := hb.1.1.1
        split at h0
        · rename_i e; rw [e] at hp; simp at hp
        · cases h0
      · cases hb
  · intro t i ht ha hn
    obtain ⟨f, d, z, T⟩ := tyOne_ok (key t i ht) hn
    have hb := (T.agg ha).2
    unfold aggB at hb
    split at hb
    · rename_i fs
      simp only [Bool.and_eq_true] at hb
      obtain ⟨_, places, q2, q3⟩ := fieldsB_ok hb.2
      refine ⟨(places.toArray[·]?), z, T.cells, fun parts => ?_, fun n p hp => ?_⟩
      · unfold Program.built
        rw [T.hf, T.hd]
        simp only [T.hz, q2]
      · unfold placeOf at hp
        have h0 := hb.1.2
        split at hp
        · rename_i e; rw [e] at h0; cases h0
        · simp only [Option.map_eq_some_iff] at hp
          obtain ⟨⟨o, fi⟩, h1, rfl⟩ := hp
          unfold fieldOf at h1
          rw [ht] at h1
          simp only [ha, cond_true] at h1
          split at h1
          case h_2 => cases h1
          rename_i p' hp'
          simp only [Option.map_eq_some_iff, Prod.mk.injEq] at h1
          obtain ⟨fi', hfi, rfl, rfl⟩ := h1
          simpa using q3 n p' fi' hp' hfi
    · rename_i n e
      simp only [Bool.and_eq_true] at hb
      obtain ⟨⟨⟨h1, h2⟩, h3⟩, h4⟩ := hb
      split at h4
      case h_2 => cases h4
      rename_i inf ei hinf hei
      refine ⟨fun i => some (i * inf.size, inf.size), z, T.cells, fun parts => ?_, fun m p hp => ?_⟩
      · unfold Program.built
        rw [T.hf, T.hd]
        simp only [T.hz, hinf]
      · unfold placeOf at hp
        split at hp
        case h_2 =>
          rename_i hne
          split at h1
          · rename_i e0; exact absurd e0 (by intro e1; exact hne e1)
          · cases h1
        obtain ⟨_, hp⟩ := cond_some hp
        rw [← beq_true.1 h3, hei] at hp
        simp only [Option.bind_some] at hp
        obtain ⟨_, hp⟩ := cond_some hp
        simp only [Option.some.injEq] at hp
        rw [← hp, beq_true.1 h4]
    · cases hb
  · intro t i ht ha hal
    have hn : i.leaves ≠ [] := fun e => by
      have := key t i ht
      unfold tyOne at this
      rw [e] at this
      simp only [ha, notB, Bool.and_eq_true] at this
      simp at this
    obtain ⟨f, d, z, T⟩ := tyOne_ok (key t i ht) hn
    have hb := (T.agg ha).2
    rw [T.hd]
    unfold aggB at hb
    split at hb
    · simp only [Bool.and_eq_true] at hb
      have := beq_true.1 hb.1.1
      omega
    · simp only [Bool.and_eq_true] at hb
      rw [beq_true.1 hb.1.1.2, beq_true.1 hb.1.2]
    · cases hb
  · intro t i k e ht ha hl hfl
    obtain ⟨f, d, z, T, hb⟩ := leaf t i _ ht ha hl
    rw [T.hd]
    unfold leafB at hb
    rw [hl, hfl] at hb
    simp only at hb
    split at hb
    · simp only [Bool.and_eq_true] at hb
      rw [beq_true.1 hb.1, beq_true.1 hb.2]
    · cases hb
def maskL : List Bool → List Func → List (Option Func)
  | true :: m, f :: l => some f :: maskL m l
  | false :: m, _ :: l => none :: maskL m l
  | _, _ => []
theorem maskL_at : ∀ {m : List Bool} {l : List Func} {j : Nat} {fn : Func}, (maskL m l)[j]? = some (some fn) → l[j]? = some fn
  | [], _, j, fn, h => by simp [maskL] at h
  | true :: m, [], j, fn, h => by simp [maskL] at h
  | false :: m, [], j, fn, h => by simp [maskL] at h
  | true :: m, f :: l, j, fn, h => by
    cases j with
    | zero => simpa [maskL] using h
    | succ j => simp [maskL] at h; simpa using maskL_at h
  | false :: m, f :: l, j, fn, h => by
    cases j with
    | zero => simp [maskL] at h
    | succ j => simp [maskL] at h; simpa using maskL_at h
def fnB : Option Func → Bool
  | some fn => notB (fn.name == "runtime.NumGoroutine") && notB fn.body.isNone
  | none => true
theorem fnsOk_of {P : Program} {E : Env} {fns : List (Option Func)} {m : List Bool} (ha : ∀ f fn, E.fn f = some fn → fns[f]? = some (some fn)) (hm : fns = maskL m P.funcs.toList) (hb : fns.all fnB = true) : FnsOk P E := by
  intro f fn hf
  have h := ha f fn hf
  have h1 := List.all_eq_true.1 hb _ (List.mem_of_getElem? h)
  rw [hm] at h
  have h2 := maskL_at h
  simp only [fnB, Bool.and_eq_true, notB] at h1
  exact ⟨by simpa using h2, by simpa using h1.1, by simpa using h1.2⟩
def onceB : Option Func → Bool
  | some fn => (match fn.body with | some c => once (loopIds c) | none => true)
  | none => true
theorem once_of {E : Env} {fns : List (Option Func)} (ha : ∀ f fn, E.fn f = some fn → fns[f]? = some (some fn)) (hb : fns.all onceB = true) : LoopsOnce E := by
  intro f fn c hf hc
  have := List.all_eq_true.1 hb _ (List.mem_of_getElem? (ha f fn hf))
  simp only [onceB, hc] at this
  exact this
def regB (E : Env) : Option Func → Bool
  | some fn => funcB E fn
  | none => true
end Go.Vm
end
section
namespace Go.Vm
open Go.RowKit Go.Sort
def gd {R : Type} (b : Bool) (x : Option R) : Option R := cond b x none
abbrev BT := (R : Type) → St → (List V → St → Option R) → Option R
def insI (x : Int) : List Int → List Int
  | [] => [x]
  | y :: r => bif leI x y then x :: y :: r else y :: insI x r
def sortI : List Int → List Int
  | [] => []
  | x :: r => insI x (sortI r)
theorem insI_perm (x : Int) : ∀ l : List Int, (insI x l).Perm (x :: l)
  | [] => .refl _
  | y :: r => by
    unfold insI
    cases leI x y with
    | true => exact .refl _
    | false => exact ((insI_perm x r).cons y).trans (.swap x y r)
theorem sortI_perm : ∀ l : List Int, (sortI l).Perm l
  | [] => .refl _
  | x :: r => (insI_perm x _).trans ((sortI_perm r).cons x)
theorem insI_sorted (x : Int) : ∀ {l : List Int}, l.Pairwise (· ≤ ·) → (insI x l).Pairwise (· ≤ ·)
  | [], _ => by simp [insI]
  | y :: r, h => by
    unfold insI
    cases hb : leI x y with
    | true =>
      have hxy : x ≤ y := by simpa [leI] using hb
      simp only [cond_true, List.pairwise_cons]
      refine ⟨fun a ha => ?_, List.pairwise_cons.1 h⟩
      rcases List.mem_cons.1 ha with rfl | ha
      · exact hxy
      · exact Int.le_trans hxy ((List.pairwise_cons.1 h).1 a ha)
    | false =>
      have hxy : ¬ x ≤ y := by simpa [leI] using hb
      simp only [cond_false, List.pairwise_cons]
      refine ⟨fun a ha => ?_, insI_sorted x (List.pairwise_cons.1 h).2⟩
      rcases List.mem_cons.1 ((insI_perm x r).mem_iff.1 ha) with rfl | ha
      · omega
      · exact (List.pairwise_cons.1 h).1 a ha
theorem sortI_sorted : ∀ l : List Int, (sortI l).Pairwise (· ≤ ·)
  | [] => by simp [sortI]
  | x :: r => insI_sorted x (sortI_sorted r)
theorem sortI_eq (l : List Int) : l.mergeSort (fun a b => decide (a ≤ b)) = sortI l := by
  refine List.Perm.eq_of_pairwise (le := (· ≤ ·)) (fun a b _ _ h1 h2 => Int.le_antisymm h1 h2) ?_ (sortI_sorted l) ((List.mergeSort_perm _ _).trans (sortI_perm l).symm)
  have := List.pairwise_mergeSort (le := fun a b : Int => decide (a ≤ b)) (fun a b c h1 h2 => by simp at h1 h2 ⊢; omega) (fun a b => by simp; omega) l
  exact this.imp fun h => by simpa using h
def sortSp (f0 : FuncId) : Sp := fun f xs st => bif Nat.beq f f0 then some (match xs with
  | [.own id] => bif has id st.fz then none else (match get id st.h with
    | some (.ints .i64 l) => some (okL l.length, [], { st with h := ins id (.ints .i64 (sortI l)) st.h })
    | _ => none)
  | _ => none) else none
section
variable {P : Program} {E : Env} {ty : Tys} {c c' : Ctx} {h : Heap} {fz : List Nat}
theorem heap_put {id : Nat} {i : Info} {ob ob' : Obj} (H : HeapOk ty c h fz) (hg : get id h = some ob) (hi : c.μ id = some i) (hon : i.on = true)
    (hext : Ext c c') (hI : c'.I = c.I) (hμ : c'.μ = c.μ) (hold : ∀ b, b < c.w.heap.size → b ≠ i.b → c'.w.heap[b]? = c.w.heap[b]?) (hO : OR ty c' (has id fz) i ob') : HeapOk ty c' (ins id ob' h) fz where
  hp := fun id' o' i' hg' hi' => by
    rw [hμ] at hi'
    by_cases hid : id' = id
    · subst hid
      rw [get_ins_same] at hg'; cases hg'
      rw [hi] at hi'; cases hi'
      exact hO
    · rw [get_ins_other _ hid] at hg'
      have hO' := H.hp id' o' i' hg' hi'
      refine hO'.keep hext (fun hon' => ?_) (fun hh => hh) (fun _ _ h => .inl (hI ▸ h))
      exact hold _ (hO'.block hon') (H.sep id' id o' ob i' i hg' hg hi' hi hid hon' hon)
  sep := fun id1 id2 o1 o2 i1 i2 h1 h2 m1 m2 hne a b => by
    rw [hμ] at m1 m2
    have e : ∀ k o, get k (ins id ob' h) = some o → ∃ o', get k h = some o' := by
      intro k o hk
      by_cases hkid : k = id
      · exact ⟨ob, hkid ▸ hg⟩
      · rw [get_ins_other _ hkid] at hk; exact ⟨o, hk⟩
    obtain ⟨o1', g1⟩ := e _ _ h1
    obtain ⟨o2', g2⟩ := e _ _ h2
    exact H.sep id1 id2 o1' o2' i1 i2 g1 g2 m1 m2 hne a b
  ib := fun b o h => Nat.lt_of_lt_of_le (H.ib b o (hI ▸ h)) hext.below.size
theorem sortI_length (l : List Int) : (sortI l).length = l.length := (sortI_perm l).length_eq
theorem sorted_heap {w : World} {b o n : Nat} {os : Array Go.Obj} (d : Array Int) {k : Nat} (hk : k < w.heap.size) (hne : k ≠ b) :
    (grow (putRow (Value.int .i64) (Go.Sort.ahead w n) b o d) os).heap[k]? = w.heap[k]? := by
  show (((w.heap.modify b (onCells (putCells (Value.int .i64) o d))) ++ os))[k]? = _
  rw [Array.getElem?_append_left (by simpa using hk), Array.getElem?_modify, if_neg (Ne.symm hne)]
theorem sorted_block {w : World} {b o n : Nat} {os : Array Go.Obj} (d : Array Int) {cs : Array Value} {T : TypeId} {fr : Nat × Nat} (hb : w.heap[b]? = some (.cells cs T fr)) :
    (grow (putRow (Value.int .i64) (Go.Sort.ahead w n) b o d) os).heap[b]? = some (.cells (putCells (Value.int .i64) o d cs) T fr) := by
  have hlt : b < w.heap.size := (Array.getElem?_eq_some_iff.1 hb).1
  show (((w.heap.modify b (onCells (putCells (Value.int .i64) o d))) ++ os))[b]? = _
  rw [Array.getElem?_append_left (by simpa using hlt), Array.getElem?_modify, if_pos rfl, hb]
  rfl
theorem sorted_cell {w : World} {b o n : Nat} {os : Array Go.Obj} {d : Array Int} {cs : Array Value} {T : TypeId} {fr : Nat × Nat} (hb : w.heap[b]? = some (.cells cs T fr)) (j : Nat) (hj : j < cs.size) :
    (grow (putRow (Value.int .i64) (Go.Sort.ahead w n) b o d) os).cell? ⟨b, j, none⟩ = if o ≤ j ∧ j < o + d.size then some (.int .i64 d[j - o]!) else w.cell? ⟨b, j, none⟩ := by
  unfold World.cell?
  simp only [sorted_block d hb, hb]
  simp only [Option.isSome_none, Bool.false_eq_true, if_false, putCells, Array.getElem?_mapIdx, Array.getElem?_eq_getElem hj, Option.map_some]
  split <;> rfl
theorem sortSp_ok {f0 : FuncId} (hE : ∃ fn, E.fn f0 = some fn) (hn : ∀ (p : Option Addr) (cap : Nat) (w : World), Go.Calls P f0 #[.slice p 0 cap] w fun e w' => e = .returned (.tuple #[]) ∧ w' = w)
    (hs : ∀ (blk off cap : Nat) (zs : List Int) (w : World), Holds (Value.int .i64) w blk off zs.toArray → blk < w.heap.size → zs.length < 4611686018427387904 →
      Go.Calls P f0 #[.slice (some ⟨blk, off, none⟩) zs.length cap] w fun e w' => e = .returned (.tuple #[]) ∧ ∃ n os, w' = grow (putRow (Value.int .i64) (Go.Sort.ahead w n) blk off (zs.mergeSort fun x y => decide (x ≤ y)).toArray) os) : SpOk P E (sortSp f0) := by
  refine ⟨fun f as st ws st' h => ?_, fun f as st p h => ?_⟩
  · intro R k r hk c vs H hf hb hlo hl
    unfold sortSp at h
    cases hff : Nat.beq f f0 with
    | false => rw [hff] at h; cases h
    | true =>
      rw [hff] at h
      obtain rfl := beq_true.1 hff
      simp only [cond_true, Option.some.injEq] at h
      split at h
      case h_2 => cases h
      rename_i id
      cases hz : has id st.fz with
      | true => rw [hz] at h; cases h
      | false =>
      rw [hz] at h
      simp only [cond_false] at h
      split at h
      case h_2 => cases h
      rename_i l hg
      simp only [Option.some.injEq, Prod.mk.injEq] at h
      obtain ⟨hok, rfl, rfl⟩ := h
      have hlen : l.length ≤ 4294967296 := by
        have := okL_iff.1 hok
        simpa [lim] using this
      simp only [LR] at hl
      obtain ⟨y, ys, rfl, hv, rfl⟩ := hl
      simp only [VR] at hv
      obtain ⟨i, hi, rfl⟩ := hv
      have hO := H.hp id _ i hg hi
      rw [hz] at hO
      obtain ⟨⟨a1, a2, a3, a4, a5, a6⟩, hcells⟩ := hO
      cases hon : i.on with
      | false =>
        have hl0 : l = [] := List.length_eq_zero_iff.1 (by have := a5 hon; omega)
        subst hl0
        have e0 : i.len = 0 := by simpa using a3
        rw [e0]
        refine Calls.mono (hn _ _ _) fun e w' he => ?_
        obtain ⟨rfl, rfl⟩ := he
        refine ⟨c, { st with h := ins id (.ints .i64 (sortI [])) st.h }, [], [], rfl, rfl, Ext.refl c, ?_, hf, rfl, rfl, Nat.le_refl _, by simp [LR], hk⟩
        have e1 : sortI [] = [] := by simp [sortI]
        refine ⟨fun id' o' i' hg' hi' => ?_, fun id1 id2 o1 o2 i1 i2 h1 h2 m1 m2 hne x y => ?_, H.ib⟩
        · by_cases hid : id' = id
          · subst hid
            simp only [get_ins_same, e1, Option.some.injEq] at hg'
            subst hg'
            exact H.hp id' _ i' hg hi'
          · simp only [get_ins_other _ hid] at hg'
            exact H.hp id' o' i' hg' hi'
        · have e : ∀ k o, get k (ins id (.ints .i64 (sortI [])) st.h) = some o → ∃ o', get k st.h = some o' := by
            intro k o hk
            by_cases hkid : k = id
            · exact ⟨_, hkid ▸ hg⟩
            · rw [get_ins_other _ hkid] at hk; exact ⟨o, hk⟩
          obtain ⟨o1', g1⟩ := e _ _ h1
          obtain ⟨o2', g2⟩ := e _ _ h2
          exact H.sep id1 id2 o1' o2' i1 i2 g1 g2 m1 m2 hne x y
      | true =>
        obtain ⟨haa, cs, T, hheap, hroom, hmine, hnI⟩ := a6 hon
        have hlt : i.b < c.w.heap.size := (Array.getElem?_eq_some_iff.1 hheap).1
        rw [haa, a3]
        refine Calls.mono (hs i.b i.o i.cap l c.w (fun j hj => ?_) hlt (by omega)) fun e w' he => ?_
        · have hj' : j < l.length := by simpa using hj
          refine ⟨?_, by simp [World.frozen?, hheap]⟩
          rw [hcells j hj']
          simp [hj']
        rw [sortI_eq] at he
        obtain ⟨rfl, n, os, rfl⟩ := he
        let c' : Ctx := { w := grow (putRow (Value.int .i64) (Go.Sort.ahead c.w n) i.b i.o (sortI l).toArray) os, base := c.base, F := c.F, I := c.I, μ := c.μ }
        have hsz : (sortI l).toArray.size = l.length := by simp [sortI_length]
        have hroom' : i.o + l.length ≤ cs.size := by
          have := hroom
          rw [a1, Nat.mul_one] at this
          omega
        have hcell : ∀ j, i.o ≤ j → j < i.o + l.length → c'.w.cell? ⟨i.b, j, none⟩ = some (.int .i64 (sortI l).toArray[j - i.o]!) := fun j h1 h2 => by
          refine (sorted_cell hheap j (by omega)).trans ?_
          rw [hsz, if_pos ⟨h1, h2⟩]
        have hext : Ext c c' := by
          refine ⟨rfl, rfl, ⟨rfl, rfl, rfl, ?_, fun k hk => ?_⟩, fun b hb' hF => sorted_heap _ hb' fun e => hmine.2 (e ▸ hF), fun _ _ h => h, fun _ _ h => .inl h, fun b o hI => ?_, fun _ _ h => h⟩
          · show c.w.heap.size ≤ ((c.w.heap.modify i.b _) ++ os).size
            simp
          · exact sorted_heap _ (by have := hb.1; omega) (by have := hmine.1; omega)
          · by_cases hbb : b = i.b
            · subst hbb
              rcases Nat.lt_or_ge o cs.size with hlt' | hge
              · refine (sorted_cell hheap o hlt').trans ?_
                rw [hsz, if_neg ?_]
                rintro ⟨h1, h2⟩
                refine hnI (o - i.o) (by unfold fzn; simp) (by rw [a1]; omega) ?_
                rw [show i.o + (o - i.o) = o from by omega]
                exact hI
              · show (grow _ os).cell? _ = _
                unfold World.cell?
                simp only [sorted_block (sortI l).toArray hheap, hheap]
                simp only [Option.isSome_none, Bool.false_eq_true, if_false]
                rw [Array.getElem?_eq_none hge, Array.getElem?_eq_none (by simpa [putCells] using hge)]
            · exact World.cell?_of_block (sorted_heap _ (H.ib b o hI) hbb)
        refine ⟨c', { st with h := ins id (.ints .i64 (sortI l)) st.h }, [], [], rfl, rfl, hext, ?_, hf, rfl, rfl, Nat.le_refl _, by simp [LR], hk⟩
        refine heap_put H hg hi hon hext rfl rfl (fun b h1 h2 => sorted_heap _ h1 h2) ?_
        rw [hz]
        refine ⟨⟨a1, a2, by rw [sortI_length]; exact a3, a4, a5, fun _ => ⟨haa, _, T, sorted_block _ hheap, by simpa [putCells] using hroom, hmine, hnI⟩⟩, fun j hj => ?_⟩
        rw [sortI_length] at hj
        rw [hcell (i.o + j) (by omega) (by omega)]
        simp [sortI_length, hj]
  · unfold sortSp at h
    cases hff : Nat.beq f f0 with
    | false => rw [hff] at h; cases h
    | true => obtain rfl := beq_true.1 hff; exact hE
end
end Go.Vm
end
section
namespace Go.Vm
def teq : Tag → Tag → Bool
  | .bor, .bor | .frz, .frz | .new, .new => true
  | _, _ => false
theorem teq_ok {a b : Tag} (h : teq a b = true) : a = b := by cases a <;> cases b <;> first | rfl | cases h
def ieqL : List Int → List Int → Bool
  | [], [] => true
  | a :: r, b :: s => eqI a b && ieqL r s
  | _, _ => false
theorem ieqL_ok : ∀ {a b : List Int}, ieqL a b = true → a = b
  | [], [], _ => rfl
  | [], _ :: _, h => by cases h
  | _ :: _, [], h => by cases h
  | a :: r, b :: s, h => by
    simp only [ieqL, Bool.and_eq_true, eqI, beq_iff_eq] at h
    rw [h.1, ieqL_ok h.2]
def beqL : List Bool → List Bool → Bool
  | [], [] => true
  | a :: r, b :: s => eqB a b && beqL r s
  | _, _ => false
theorem beqL_ok : ∀ {a b : List Bool}, beqL a b = true → a = b
  | [], [], _ => rfl
  | [], _ :: _, h => by cases h
  | _ :: _, [], h => by cases h
  | a :: r, b :: s, h => by
    simp only [beqL, Bool.and_eq_true, eqB, beq_iff_eq] at h
    rw [h.1, beqL_ok h.2]
mutual
def veq : V → V → Bool
  | .bool a, .bool b => eqB a b
  | .int k a, .int k' b => IntKind.same k k' && eqI a b
  | .ints t k l, .ints t' k' l' => teq t t' && IntKind.same k k' && ieqL l l'
  | .bools t l, .bools t' l' => teq t t' && beqL l l'
  | .vals t e l, .vals t' e' l' => teq t t' && Nat.beq e e' && veqL l l'
  | .agg l, .agg l' => veqL l l'
  | _, _ => false
def veqL : List V → List V → Bool
  | [], [] => true
  | a :: r, b :: s => veq a b && veqL r s
  | _, _ => false
end
mutual
theorem veq_ok : ∀ {a b : V}, veq a b = true → a = b
  | .bool a, .bool b, h => by simp only [veq, eqB, beq_iff_eq] at h; rw [h]
  | .int k a, .int k' b, h => by simp only [veq, eqI, beq_iff_eq, Bool.and_eq_true] at h; rw [same_eq h.1, h.2]
  | .ints t k l, .ints t' k' l', h => by simp only [veq, Bool.and_eq_true] at h; rw [teq_ok h.1.1, same_eq h.1.2, ieqL_ok h.2]
  | .bools t l, .bools t' l', h => by simp only [veq, Bool.and_eq_true] at h; rw [teq_ok h.1, beqL_ok h.2]
  | .vals t e l, .vals t' e' l', h => by simp only [veq, Bool.and_eq_true] at h; rw [teq_ok h.1.1, beq_true.1 h.1.2, veqL_ok h.2]
  | .agg l, .agg l', h => by simp only [veq] at h; rw [veqL_ok h]
theorem veqL_ok : ∀ {a b : List V}, veqL a b = true → a = b
  | [], [], _ => rfl
  | [], _ :: _, h => by simp only [veqL] at h; cases h
  | _ :: _, [], h => by simp only [veqL] at h; cases h
  | a :: r, b :: s, h => by
    simp only [veqL, Bool.and_eq_true] at h
    rw [veq_ok h.1, veqL_ok h.2]
end
def findC (as : List V) : List (List V × List V) → Option (List V)
  | [] => none
  | p :: l => bif veqL p.1 as then some p.2 else findC as l
theorem findC_mem {as r : List V} : ∀ {l : List (List V × List V)}, findC as l = some r → (as, r) ∈ l
  | [], h => by cases h
  | p :: l, h => by
    unfold findC at h
    cases hb : veqL p.1 as with
    | true => rw [hb] at h; cases h; rw [← veqL_ok hb]; simp
    | false => rw [hb] at h; exact List.mem_cons_of_mem _ (findC_mem h)
def wC (l : List (List V × List V)) : Fk := fun _ as k => match findC as l with
  | some r => k r
  | none => none
theorem good_closed {P : Program} {E : Env} {sp : Sp} (S : Sys P E sp) {N d : Nat} {f : FuncId} {t : List (Nat × Fk)} (ht : ∀ p ∈ t, Good P E p.1 p.2) {l : List (List V × List V)} (hf : ∃ fn, E.fn f = some fn)
    (h : ∀ p ∈ l, pureBody E N (callsT E N (tabOf t) sp d) f p.1 = some p.2) : Good P E f (wC l) := by
  intro R as k r0 hr
  unfold wC at hr
  split at hr
  case h_2 => cases hr
  rename_i r hfind
  obtain ⟨hC, hD⟩ := callsT_ok S.ty S.fns S.regs (N := N) (tab_ok ht) S.sp d
  exact ⟨r, hr, pure_sound S.ty S.fns S.regs (canon_ok) hC hD (h _ (findC_mem hfind)), fun R' k' => by unfold wC; rw [hfind], hf⟩
end Go.Vm
end
