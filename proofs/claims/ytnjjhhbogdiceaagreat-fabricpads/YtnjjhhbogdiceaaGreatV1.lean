/-
  A part of the proof that FabricPads answers true at every input. No condition.
-/
import Derived.ChangeKeysEq
import Derived.Test.YtnjjhhbogdiceaaGreatV0
section
namespace Go.Vm
open Go.RowKit
section
variable {P : Program} {ty : Tys} {c : Ctx} {nx : Nat} {h : Heap} {fz : List Nat} {ρ : Operand → Option V} {ρ' : Operand → Value}
theorem run_fieldAt {s : TypeId} {f : Nat} {fs : Array Field} {fd : Field} {inf : TypeInfo} {b o : Nat} {w : World} (hs : P.underlying s = some (.struct fs)) (hf : fs[f]? = some fd)
    (hi : P.info? fd.type = some inf) (hz : inf.size ≠ 0) : (Instr.fieldAt s (.pointer (some ⟨b, o, none⟩)) f).run P w = .ok (.pointer (some ⟨b, o + fd.offset, none⟩)) w := by
  unfold Instr.fieldAt
  rw [run_bind (run_underlying hs)]
  simp only [hf]
  rw [run_bind run_sureAddr]
  unfold fieldPlace
  have h1 : ((do if (← sizeOf fd.type) = 0 then partAt ⟨b, o, none⟩ fd.offset fd.byteOffset else pure ((⟨b, o, none⟩ : Addr).add fd.offset)) : Sem Addr).run P w = .ok ⟨b, o + fd.offset, none⟩ w := by
    rw [run_bind (run_sizeOf hi), if_neg hz, add_none]; rfl
  rw [run_bind h1]; rfl
theorem fieldAddr_sound (hT : TyOk P ty) (hρ : ∀ o v, ρ o = some v → VR ty c v (ρ' o)) {s rty : TypeId} {a : Operand} {f : Nat} {r : Res}
    (hr : front ty h nx ρ rty (.fieldAddr s a f) = some r) : ∃ x, (Instr.fieldAt s (ρ' a) f).run P c.w = .ok x c.w ∧ VR ty c r.v x ∧ r.objs = [] ∧ r.fz = [] := by
  simp only [front] at hr
  have key : ∀ (o : Nat) (fi : TyI), fieldOf ty s f = some (o, fi) → Nat.blt 0 fi.leaves.length = true → ∀ b off,
      (Instr.fieldAt s (.pointer (some ⟨b, off, none⟩)) f).run P c.w = .ok (.pointer (some ⟨b, off + o, none⟩)) c.w := by
    intro o fi hfo hb b off
    obtain ⟨fs, fd, hs, hf, rfl, ht⟩ := hT.fld s f o fi hfo
    have hn : fi.leaves ≠ [] := by intro e; rw [e] at hb; simp at hb
    obtain ⟨inf, hi, hz, _⟩ := hT.info _ _ ht hn
    refine run_fieldAt hs hf hi ?_
    rw [hz]; intro e; exact hn (List.length_eq_zero_iff.1 e)
  split at hr
  · rename_i o fi id off hfo ha
    cases hb : Nat.blt 0 fi.leaves.length
    · rw [hb] at hr; simp at hr
    rw [hb] at hr
    obtain ⟨hv, ho, hz⟩ := res_eq hr
    have hp := hρ _ _ ha
    simp only [VR] at hp
    obtain ⟨i, hi, hon, hx⟩ := hp
    rw [hx, key o fi hfo hb]
    refine ⟨_, rfl, ?_, ho, hz⟩
    rw [hv]; simp only [VR]
    exact ⟨i, hi, hon, by rw [Nat.add_assoc]⟩
  · rename_i o fi l hfo ha
    cases hb : Nat.blt 0 fi.leaves.length
    · rw [hb] at hr; simp at hr
    rw [hb] at hr
    obtain ⟨hv, ho, hz⟩ := res_eq hr
    have hp := hρ _ _ ha
    simp only [VR] at hp
    obtain ⟨b, o', hx, hM⟩ := hp
    rw [hx, key o fi hfo hb]
    refine ⟨_, rfl, ?_, ho, hz⟩
    rw [hv]; simp only [VR]
    refine ⟨b, o' + o, rfl, ?_⟩
    obtain ⟨xs, hCR, hc⟩ := hM.to_CR
    refine MR.of_CR (hCR.drop o) fun j hj => ?_
    simp at hj
    have := hc (o + j) (by omega)
    rw [Nat.add_assoc]
    simpa using this
  · rename_i o fi id idx off hfo ha
    cases hb : Nat.blt 0 fi.leaves.length
    · rw [hb] at hr; simp at hr
    rw [hb] at hr
    obtain ⟨hv, ho, hz⟩ := res_eq hr
    have hp := hρ _ _ ha
    simp only [VR] at hp
    obtain ⟨i, hi, hon, hidx, hx⟩ := hp
    rw [hx, key o fi hfo hb]
    refine ⟨_, rfl, ?_, ho, hz⟩
    rw [hv]; simp only [VR]
    exact ⟨i, hi, hon, hidx, by rw [Nat.add_assoc]⟩
  · simp at hr
theorem shOf_ty {e : TypeId} {s : Sh} (h : shOf ty e = some s) : ∃ ei, tyAt ty e = some ei ∧ ei.leaves ≠ [] := by
  unfold shOf at h
  split at h
  · rename_i i hi
    refine ⟨i, hi, ?_⟩
    intro e
    simp [e] at h
  · simp at h
theorem shOf_one {e : TypeId} {s : Sh} (h : shOf ty e = some s) (hs : s ≠ .vals) : ∃ ei, tyAt ty e = some ei ∧ ei.agg = false ∧ ei.leaves.length = 1 ∧
    (∀ k, s = .ints k → ei.leaves = [.int k]) ∧ (s = .bools → ei.leaves = [.bool]) := by
  unfold shOf at h
  split at h
  · rename_i i hi
    refine ⟨i, hi, ?_⟩
    split at h
    · rename_i k ha hl
      simp only [Option.some.injEq] at h
      subst h
      exact ⟨ha, by rw [hl]; rfl, (fun k' hk => by injection hk with hk; rw [hl, hk]), (fun hh => by cases hh)⟩
    · rename_i ha hl
      simp only [Option.some.injEq] at h
      subst h
      exact ⟨ha, by rw [hl]; rfl, (fun k' hk => by cases hk), (fun _ => hl)⟩
    · simp only [Option.some.injEq] at h
      exact absurd h.symm hs
    · simp at h
  · simp at h
theorem fit_ints {e : TypeId} {k : IntKind} {l : List Int} (h : fitE ty e (.ints k l) = true) : shOf ty e = some (.ints k) := by
  unfold fitE at h
  cases hs : shOf ty e with
  | none => rw [hs] at h; simp at h
  | some s =>
    rw [hs] at h
    cases s <;> simp at h
    rw [same_eq h]
theorem fit_bools {e : TypeId} {l : List Bool} (h : fitE ty e (.bools l) = true) : shOf ty e = some .bools := by
  unfold fitE at h
  cases hs : shOf ty e with
  | none => rw [hs] at h; simp at h
  | some s =>
    rw [hs] at h
    cases s <;> simp at h
    rfl
theorem fit_vals {e e' : TypeId} {l : List V} (h : fitE ty e (.vals e' l) = true) : shOf ty e = some .vals ∧ e = e' := by
  unfold fitE at h
  cases hs : shOf ty e with
  | none => rw [hs] at h; simp at h
  | some s =>
    rw [hs] at h
    cases s <;> simp at h
    exact ⟨rfl, h⟩
theorem fit_size (hT : TyOk P ty) {e : TypeId} {o : Obj} (h : fitE ty e o = true) : ∃ ei inf, tyAt ty e = some ei ∧ P.info? e = some inf ∧ inf.size = ei.leaves.length ∧ ei.leaves ≠ [] ∧ inf.bytes = ei.bytes ∧
    ((∀ k l, o = .ints k l → ei.leaves.length = 1) ∧ (∀ l, o = .bools l → ei.leaves.length = 1) ∧ (∀ e' l, o = .vals e' l → e' = e)) := by
  have hsome : ∃ s, shOf ty e = some s := by
    unfold fitE at h
    cases hs : shOf ty e with
    | none => rw [hs] at h; simp at h
    | some s => exact ⟨s, rfl⟩
  obtain ⟨s, hs⟩ := hsome
  obtain ⟨ei, he, hn⟩ := shOf_ty hs
  obtain ⟨inf, hi, hz, hb, _⟩ := hT.info e ei he hn
  refine ⟨ei, inf, he, hi, hz, hn, hb, ?_, ?_, ?_⟩
  · rintro k l rfl
    obtain ⟨ei', he', _, h1, _⟩ := shOf_one (fit_ints h) (by simp)
    rw [he] at he'; cases he'; exact h1
  · rintro l rfl
    obtain ⟨ei', he', _, h1, _⟩ := shOf_one (fit_bools h) (by simp)
    rw [he] at he'; cases he'; exact h1
  · rintro e' l rfl
    exact (fit_vals h).2.symm
theorem run_indexAt_slice {t e : TypeId} {inf : TypeInfo} {b o len cap : Nat} {k : IntKind} {i : Int} {w : World} (hu : P.underlying t = some (.slice e)) (hi : P.info? e = some inf)
    (h0 : 0 ≤ i) (h1 : i < (len : Int)) : (Instr.indexAt t (.slice (some ⟨b, o, none⟩) len cap) (.int k i)).run P w = .ok (.pointer (some ⟨b, o + i.toNat * inf.size, none⟩)) w := by
  unfold Instr.indexAt
  rw [run_bind (show (asIntOf (.int k i)).run P w = .ok (k, i) w from rfl)]
  simp only []
  rw [run_bind (run_underlying hu)]
  simp only []
  rw [run_bind run_pure, run_bind (run_underlying hu)]
  simp only [Bool.and_false, Bool.false_eq_true, if_false]
  rw [if_pos ⟨h0, h1⟩, run_bind (run_sizeOf hi), add_none]; rfl
theorem run_indexAt_array {t e : TypeId} {inf : TypeInfo} {b o n : Nat} {k : IntKind} {i : Int} {w : World} (hu : P.underlying t = some (.array n e)) (hi : P.info? e = some inf)
    (h0 : 0 ≤ i) (h1 : i < (n : Int)) : (Instr.indexAt t (.pointer (some ⟨b, o, none⟩)) (.int k i)).run P w = .ok (.pointer (some ⟨b, o + i.toNat * inf.size, none⟩)) w := by
  unfold Instr.indexAt
  rw [run_bind (show (asIntOf (.int k i)).run P w = .ok (k, i) w from rfl)]
  simp only []
  rw [run_bind (run_underlying hu)]
  simp only []
  rw [run_bind run_sureAddr, run_bind run_pure, run_bind (run_underlying hu)]
  simp only []
  rw [if_pos ⟨h0, h1⟩, run_bind (run_sizeOf hi), add_none]; rfl
theorem getD_lt {α : Type} {l : List α} {i : Nat} (h : i < l.length) (d : α) : l.getD i d = l[i] := by simp [List.getD, h]
theorem indexAddr_sound (hT : TyOk P ty) (H : HeapOk ty c h fz) (hρ : ∀ o v, ρ o = some v → VR ty c v (ρ' o)) {t rty : TypeId} {a j : Operand} {r : Res}
    (hr : front ty h nx ρ rty (.indexAddr t a j) = some r) (hok : r.ok = true) :
    ∃ x, (Instr.indexAt t (ρ' a) (ρ' j)).run P c.w = .ok x c.w ∧ VR ty c r.v x ∧ r.objs = [] ∧ r.fz = [] := by
  simp only [front] at hr
  split at hr
  case h_2 => simp at hr
  rename_i ti k n ht hj
  have hjv := hρ _ _ hj
  rw [vr_int] at hjv
  rw [hjv]
  split at hr
  · rename_i e he
    have hu := hT.sl t e he
    split at hr
    · rename_i tg k' l ha
      have hx := hρ _ _ ha
      cases hf : fitE ty e (.ints k' l)
      · rw [hf] at hr; simp at hr
      rw [hf] at hr
      obtain ⟨hin, hv, ho, hz⟩ := resIf_eq hr hok
      obtain ⟨h0, h1⟩ := inR_iff.1 hin
      obtain ⟨ei, inf, hei, hinf, hsz, hn, _, hk, _⟩ := fit_size hT hf
      simp only [VR] at hx
      obtain ⟨aa, cap, hxe, hcap, hl⟩ := hx
      have hlt : n.toNat < l.length := by omega
      rcases hl with rfl | ⟨b, o, rfl, hc⟩
      · simp at hlt
      rw [hxe, run_indexAt_slice hu hinf h0 h1]
      refine ⟨_, rfl, ?_, ho, hz⟩
      rw [hv]
      simp only [VR, MR]
      refine ⟨b, o + n.toNat, by rw [hsz, hk _ _ rfl, Nat.mul_one], ⟨⟨_, rfl, trivial, ?_, ?_⟩, trivial⟩⟩
      · have := (hc n.toNat hlt).1
        cases tg with
        | bor => exact this
        | frz => exact .inr this
        | new => exact this.elim
      · rw [getD_lt hlt]; exact (hc n.toNat hlt).2
    · rename_i tg l ha
      have hx := hρ _ _ ha
      cases hf : fitE ty e (.bools l)
      · rw [hf] at hr; simp at hr
      rw [hf] at hr
      obtain ⟨hin, hv, ho, hz⟩ := resIf_eq hr hok
      obtain ⟨h0, h1⟩ := inR_iff.1 hin
      obtain ⟨ei, inf, hei, hinf, hsz, hn, _, _, hk, _⟩ := fit_size hT hf
      simp only [VR] at hx
      obtain ⟨aa, cap, hxe, hcap, hl⟩ := hx
      have hlt : n.toNat < l.length := by omega
      rcases hl with rfl | ⟨b, o, rfl, hc⟩
      · simp at hlt
      rw [hxe, run_indexAt_slice hu hinf h0 h1]
      refine ⟨_, rfl, ?_, ho, hz⟩
      rw [hv]
      simp only [VR, MR]
      refine ⟨b, o + n.toNat, by rw [hsz, hk _ rfl, Nat.mul_one], ⟨⟨_, rfl, trivial, ?_, ?_⟩, trivial⟩⟩
      · have := (hc n.toNat hlt).1
        cases tg with
        | bor => exact this
        | frz => exact .inr this
        | new => exact this.elim
      · rw [getD_lt hlt]; exact (hc n.toNat hlt).2
    · rename_i tg e' l ha
      have hx := hρ _ _ ha
      cases hf : fitE ty e (.vals e' l)
      · rw [hf] at hr; simp at hr
      rw [hf] at hr
      obtain ⟨hsh, rfl⟩ := fit_vals hf
      obtain ⟨ei, inf, hei, hinf, hsz, hn, _⟩ := fit_size hT hf
      simp only [cond_true, elCells, hei, Option.map_some, Option.some.injEq] at hr
      subst hr
      simp only at hok
      obtain ⟨h0, h1⟩ := inR_iff.1 hok
      simp only [VR] at hx
      obtain ⟨aa, cap, ei', hxe, hcap, hei', _, hok', hl⟩ := hx
      rw [hei] at hei'; cases hei'
      have hlt : n.toNat < l.length := by omega
      rcases hl with rfl | ⟨b, o, rfl, hE⟩
      · simp at hlt
      rw [hxe, run_indexAt_slice hu hinf h0 h1]
      refine ⟨_, rfl, ?_, rfl, rfl⟩
      simp only [VR]
      refine ⟨b, o + n.toNat * ei.leaves.length, by rw [hsz], ?_⟩
      have hel : ∀ (l : List V) (o m : Nat), ER ty c tg ei.leaves.length l b o → ∀ (hm : m < l.length), ∃ y, VR ty c l[m] y ∧ y.cells.size = ei.leaves.length ∧
          ∀ j, j < ei.leaves.length → Imm c tg b (o + m * ei.leaves.length + j) ∧ c.w.cell? ⟨b, o + m * ei.leaves.length + j, none⟩ = y.cells[j]? := by
        intro l
        induction l with
        | nil => intro o m _ hm; simp at hm
        | cons v r ih =>
          intro o m hE hm
          simp only [ER] at hE
          cases m with
          | zero => simpa using hE.1
          | succ m =>
            obtain ⟨y, hy, hs, hj⟩ := ih (o + ei.leaves.length) m hE.2 (by simpa using hm)
            refine ⟨y, hy, hs, fun j hlt => ?_⟩
            have := hj j hlt
            rw [show o + (m + 1) * ei.leaves.length + j = o + ei.leaves.length + m * ei.leaves.length + j from by rw [Nat.succ_mul]; omega]
            exact this
      obtain ⟨y, hy, hs, hj⟩ := hel l o n.toNat hE hlt
      rw [getD_lt hlt]
      refine MR.of_CR (okV_CR (hok' _ (List.getElem_mem hlt)) hy) fun j hlt' => ?_
      simp at hlt'
      obtain ⟨h1, h2⟩ := hj j (by omega)
      refine ⟨?_, by rw [h2]; simp [hlt']⟩
      cases tg with
      | bor => exact h1
      | frz => exact .inr h1
      | new => exact h1.elim
    · rename_i id ha
      have hx := hρ _ _ ha
      split at hr
      case h_2 => simp at hr
      rename_i ob hg
      cases hf : fitE ty e ob
      · rw [hf] at hr; simp at hr
      rw [hf] at hr
      obtain ⟨hin, hv, ho, hz⟩ := resIf_eq hr hok
      obtain ⟨h0, h1⟩ := inR_iff.1 hin
      obtain ⟨ei, inf, hei, hinf, hsz, hn, _, hk1, hk2, hk3⟩ := fit_size hT hf
      simp only [VR] at hx
      obtain ⟨i, hi, hxe⟩ := hx
      have hO := H.hp id _ i hg hi
      have harr : ArrOk c (has id fz) i ei.leaves.length ob.len := by
        cases ob with
        | ints k l => rw [hk1 _ _ rfl]; exact hO.1
        | bools l => rw [hk2 _ rfl]; exact hO.1
        | vals e' l =>
          obtain rfl := hk3 _ _ rfl
          obtain ⟨ei', he', _, _, harr, _⟩ := hO
          rw [hei] at he'; cases he'
          exact harr
        | cells l => unfold fitE at hf; split at hf <;> simp_all
        | map _ _ _ _ => unfold fitE at hf; split at hf <;> simp_all
      obtain ⟨hs1, hs2, hs3, hs4, hoff, hon⟩ := harr
      have hlt : n.toNat < i.len := by omega
      have honn : i.on = true := by
        cases hh : i.on with
        | true => rfl
        | false => have := hoff hh; omega
      obtain ⟨haa, _⟩ := hon honn
      rw [hxe, haa, run_indexAt_slice hu hinf h0 (by omega)]
      refine ⟨_, rfl, ?_, ho, hz⟩
      rw [hv]
      simp only [VR]
      exact ⟨i, hi, honn, hlt, by rw [hsz, hs1]; rfl⟩
    · rename_i id off len ha
      have hx := hρ _ _ ha
      split at hr
      case h_2 => simp at hr
      rename_i ob hg
      cases hf : fitE ty e ob
      · rw [hf] at hr; simp at hr
      rw [hf] at hr
      obtain ⟨hin, hv, ho, hz⟩ := resIf_eq hr hok
      obtain ⟨h0, h1⟩ := inR_iff.1 hin
      obtain ⟨ei, inf, hei, hinf, hsz, hn, _, hk1, hk2, hk3⟩ := fit_size hT hf
      simp only [VR] at hx
      obtain ⟨i, aa, cap, hi, hxe, hle, hlc, hcap, hpl⟩ := hx
      have hO := H.hp id _ i hg hi
      have harr : ArrOk c (has id fz) i ei.leaves.length ob.len := by
        cases ob with
        | ints k l => rw [hk1 _ _ rfl]; exact hO.1
        | bools l => rw [hk2 _ rfl]; exact hO.1
        | vals e' l =>
          obtain rfl := hk3 _ _ rfl
          obtain ⟨ei', he', _, _, harr, _⟩ := hO
          rw [hei] at he'; cases he'
          exact harr
        | cells l => unfold fitE at hf; split at hf <;> simp_all
        | map _ _ _ _ => unfold fitE at hf; split at hf <;> simp_all
      obtain ⟨hs1, hs2, hs3, hs4, hoff, hon⟩ := harr
      have hlt : n.toNat < len := by omega
      have : cap ≠ 0 := by omega
      obtain ⟨honn, haa⟩ := hpl.resolve_left this
      rw [hxe, haa, run_indexAt_slice hu hinf h0 (by omega)]
      refine ⟨_, rfl, ?_, ho, hz⟩
      rw [hv]
      simp only [VR]
      refine ⟨i, hi, honn, by omega, ?_⟩
      rw [hsz, hs1, Nat.add_mul]
      simp only [Nat.add_zero]
      rw [Nat.add_assoc]
    · simp at hr
  · cases hag : (ti.agg && Nat.blt 1 ti.alen)
    · rw [hag] at hr; simp at hr
    rw [hag] at hr
    simp only [Bool.and_eq_true] at hag
    have hal : 1 < ti.alen := by simpa using hag.2
    have hu := hT.arr t ti ht hag.1 (by omega)
    cases he : tyAt ty ti.elem with
    | none => rw [he] at hr; simp at hr
    | some ei =>
      rw [he] at hr
      simp only [cond_true, Option.bind_some] at hr
      cases hb : Nat.blt 0 ei.leaves.length
      · rw [hb] at hr; simp at hr
      rw [hb] at hr
      simp only [cond_true] at hr
      have hn : ei.leaves ≠ [] := by intro e; rw [e] at hb; simp at hb
      obtain ⟨inf, hinf, hsz, _⟩ := hT.info _ _ he hn
      split at hr
      · rename_i id off ha
        have hx := hρ _ _ ha
        obtain ⟨hin, hv, ho, hz⟩ := resIf_eq hr hok
        obtain ⟨h0, h1⟩ := inR_iff.1 hin
        simp only [VR] at hx
        obtain ⟨i, hi, hon, hxe⟩ := hx
        rw [hxe, run_indexAt_array hu hinf h0 h1]
        refine ⟨_, rfl, ?_, ho, hz⟩
        rw [hv]; simp only [VR]
        exact ⟨i, hi, hon, by rw [hsz, Nat.add_assoc]⟩
      · rename_i l ha
        have hx := hρ _ _ ha
        obtain ⟨hin, hv, ho, hz⟩ := resIf_eq hr hok
        obtain ⟨h0, h1⟩ := inR_iff.1 hin
        simp only [VR] at hx
        obtain ⟨b, o, hxe, hM⟩ := hx
        rw [hxe, run_indexAt_array hu hinf h0 h1]
        refine ⟨_, rfl, ?_, ho, hz⟩
        rw [hv]; simp only [VR]
        refine ⟨b, o + n.toNat * ei.leaves.length, by rw [hsz], ?_⟩
        obtain ⟨xs, hCR, hc⟩ := hM.to_CR
        refine MR.of_CR (hCR.drop _) fun j hj => ?_
        simp at hj
        have := hc (n.toNat * ei.leaves.length + j) (by omega)
        rw [Nat.add_assoc]
        simpa using this
      · rename_i id idx off ha
        have hx := hρ _ _ ha
        obtain ⟨hin, hv, ho, hz⟩ := resIf_eq hr hok
        obtain ⟨h0, h1⟩ := inR_iff.1 hin
        simp only [VR] at hx
        obtain ⟨i, hi, hon, hidx, hxe⟩ := hx
        rw [hxe, run_indexAt_array hu hinf h0 h1]
        refine ⟨_, rfl, ?_, ho, hz⟩
        rw [hv]; simp only [VR]
        exact ⟨i, hi, hon, hidx, by rw [hsz, Nat.add_assoc]⟩
      · simp at hr
end
end Go.Vm
end
section
namespace Go.Vm
open Go.RowKit
section
variable {P : Program} {ty : Tys} {c : Ctx} {nx : Nat} {h : Heap} {fz : List Nat} {ρ : Operand → Option V} {ρ' : Operand → Value}
theorem ER.at {t : Tag} {sz b : Nat} : ∀ {l : List V} {o : Nat}, ER ty c t sz l b o → ∀ m (hm : m < l.length), ∃ y, VR ty c l[m] y ∧ y.cells.size = sz ∧
    ∀ j, j < sz → Imm c t b (o + m * sz + j) ∧ c.w.cell? ⟨b, o + m * sz + j, none⟩ = y.cells[j]?
  | [], _, _, m, hm => by simp at hm
  | v :: r, o, hE, m, hm => by
    simp only [ER] at hE
    cases m with
    | zero => simpa using hE.1
    | succ m =>
      obtain ⟨y, hy, hs, hj⟩ := ER.at hE.2 m (by simpa using hm)
      refine ⟨y, hy, hs, fun j hlt => ?_⟩
      have := hj j hlt
      rw [show o + (m + 1) * sz + j = o + sz + m * sz + j from by rw [Nat.succ_mul]; omega]
      exact this
theorem ER.of_at {t : Tag} {sz b : Nat} : ∀ {l : List V} {o : Nat}, (∀ m (hm : m < l.length), ∃ y, VR ty c l[m] y ∧ y.cells.size = sz ∧
    ∀ j, j < sz → Imm c t b (o + m * sz + j) ∧ c.w.cell? ⟨b, o + m * sz + j, none⟩ = y.cells[j]?) → ER ty c t sz l b o
  | [], _, _ => by simp only [ER]
  | v :: r, o, hE => by
    simp only [ER]
    have h0 := hE 0 (by simp)
    simp only [List.getElem_cons_zero, Nat.zero_mul, Nat.add_zero] at h0
    refine ⟨h0, ER.of_at fun m hm => ?_⟩
    obtain ⟨y, hy, hs, hj⟩ := hE (m + 1) (by simpa using hm)
    refine ⟨y, by simpa using hy, hs, fun j hlt => ?_⟩
    have := hj j hlt
    rw [show o + sz + m * sz + j = o + (m + 1) * sz + j from by rw [Nat.succ_mul]; omega]
    exact this
theorem run_sliceBound {k : IntKind} {i : Int} {y : Nat} {code : BoundsCode} {w : World} (h : 0 ≤ i ∧ i ≤ (y : Int)) : (Instr.sliceBound (.int k i) y code).run P w = .ok i.toNat w := by
  unfold Instr.sliceBound
  rw [run_bind (show (asIntOf (.int k i)).run P w = .ok (k, i) w from rfl)]
  simp only []
  rw [if_pos h]; rfl
def slicedV (a : Option Addr) (cap L n size : Nat) : Value := .slice (if cap = L then a else a.map (·.add (L * size))) n (cap - L)
def lowOf : Option Value → Nat
  | some (.int _ i) => i.toNat
  | _ => 0
def hiOf (len : Nat) : Option Value → Nat
  | some (.int _ i) => i.toNat
  | _ => len
def loN : Option Int → Nat
  | some a => a.toNat
  | none => 0
def hiN (n : Nat) : Option Int → Nat
  | some a => a.toNat
  | none => n
theorem run_sliceAt {t e : TypeId} {inf : TypeInfo} {a : Option Addr} {len cap : Nat} {lo hi : Option Value} {w : World} (hu : P.underlying t = some (.slice e)) (hinf : P.info? e = some inf) (hcap : len ≤ cap)
    (hlo : lo = none ∨ ∃ k i, lo = some (.int k i) ∧ 0 ≤ i ∧ i ≤ ((hiOf len hi : Nat) : Int))
    (hhi : hi = none ∨ ∃ k j, hi = some (.int k j) ∧ 0 ≤ j ∧ j ≤ (len : Int)) :
    (Instr.sliceAt t (.slice a len cap) lo hi none).run P w = .ok (slicedV a cap (lowOf lo) (hiOf len hi - lowOf lo) inf.size) w := by
  unfold Instr.sliceAt
  rw [run_bind (run_underlying hu)]
  simp only []
  unfold Instr.slice
  rw [run_bind (run_underlying hu)]
  simp only []
  have hb : (Instr.sliceBounds true len cap lo hi none).run P w = .ok (lowOf lo, hiOf len hi, cap) w := by
    unfold Instr.sliceBounds
    simp only []
    rw [run_bind run_pure]
    rcases hhi with rfl | ⟨k, j, rfl, hj⟩
    · simp only []
      rw [run_bind run_pure]
      rcases hlo with rfl | ⟨k', i, rfl, hi⟩
      · simp only []
        rw [run_bind run_pure]; rfl
      · simp only []
        rw [run_bind (run_sliceBound (y := len) hi)]; rfl
    · simp only []
      rw [run_bind (run_sliceBound ⟨hj.1, by omega⟩)]
      rcases hlo with rfl | ⟨k', i, rfl, hi⟩
      · simp only []
        rw [run_bind run_pure]; rfl
      · simp only []
        rw [run_bind (run_sliceBound (y := j.toNat) hi)]; rfl
  rw [run_bind hb]
  simp only []
  rw [run_bind (run_sizeOf hinf)]; rfl
theorem sliced_ints {t : Tag} {k : IntKind} {l : List Int} {x : Value} {L n : Nat} (hx : VR ty c (.ints t k l) x) (hL : L + n ≤ l.length) :
    ∃ a cap, x = .slice a l.length cap ∧ l.length ≤ cap ∧ VR ty c (.ints t k ((l.drop L).take n)) (slicedV a cap L n 1) := by
  simp only [VR] at hx ⊢
  obtain ⟨a, cap, rfl, hcap, hl⟩ := hx
  have hlen : ((l.drop L).take n).length = n := by simp; omega
  refine ⟨a, cap, rfl, hcap, _, cap - L, by rw [hlen]; rfl, ?_, ?_⟩
  · simp; omega
  by_cases hn : n = 0
  · left; simp [hn]
  · right
    rcases hl with rfl | ⟨b, o, rfl, hc⟩
    · simp at hL; omega
    refine ⟨b, o + L, ?_, fun j hj => ?_⟩
    · have : ¬ cap = L := by omega
      rw [if_neg this]; simp [add_none]
    · have hj' : j < n := by simp at hj; omega
      have := hc (L + j) (by omega)
      rw [Nat.add_assoc]
      simpa using this
theorem sliced_bools {t : Tag} {l : List Bool} {x : Value} {L n : Nat} (hx : VR ty c (.bools t l) x) (hL : L + n ≤ l.length) :
    ∃ a cap, x = .slice a l.length cap ∧ l.length ≤ cap ∧ VR ty c (.bools t ((l.drop L).take n)) (slicedV a cap L n 1) := by
  simp only [VR] at hx ⊢
  obtain ⟨a, cap, rfl, hcap, hl⟩ := hx
  have hlen : ((l.drop L).take n).length = n := by simp; omega
  refine ⟨a, cap, rfl, hcap, _, cap - L, by rw [hlen]; rfl, ?_, ?_⟩
  · simp; omega
  by_cases hn : n = 0
  · left; simp [hn]
  · right
    rcases hl with rfl | ⟨b, o, rfl, hc⟩
    · simp at hL; omega
    refine ⟨b, o + L, ?_, fun j hj => ?_⟩
    · have : ¬ cap = L := by omega
      rw [if_neg this]; simp [add_none]
    · have hj' : j < n := by simp at hj; omega
      have := hc (L + j) (by omega)
      rw [Nat.add_assoc]
      simpa using this
theorem sliced_vals {t : Tag} {e : TypeId} {l : List V} {x : Value} {L n : Nat} {ei : TyI} (hei : tyAt ty e = some ei) (hx : VR ty c (.vals t e l) x) (hL : L + n ≤ l.length) :
    ∃ a cap, x = .slice a l.length cap ∧ l.length ≤ cap ∧ VR ty c (.vals t e ((l.drop L).take n)) (slicedV a cap L n ei.leaves.length) := by
  simp only [VR] at hx ⊢
  obtain ⟨a, cap, ei', rfl, hcap, he, hs, hok, hl⟩ := hx
  rw [hei] at he; cases he
  have hlen : ((l.drop L).take n).length = n := by simp; omega
  refine ⟨a, cap, rfl, hcap, _, cap - L, ei, by rw [hlen]; rfl, ?_, hei, hs, ?_, ?_⟩
  · simp; omega
  · intro v hv
    exact hok v (List.mem_of_mem_drop (List.mem_of_mem_take hv))
  by_cases hn : n = 0
  · left; simp [hn]
  · right
    rcases hl with rfl | ⟨b, o, rfl, hc⟩
    · simp at hL; omega
    refine ⟨b, o + L * ei.leaves.length, ?_, ER.of_at fun m hm => ?_⟩
    · have : ¬ cap = L := by omega
      rw [if_neg this]; simp [add_none]
    · have hm' : m < n := by simp at hm; omega
      obtain ⟨y, hy, hs, hj⟩ := hc.at (L + m) (by omega)
      refine ⟨y, by simpa using hy, hs, fun j hlt => ?_⟩
      have := hj j hlt
      rw [show o + L * ei.leaves.length + m * ei.leaves.length + j = o + (L + m) * ei.leaves.length + j from by rw [Nat.add_mul]; omega]
      exact this
theorem sliced_owns {id off len L n : Nat} {i : Info} {x : Value} (hi : c.μ id = some i) (hx : VR ty c (.owns id off len) x) (hL : L + n ≤ len) :
    ∃ a cap, x = .slice a len cap ∧ len ≤ cap ∧ VR ty c (.owns id (off + L) n) (slicedV a cap L n i.sz) := by
  simp only [VR] at hx ⊢
  obtain ⟨i', a, cap, hi', rfl, hle, hlc, hcap, hpl⟩ := hx
  rw [hi] at hi'; cases hi'
  refine ⟨a, cap, rfl, hlc, i, _, cap - L, hi, rfl, by omega, by omega, by omega, ?_⟩
  by_cases hz : cap - L = 0
  · exact .inl hz
  · right
    obtain ⟨hon, rfl⟩ := hpl.resolve_left (by omega)
    refine ⟨hon, ?_⟩
    have : ¬ cap = L := by omega
    rw [if_neg this]
    simp [add_none, Nat.add_mul, Nat.add_assoc]
theorem own_owns {id : Nat} {i : Info} {f : Bool} {sz len : Nat} {x : Value} (hi : c.μ id = some i) (ha : ArrOk c f i sz len) (hx : VR ty c (.own id) x) : VR ty c (.owns id 0 len) x := by
  simp only [VR] at hx ⊢
  obtain ⟨i', hi', rfl⟩ := hx
  rw [hi] at hi'; cases hi'
  obtain ⟨hs1, hs2, hs3, hs4, hoff, hon⟩ := ha
  refine ⟨i, i.a, i.cap, hi, by rw [hs3], by omega, by omega, by omega, ?_⟩
  cases hh : i.on with
  | false => exact .inl (hoff hh)
  | true => right; exact ⟨rfl, by simpa using (hon hh).1⟩
theorem arr_of (hT : TyOk P ty) {e : TypeId} {ob : Obj} {i : Info} {f : Bool} (hf : fitE ty e ob = true) (hO : OR ty c f i ob) : ∃ ei inf, tyAt ty e = some ei ∧ P.info? e = some inf ∧ inf.size = ei.leaves.length ∧ inf.bytes = ei.bytes ∧ ei.leaves ≠ [] ∧ ArrOk c f i ei.leaves.length ob.len := by
  obtain ⟨ei, inf, hei, hinf, hsz, hn, hb, hk1, hk2, hk3⟩ := fit_size hT hf
  refine ⟨ei, inf, hei, hinf, hsz, hb, hn, ?_⟩
  cases ob with
  | ints k l => rw [hk1 _ _ rfl]; exact hO.1
  | bools l => rw [hk2 _ rfl]; exact hO.1
  | vals e' l =>
    obtain rfl := hk3 _ _ rfl
    obtain ⟨ei', he', _, _, harr, _⟩ := hO
    rw [hei] at he'; cases he'
    exact harr
  | cells l => unfold fitE at hf; split at hf <;> simp_all
  | map _ _ _ _ => unfold fitE at hf; split at hf <;> simp_all
theorem sliceFixed_eq {n : Nat} {i j : Option Int} {mk : Nat → Nat → V} {idv : V} {fr to : Nat → V} {r : Res} (hr : sliceFixed n i j mk idv fr to = some r) (hok : r.ok = true)
    (h1 : ∀ a, a ≤ n → fr a = mk a (n - a)) (h2 : ∀ b, b ≤ n → to b = mk 0 b) (h3 : idv = mk 0 n) :
    r.v = mk (loN i) (hiN n j - loN i) ∧ r.objs = [] ∧ r.fz = [] ∧ loN i ≤ hiN n j ∧ hiN n j ≤ n ∧ (∀ a, i = some a → 0 ≤ a ∧ a ≤ ((hiN n j : Nat) : Int)) ∧ (∀ b, j = some b → 0 ≤ b ∧ b ≤ (n : Int)) := by
  cases i with
  | none => cases j with
    | none =>
      obtain ⟨hv, ho, hz⟩ := res_eq hr
      exact ⟨by rw [hv, h3]; rfl, ho, hz, by simp [loN], by simp [hiN], by simp, by simp⟩
    | some b =>
      obtain ⟨hc, hv, ho, hz⟩ := resIf_eq hr hok
      obtain ⟨_, g1, g2⟩ := inS_iff.1 hc
      exact ⟨by rw [hv, h2 _ (by omega)]; rfl, ho, hz, by simp [loN], by simp only [hiN]; omega, by simp, by intro b' hb; cases hb; exact ⟨g1, g2⟩⟩
  | some a => cases j with
    | none =>
      obtain ⟨hc, hv, ho, hz⟩ := resIf_eq hr hok
      unfold lenI at hc
      obtain ⟨g0, g1, g2⟩ := inS_iff.1 hc
      exact ⟨by rw [hv, h1 _ (by omega)]; rfl, ho, hz, by simp only [loN, hiN]; omega, by simp [hiN], by intro a' ha; cases ha; exact ⟨g0, g1⟩, by simp⟩
    | some b =>
      obtain ⟨hc, hv, ho, hz⟩ := resIf_eq hr hok
      obtain ⟨g0, g1, g2⟩ := inS_iff.1 hc
      exact ⟨hv, ho, hz, by simp only [loN, hiN]; omega, by simp only [hiN]; omega, by intro a' ha; cases ha; exact ⟨g0, by simp only [hiN]; omega⟩, by intro b' hb; cases hb; exact ⟨by omega, g2⟩⟩
theorem idxOf_eq (hρ : ∀ o v, ρ o = some v → VR ty c v (ρ' o)) {o : Option Operand} {i : Option Int} (h : idxOf ρ o = some i) :
    (i = none ∧ o.map ρ' = none) ∨ ∃ k a, i = some a ∧ o.map ρ' = some (.int k a) := by
  unfold idxOf at h
  cases o with
  | none => simp at h; exact .inl ⟨h.symm, rfl⟩
  | some o =>
    simp only [] at h
    split at h
    · rename_i k a ho
      have := hρ _ _ ho
      rw [vr_int] at this
      simp at h
      exact .inr ⟨k, a, h.symm, by simp [this]⟩
    · simp at h
theorem slice_sound (hT : TyOk P ty) (H : HeapOk ty c h fz) (hρ : ∀ o v, ρ o = some v → VR ty c v (ρ' o)) {t rty : TypeId} {a : Operand} {lo hi : Option Operand} {r : Res}
    (hr : front ty h nx ρ rty (.slice t a lo hi none) = some r) (hok : r.ok = true) :
    ∃ x, (Instr.sliceAt t (ρ' a) (lo.map ρ') (hi.map ρ') none).run P c.w = .ok x c.w ∧ VR ty c r.v x ∧ r.objs = [] ∧ r.fz = [] := by
  simp only [front] at hr
  split at hr
  case h_2 => simp at hr
  rename_i e i j he hlo hhi
  have hu := hT.sl t e he
  have run : ∀ (aa : Option Addr) (len cap : Nat) (inf : TypeInfo), P.info? e = some inf → len ≤ cap →
      (∀ x, i = some x → 0 ≤ x ∧ x ≤ ((hiN len j : Nat) : Int)) → (∀ x, j = some x → 0 ≤ x ∧ x ≤ (len : Int)) →
      (Instr.sliceAt t (.slice aa len cap) (lo.map ρ') (hi.map ρ') none).run P c.w =
        .ok (slicedV aa cap (loN i) (hiN len j - loN i) inf.size) c.w := by
    intro aa len cap inf hinf hcap h1 h2
    rcases idxOf_eq hρ hlo with ⟨rfl, e1⟩ | ⟨k1, a1, rfl, e1⟩ <;> rcases idxOf_eq hρ hhi with ⟨rfl, e2⟩ | ⟨k2, a2, rfl, e2⟩ <;> rw [e1, e2]
    · exact run_sliceAt hu hinf hcap (.inl rfl) (.inl rfl)
    · exact run_sliceAt hu hinf hcap (.inl rfl) (.inr ⟨k2, a2, rfl, h2 _ rfl⟩)
    · exact run_sliceAt hu hinf hcap (.inr ⟨k1, a1, rfl, h1 _ rfl⟩) (.inl rfl)
    · exact run_sliceAt hu hinf hcap (.inr ⟨k1, a1, rfl, h1 _ rfl⟩) (.inr ⟨k2, a2, rfl, h2 _ rfl⟩)
  split at hr
  · rename_i tg k l ha
    have hx := hρ _ _ ha
    cases hf : fitE ty e (.ints k l)
    · rw [hf] at hr; simp at hr
    rw [hf] at hr
    obtain ⟨ei, inf, hei, hinf, hsz, hn, _, hk, _⟩ := fit_size hT hf
    obtain ⟨hv, ho, hz, g1, g2, g3, g4⟩ := sliceFixed_eq (by simpa only [cond_true] using hr) hok (fun a _ => by rw [List.take_of_length_le (by simp)]) (fun b _ => by simp) (by simp)
    obtain ⟨aa, cap, hxe, hcap, hvr⟩ := sliced_ints hx (L := loN i) (n := hiN l.length j - loN i) (by omega)
    rw [hxe, run _ _ _ _ hinf hcap g3 g4, hv, hsz, hk _ _ rfl]
    exact ⟨_, rfl, hvr, ho, hz⟩
  · rename_i tg l ha
    have hx := hρ _ _ ha
    cases hf : fitE ty e (.bools l)
    · rw [hf] at hr; simp at hr
    rw [hf] at hr
    obtain ⟨ei, inf, hei, hinf, hsz, hn, _, _, hk, _⟩ := fit_size hT hf
    obtain ⟨hv, ho, hz, g1, g2, g3, g4⟩ := sliceFixed_eq (by simpa only [cond_true] using hr) hok (fun a _ => by rw [List.take_of_length_le (by simp)]) (fun b _ => by simp) (by simp)
    obtain ⟨aa, cap, hxe, hcap, hvr⟩ := sliced_bools hx (L := loN i) (n := hiN l.length j - loN i) (by omega)
    rw [hxe, run _ _ _ _ hinf hcap g3 g4, hv, hsz, hk _ rfl]
    exact ⟨_, rfl, hvr, ho, hz⟩
  · rename_i tg e' l ha
    have hx := hρ _ _ ha
    cases hf : fitE ty e (.vals e' l)
    · rw [hf] at hr; simp at hr
    rw [hf] at hr
    obtain ⟨_, rfl⟩ := fit_vals hf
    obtain ⟨ei, inf, hei, hinf, hsz, hn, _⟩ := fit_size hT hf
    obtain ⟨hv, ho, hz, g1, g2, g3, g4⟩ := sliceFixed_eq (by simpa only [cond_true] using hr) hok (fun a _ => by rw [List.take_of_length_le (by simp)]) (fun b _ => by simp) (by simp)
    obtain ⟨aa, cap, hxe, hcap, hvr⟩ := sliced_vals hei hx (L := loN i) (n := hiN l.length j - loN i) (by omega)
    rw [hxe, run _ _ _ _ hinf hcap g3 g4, hv, hsz]
    exact ⟨_, rfl, hvr, ho, hz⟩
  · rename_i id ha
    have hx := hρ _ _ ha
    split at hr
    case h_2 => simp at hr
    rename_i ob hg
    cases hf : fitE ty e ob
    · rw [hf] at hr; simp at hr
    rw [hf] at hr
    have hx' := hx
    simp only [VR] at hx'
    obtain ⟨ii, hi', _⟩ := hx'
    obtain ⟨ei, inf, hei, hinf, hsz, _, hn, harr⟩ := arr_of hT hf (H.hp id _ ii hg hi')
    have hx2 := own_owns hi' harr hx
    simp only [cond_true] at hr
    by_cases hwhole : i = none ∧ j = none
    · obtain ⟨rfl, rfl⟩ := hwhole
      obtain ⟨hv, ho, hz⟩ := res_eq hr
      obtain ⟨aa, cap, hxe, hcap, hvr⟩ := sliced_owns hi' hx2 (L := 0) (n := ob.len) (by omega)
      refine ⟨ρ' a, ?_, by rw [hv]; exact hx, ho, hz⟩
      rw [hxe, run aa ob.len cap inf hinf hcap (by simp) (by simp)]
      simp only [slicedV, loN, hiN, Nat.sub_zero, Nat.zero_mul]
      congr 2
      split
      · rfl
      · cases aa <;> rfl
    · have hr' : sliceFixed ob.len i j (fun a n => .owns id a n) (.owns id 0 ob.len) (fun a => .owns id a (ob.len - a)) (fun b => .owns id 0 b) = some r := by
        cases i <;> cases j <;> first | exact absurd ⟨rfl, rfl⟩ hwhole | exact hr
      obtain ⟨hv, ho, hz, g1, g2, g3, g4⟩ := sliceFixed_eq hr' hok (fun a _ => rfl) (fun b _ => rfl) rfl
      obtain ⟨aa, cap, hxe, hcap, hvr⟩ := sliced_owns hi' hx2 (L := loN i) (n := hiN ob.len j - loN i) (by omega)
      rw [hxe, run _ _ _ _ hinf hcap g3 g4, hv, hsz, ← harr.1]
      refine ⟨_, rfl, ?_, ho, hz⟩
      simpa using hvr
  · rename_i id off len ha
    have hx := hρ _ _ ha
    split at hr
    case h_2 => simp at hr
    rename_i ob hg
    cases hf : fitE ty e ob
    · rw [hf] at hr; simp at hr
    rw [hf] at hr
    have hx' := hx
    simp only [VR] at hx'
    obtain ⟨ii, _, _, hi', _⟩ := hx'
    obtain ⟨ei, inf, hei, hinf, hsz, _, hn, harr⟩ := arr_of hT hf (H.hp id _ ii hg hi')
    simp only [cond_true] at hr
    obtain ⟨hv, ho, hz, g1, g2, g3, g4⟩ := sliceFixed_eq hr hok (fun a _ => rfl) (fun b _ => by simp) (by simp)
    obtain ⟨aa, cap, hxe, hcap, hvr⟩ := sliced_owns hi' hx (L := loN i) (n := hiN len j - loN i) (by omega)
    rw [hxe, run _ _ _ _ hinf hcap g3 g4, hv, hsz, ← harr.1]
    exact ⟨_, rfl, hvr, ho, hz⟩
  · simp at hr
end
end Go.Vm
end
section
namespace Go.Vm
open Go.RowKit
theorem setAt_length {α : Type} : ∀ (l : List α) (n : Nat) (xs : List α), (setAt l n xs).length = l.length
  | [], _, _ => rfl
  | _ :: _, 0, [] => rfl
  | _ :: r, 0, x :: xs => by simp [setAt, setAt_length r 0 xs]
  | _ :: r, n + 1, xs => by simp [setAt, setAt_length r n xs]
theorem setAt_get {α : Type} : ∀ (l : List α) (n : Nat) (xs : List α) (j : Nat) (h : j < (setAt l n xs).length) (h' : j < l.length),
    (setAt l n xs)[j] = if h : n ≤ j ∧ j - n < xs.length then xs[j - n]'h.2 else l[j]
  | [], _, _, j, _, h' => absurd h' (by simp)
  | c :: r, 0, [], j, _, _ => by simp [setAt]
  | c :: r, 0, x :: xs, j, h, h' => by
    cases j with
    | zero => simp [setAt]
    | succ j =>
      have := setAt_get r 0 xs j (by simpa [setAt] using h) (by simpa using h')
      simp only [setAt, List.getElem_cons_succ, this]
      simp
  | c :: r, n + 1, xs, j, h, h' => by
    cases j with
    | zero => simp [setAt]
    | succ j =>
      have := setAt_get r n xs j (by simpa [setAt] using h) (by simpa using h')
      simp only [setAt, List.getElem_cons_succ, this]
      simp only [Nat.add_le_add_iff_right, Nat.add_sub_add_right]
theorem foldl_set_from : ∀ (ys : List Value) (off k : Nat) (cs : Array Value),
    ((ys.zipIdx k).foldl (fun cs (c, j) => cs.setIfInBounds (off + j) c) cs).toList = setAt cs.toList (off + k) ys
  | [], off, k, cs => by
    have : ∀ (l : List Value) (n : Nat), setAt l n [] = l := by
      intro l
      induction l with
      | nil => intro n; rfl
      | cons c r ih => intro n; cases n with
        | zero => rfl
        | succ n => simp [setAt, ih]
    simp [this]
  | y :: ys, off, k, cs => by
    simp only [List.zipIdx_cons, List.foldl_cons]
    rw [foldl_set_from ys off (k + 1) _]
    have : ∀ (l : List Value) (n : Nat), setAt (l.set n y) (n + 1) ys = setAt l n (y :: ys) := by
      intro l
      induction l with
      | nil => intro n; rfl
      | cons c r ih => intro n; cases n with
        | zero => simp [setAt]
        | succ n => simp [setAt, ih]
    rw [← this]
    simp [Nat.add_assoc]
theorem foldl_set {cs ys : Array Value} {off : Nat} : (ys.zipIdx.foldl (fun cs (c, j) => cs.setIfInBounds (off + j) c) cs).toList = setAt cs.toList off ys.toList := by
  have := foldl_set_from ys.toList off 0 cs
  rw [← Array.foldl_toList, Array.toList_zipIdx]
  simpa using this
section
variable {P : Program} {ty : Tys} {c : Ctx} {nx : Nat} {h : Heap} {fz : List Nat} {ρ : Operand → Option V} {ρ' : Operand → Value}
theorem CR.setAt {l vs : List V} {xs ys : List Value} (hl : CR ty c l xs) (hv : CR ty c vs ys) (n : Nat) : CR ty c (setAt l n vs) (Vm.setAt xs n ys) :=
  CR.of_at (by simp [setAt_length, hl.len]) fun j h1 h2 => by
    rw [setAt_length] at h1 h2
    rw [setAt_get _ _ _ _ _ h1, setAt_get _ _ _ _ _ h2]
    by_cases hc : n ≤ j ∧ j - n < vs.length
    · rw [dif_pos hc, dif_pos ⟨hc.1, by rw [hv.len]; exact hc.2⟩]
      exact hv.at _ _ _
    · rw [dif_neg hc, dif_neg (by rw [hv.len]; exact hc)]
      exact hl.at _ _ _
def nilInfo (sz : Nat) : Info := { a := none, len := 0, cap := 0, on := false, sz }
theorem emptyObj_OR {e : TypeId} {o : Obj} (h : emptyObj ty e = some o) : ∃ sz, ∀ c : Ctx, OR ty c false (nilInfo sz) o := by
  unfold emptyObj at h
  cases hs : shOf ty e with
  | none => rw [hs] at h; simp at h
  | some s =>
    rw [hs] at h
    cases s with
    | ints k => simp at h; subst h; exact ⟨1, fun c => ⟨⟨rfl, by omega, rfl, by simp [nilInfo], fun _ => rfl, fun hh => by simp [nilInfo] at hh⟩, fun j hj => absurd hj (by simp)⟩⟩
    | bools => simp at h; subst h; exact ⟨1, fun c => ⟨⟨rfl, by omega, rfl, by simp [nilInfo], fun _ => rfl, fun hh => by simp [nilInfo] at hh⟩, fun j hj => absurd hj (by simp)⟩⟩
    | vals =>
      simp at h; subst h
      obtain ⟨ei, he, hn⟩ := shOf_ty hs
      refine ⟨ei.leaves.length, fun c => ⟨ei, he, hs, by simp, ⟨rfl, ?_, rfl, by simp [nilInfo], fun _ => rfl, fun hh => by simp [nilInfo] at hh⟩, fun j hj => absurd hj (by simp)⟩⟩
      exact List.length_pos_iff.2 hn
theorem zeroCells_ok : ∀ (ls : List Leaf) (nx : Nat) (vs : List V) (os : List Obj), zeroCells ty ls nx = some (vs, os) →
    ∃ is : List Info, is.length = os.length ∧ (∀ i ∈ is, ∃ sz, i = nilInfo sz) ∧ (∀ c k (h : k < is.length) (h' : k < os.length), OR ty c false is[k] os[k]) ∧
      ∀ c : Ctx, (∀ k (h : k < is.length), c.μ (nx + k) = some is[k]) → CR ty c vs (ls.map zeroVal)
  | [], nx, vs, os, h => by
    simp [zeroCells] at h
    obtain ⟨rfl, rfl⟩ := h
    exact ⟨[], rfl, by simp, fun c k h => absurd h (by simp), fun c _ => by simp [CR]⟩
  | l :: r, nx, vs, os, h => by
    have plain : ∀ (v : V), (∀ c, VR ty c v (zeroVal l)) → isCell (zeroVal l) → (zeroCells ty r nx).map (fun p => (v :: p.1, p.2)) = some (vs, os) →
        ∃ is : List Info, is.length = os.length ∧ (∀ i ∈ is, ∃ sz, i = nilInfo sz) ∧ (∀ c k (h : k < is.length) (h' : k < os.length), OR ty c false is[k] os[k]) ∧
      ∀ c : Ctx, (∀ k (h : k < is.length), c.μ (nx + k) = some is[k]) → CR ty c vs ((l :: r).map zeroVal) := by
      intro v hv hc hm
      cases hz : zeroCells ty r nx with
      | none => rw [hz] at hm; simp at hm
      | some p =>
        rw [hz] at hm
        simp at hm
        obtain ⟨rfl, rfl⟩ := hm
        obtain ⟨is, h1, h2, h3, h4⟩ := zeroCells_ok r nx p.1 p.2 hz
        exact ⟨is, h1, h2, h3, fun c hk => by simp only [List.map_cons, CR]; exact ⟨_, _, rfl, hv c, hc, h4 c hk⟩⟩
    cases l with
    | sl e =>
      simp only [zeroCells] at h
      split at h
      · rename_i o vs' os' ho hz
        simp at h
        obtain ⟨rfl, rfl⟩ := h
        obtain ⟨sz, hO⟩ := emptyObj_OR ho
        obtain ⟨is, h1, h2, h3, h4⟩ := zeroCells_ok r (nx + 1) vs' os' hz
        refine ⟨nilInfo sz :: is, by simp [h1], ?_, ?_, ?_⟩
        · intro i hi
          rcases List.mem_cons.1 hi with rfl | hi
          · exact ⟨sz, rfl⟩
          · exact h2 i hi
        · intro c k hk hk'
          cases k with
          | zero => exact hO c
          | succ k => exact h3 c k (by simpa using hk) (by simpa using hk')
        · intro c hk
          simp only [List.map_cons, CR]
          refine ⟨_, _, rfl, ?_, trivial, h4 c fun k hlt => ?_⟩
          · simp only [VR]
            have h0 := hk 0 (by simp)
            simp only [List.getElem_cons_zero, Nat.add_zero] at h0
            exact ⟨nilInfo sz, h0, rfl⟩
          · have := hk (k + 1) (by simpa using hlt)
            rw [show nx + 1 + k = nx + (k + 1) from by omega]
            simpa using this
      · simp at h
    | bool => exact plain (.bool false) (fun c => by simp only [VR]; rfl) trivial (by simpa only [zeroCells] using h)
    | int k => exact plain (.int k 0) (fun c => by simp only [VR]; rfl) trivial (by simpa only [zeroCells] using h)
    | fn => exact plain .nilfn (fun c => by simp only [VR]; rfl) trivial (by simpa only [zeroCells] using h)
    | ptr => exact plain .nilp (fun c => by simp only [VR]; rfl) trivial (by simpa only [zeroCells] using h)
    | mp => exact plain .nilmp (fun c => by simp only [VR]; rfl) trivial (by simpa only [zeroCells] using h)
    | str => simp [zeroCells] at h
def newCtx (c : Ctx) (nx : Nat) (w : World) (is : List Info) : Ctx := { w, base := c.base, F := c.F, I := c.I, μ := updM c.μ nx is }
theorem newCtx_μ {w : World} {is : List Info} {k : Nat} (h : k < is.length) : (newCtx c nx w is).μ (nx + k) = some is[k] := by
  simp [newCtx, updM, h]
theorem newCtx_ext_same {is : List Info} (hf : Fr c.μ nx is.length) : Ext c (newCtx c nx c.w is) where
  base := rfl
  fr := rfl
  below := Below.refl _ _
  keeps := fun _ _ _ => rfl
  hI := fun _ _ h => h
  hnew := fun _ _ h => .inl h
  hcell := fun _ _ _ => rfl
  hμ := fun id i h => by
    have : ¬ (nx ≤ id ∧ id < nx + is.length) := fun g => by rw [hf id g.1 g.2] at h; cases h
    show updM _ _ _ _ = _
    unfold updM
    rw [if_neg this, h]
theorem newCtx_ext_alloc {is : List Info} {o : Go.Obj} (hf : Fr c.μ nx is.length) (hb : Room c) (ib : ∀ b o, c.I b o → b < c.w.heap.size) :
    Ext c (newCtx c nx (c.w.alloc o) is) where
  base := rfl
  fr := rfl
  below := (Below.refl _ _).alloc hb.1 _
  keeps := fun b hb _ => alloc_old hb
  hI := fun _ _ h => h
  hnew := fun _ _ h => .inl h
  hcell := fun b o h => by
    show (c.w.alloc _).cell? _ = _
    exact World.cell?_of_block (alloc_old (ib b o h))
  hμ := fun id i h => by
    have : ¬ (nx ≤ id ∧ id < nx + is.length) := fun g => by rw [hf id g.1 g.2] at h; cases h
    show updM _ _ _ _ = _
    unfold updM
    rw [if_neg this, h]
theorem FrontOk.nils {r : Res} {x : Value} {is : List Info} (hf : Fr c.μ nx r.objs.length) (hlen : is.length = r.objs.length)
    (hnil : ∀ i ∈ is, ∃ sz, i = nilInfo sz) (hO : ∀ c k (h : k < is.length) (h' : k < r.objs.length), OR ty c false is[k] r.objs[k])
    (hv : VR ty (newCtx c nx c.w is) r.v x) : FrontOk ty c h nx r (newCtx c nx c.w is) x where
  ext := newCtx_ext_same (by rw [hlen]; exact hf)
  vr := hv
  infos := ⟨is, hlen, rfl, fun k h h' => hO _ k h h', fun i hi hon => by
    obtain ⟨sz, rfl⟩ := hnil i hi
    simp [nilInfo] at hon, by
    refine List.Pairwise.imp_of_mem ?_ (List.pairwise_of_forall (R := fun _ _ => True) fun _ _ => trivial)
    intro a b ha _ _ hon
    obtain ⟨sz, rfl⟩ := hnil a ha
    simp [nilInfo] at hon⟩
  hI := fun _ _ h => .inl h
  old := fun _ _ => rfl
theorem FrontOk.block {r : Res} {x : Value} {i : Info} {is : List Info} {o : Go.Obj} (hf : Fr c.μ nx r.objs.length) (hb : Room c)
    (ib : ∀ b o, c.I b o → b < c.w.heap.size) (hlen : (i :: is).length = r.objs.length) (hib : i.b = c.w.heap.size)
    (hnil : ∀ i ∈ is, ∃ sz, i = nilInfo sz) (h0 : ∀ h', OR ty (newCtx c nx (c.w.alloc o) (i :: is)) false i (r.objs[0]'h'))
    (hO : ∀ c k (h : k < is.length) (h' : k + 1 < r.objs.length), OR ty c false is[k] r.objs[k + 1])
    (hv : VR ty (newCtx c nx (c.w.alloc o) (i :: is)) r.v x) : FrontOk ty c h nx r (newCtx c nx (c.w.alloc o) (i :: is)) x where
  ext := newCtx_ext_alloc (by rw [hlen]; exact hf) hb ib
  vr := hv
  infos := ⟨i :: is, hlen, rfl, fun k h h' => by
      cases k with
      | zero => exact h0 h'
      | succ k => exact hO _ k (by simpa using h) h', fun j hj hon => by
      rcases List.mem_cons.1 hj with rfl | hj
      · omega
      · obtain ⟨sz, rfl⟩ := hnil j hj
        simp [nilInfo] at hon, by
    refine List.pairwise_cons.2 ⟨fun j hj _ hon => ?_, List.Pairwise.imp_of_mem ?_ (List.pairwise_of_forall (R := fun _ _ => True) fun _ _ => trivial)⟩
    · obtain ⟨sz, rfl⟩ := hnil j hj
      simp [nilInfo] at hon
    · intro a b ha _ _ hon
      obtain ⟨sz, rfl⟩ := hnil a ha
      simp [nilInfo] at hon⟩
  hI := fun _ _ h => .inl h
  old := fun b hlt => alloc_old hlt
end
end Go.Vm
end
section
namespace Go.Vm
open Go.RowKit
section
variable {P : Program} {ty : Tys} {c : Ctx} {nx : Nat} {h : Heap} {fz : List Nat} {ρ : Operand → Option V} {ρ' : Operand → Value}
theorem move_sound (hρ : ∀ o v, ρ o = some v → VR ty c v (ρ' o)) {r : Res} (hf : Fr c.μ nx r.objs.length) {rty : TypeId} {x : Operand}
    (hr : front ty h nx ρ rty (.move x) = some r) : FrontGoal P ty c h nx (pure (.value (ρ' x))) r := by
  simp only [front] at hr
  split at hr
  · rename_i hx
    have hv := hρ _ _ hx
    simp only [VR] at hv
    cases he : slElem ty rty with
    | none => rw [he] at hr; simp at hr
    | some e =>
      rw [he] at hr
      cases ho : emptyObj ty e with
      | none => simp [ho] at hr
      | some o =>
        simp [ho] at hr
        subst hr
        obtain ⟨sz, hO⟩ := emptyObj_OR ho
        refine ⟨newCtx c nx c.w [nilInfo sz], ρ' x, rfl, FrontOk.nils hf rfl (fun i hi => ⟨sz, by simpa using hi⟩) ?_ ?_⟩
        · intro c k hk hk'
          have : k = 0 := by simp at hk; omega
          subst this
          exact hO c
        · simp only [VR]
          exact ⟨nilInfo sz, by simp [newCtx, updM], hv⟩
  · rename_i v _ hx
    obtain ⟨hv, ho, _⟩ := res_eq hr
    exact goal_pure (hv ▸ hρ _ _ hx) ho
  · simp at hr
theorem pick_sound (hρ : ∀ o v, ρ o = some v → VR ty c v (ρ' o)) {r : Res} {rty : TypeId} {x a b : Operand}
    (hr : front ty h nx ρ rty (.pick x a b) = some r) (hok : r.ok = true) :
    FrontGoal P ty c h nx (do pure (.value (if ← asBool (ρ' x) then ρ' a else ρ' b))) r := by
  simp only [front] at hr
  split at hr
  case h_2 => simp at hr
  rename_i cb hc
  have hcv := hρ _ _ hc
  rw [vr_bool] at hcv
  have hrun : ((do pure (Next.value (if ← asBool (ρ' x) then ρ' a else ρ' b))) : Sem Next).run P c.w = .ok (.value (if cb then ρ' a else ρ' b)) c.w := by
    rw [hcv]; rfl
  split at hr
  · rename_i p q ha hb
    obtain ⟨hv, ho, _⟩ := res_eq hr
    refine ⟨c, _, hrun, FrontOk.same ?_ ho⟩
    rw [hv]
    have h1 := hρ _ _ ha
    have h2 := hρ _ _ hb
    rw [vr_bool] at h1 h2 ⊢
    cases cb <;> simp [h1, h2]
  · rename_i p ha _
    obtain ⟨hcb, hv, ho, _⟩ := resIf_eq hr hok
    refine ⟨c, _, hrun, FrontOk.same ?_ ho⟩
    rw [hv, hcb]
    exact hρ _ _ ha
  · rename_i q hb _
    obtain ⟨hcb, hv, ho, _⟩ := resIf_eq hr hok
    refine ⟨c, _, hrun, FrontOk.same ?_ ho⟩
    have : cb = false := by unfold notB at hcb; simpa using hcb
    rw [hv, this]
    exact hρ _ _ hb
  · simp at hr
theorem nilCheck_sound (hρ : ∀ o v, ρ o = some v → VR ty c v (ρ' o)) {r : Res} {rty : TypeId} {x : Operand} {o : Oper} (ho : o.op = .nilCheck x)
    (hr : front ty h nx ρ rty (.nilCheck x) = some r) : FrontGoal P ty c h nx (execOp ρ' o) r := by
  simp only [front] at hr
  have key : ∀ v, ρ x = some v → (∃ a, ρ' x = .pointer (some a)) ∨ (∃ f p q, ρ' x = .func (.func f) p q) → res v = some r → FrontGoal P ty c h nx (execOp ρ' o) r := by
    intro v hv hform hrv
    obtain ⟨hvv, hob, _⟩ := res_eq hrv
    refine ⟨c, ρ' x, ?_, FrontOk.same (hvv ▸ hρ _ _ hv) hob⟩
    rcases hform with ⟨a, e⟩ | ⟨f, p, q, e⟩ <;> simp only [execOp, ho, e] <;> rfl
  split at hr
  · rename_i id off hv
    have := hρ _ _ hv
    simp only [VR] at this
    obtain ⟨i, _, _, e⟩ := this
    exact key _ hv (.inl ⟨_, e⟩) hr
  · rename_i l hv
    have := hρ _ _ hv
    simp only [VR] at this
    obtain ⟨b, o, e, _⟩ := this
    exact key _ hv (.inl ⟨_, e⟩) hr
  · rename_i id idx off hv
    have := hρ _ _ hv
    simp only [VR] at this
    obtain ⟨i, _, _, _, e⟩ := this
    exact key _ hv (.inl ⟨_, e⟩) hr
  · rename_i f p q hv
    have := hρ _ _ hv
    simp only [VR] at this
    obtain ⟨ps, qs, e, _⟩ := this
    exact key _ hv (.inr ⟨_, _, _, e⟩) hr
  · simp at hr
theorem unOp_sound (hρ : ∀ o v, ρ o = some v → VR ty c v (ρ' o)) {op : UnOp} {t rty : TypeId} {x : Operand} {r : Res}
    (hr : front ty h nx ρ rty (.unOp op t x) = some r) : ∃ v, (Op.unary op (ρ' x)).run P c.w = .ok v c.w ∧ VR ty c r.v v ∧ r.objs = [] := by
  simp only [front] at hr
  split at hr
  · rename_i b hx
    have := hρ _ _ hx
    rw [vr_bool] at this
    obtain ⟨hv, ho, _⟩ := res_eq hr
    rw [this]
    exact ⟨_, rfl, by rw [hv, vr_bool]; rfl, ho⟩
  · rename_i k n hx
    have := hρ _ _ hx
    rw [vr_int] at this
    obtain ⟨hv, ho, _⟩ := res_eq hr
    rw [this]
    exact ⟨_, rfl, by rw [hv, vr_int]; rfl, ho⟩
  · simp at hr
theorem convert_sound (hT : TyOk P ty) (hρ : ∀ o v, ρ o = some v → VR ty c v (ρ' o)) {s d rty : TypeId} {x : Operand} {r : Res}
    (hr : front ty h nx ρ rty (.convert s d x) = some r) : ∃ v, (convert s d (ρ' x)).run P c.w = .ok v c.w ∧ VR ty c r.v v ∧ r.objs = [] := by
  simp only [front] at hr
  split at hr
  case h_2 => simp at hr
  rename_i si ti k n hs hd hx
  split at hr
  case h_2 => simp at hr
  rename_i a l k' hsl hag hlv
  have := hρ _ _ hx
  rw [vr_int] at this
  obtain ⟨hv, ho, _⟩ := res_eq hr
  rw [this]
  have hne : si.leaves ≠ [] := by rw [hsl]; simp
  have hsu : ∃ du, P.underlying s = some du := by
    have := hT.agg s si hs hne
    unfold isAggP at this
    cases hu : P.underlying s with
    | none => rw [hu] at this; simp at this
    | some du => exact ⟨du, rfl⟩
  obtain ⟨du, hsu⟩ := hsu
  have hdu := hT.int d ti k' hd hag hlv
  refine ⟨.int k' (k'.wrap n), ?_, by rw [hv, vr_int]; rfl, ho⟩
  unfold convert
  rw [run_bind (run_underlying hsu), run_bind (run_underlying hdu)]
  rfl
theorem allOf_sound (hρ : ∀ o v, ρ o = some v → VR ty c v (ρ' o)) : ∀ (os : List Operand) (l : List V), front.allOf ρ os = some l → LR ty c l (os.map ρ')
  | [], l, h => by simp [front.allOf] at h; subst h; simp [LR]
  | o :: r, l, h => by
    simp only [front.allOf] at h
    split at h
    · rename_i v s hv hs
      simp at h; subst h
      simp only [List.map_cons, LR]
      exact ⟨_, _, rfl, hρ _ _ hv, allOf_sound hρ r s hs⟩
    · simp at h
theorem makeFunc_sound (hρ : ∀ o v, ρ o = some v → VR ty c v (ρ' o)) {f : Fn} {a b : Array Operand} {rty : TypeId} {r : Res}
    (hr : front ty h nx ρ rty (.makeFunc f a b) = some r) : ∃ v, (Instr.makeFunc f (a.map ρ') (b.map ρ')).run P c.w = .ok v c.w ∧ VR ty c r.v v ∧ r.objs = [] := by
  simp only [front] at hr
  split at hr
  case h_2 => simp at hr
  rename_i g
  split at hr
  case h_2 => simp at hr
  rename_i p q hp hq
  obtain ⟨hv, ho, _⟩ := res_eq hr
  refine ⟨_, rfl, ?_, ho⟩
  rw [hv]; simp only [VR]
  exact ⟨_, _, rfl, by simpa using allOf_sound hρ _ _ hp, by simpa using allOf_sound hρ _ _ hq⟩
theorem run_part_cell {t : TypeId} {cs : Array Value} {off : Nat} {x : Value} {w : World} (ha : isAggP P t = some false) (hx : cs[off]? = some x) : (part t cs off).run P w = .ok x w := by
  unfold part
  rw [run_bind (run_isAgg ha), if_neg (by simp)]
  simp only [hx]; rfl
theorem run_part_agg {t : TypeId} {cs : Array Value} {off : Nat} {inf : TypeInfo} {w : World} (ha : isAggP P t = some true) (hi : P.info? t = some inf) :
    (part t cs off).run P w = .ok (.agg (cs.extract off (off + inf.size))) w := by
  unfold part
  rw [run_bind (run_isAgg ha), if_pos rfl, run_bind (run_sizeOf hi)]; rfl
theorem part_cells (hT : TyOk P ty) {t : TypeId} {ti : TyI} (ht : tyAt ty t = some ti) (hn : ti.leaves ≠ []) {l : List V} {xs : Array Value} {off : Nat}
    (hl : CR ty c l xs.toList) (hf : fits l off ti.leaves.length = true) :
    ∃ x, (part t xs off).run P c.w = .ok x c.w ∧ VR ty c (pack ti.agg (cut l off ti.leaves.length)) x := by
  have hfit := fits_iff.1 hf
  have hlen := hl.len
  simp at hlen
  obtain ⟨f, hi, hs, _⟩ := hT.info t ti ht hn
  have ha := hT.agg t ti ht hn
  have hcut := hl.cut off ti.leaves.length
  have hpos := List.length_pos_iff.2 hn
  cases hag : ti.agg
  · rw [hag] at ha
    have h1 := hT.one t ti ht hn hag
    have hlt : off < xs.size := by omega
    refine ⟨xs[off], run_part_cell ha (by simp [hlt]), ?_⟩
    simp only [pack, cond_false]
    have hpos : 0 < (cut l off ti.leaves.length).length := by rw [← hcut.len]; simp; omega
    rw [headD_getElem hpos]
    have := (hcut.at 0 hpos (by simp; omega)).1
    simpa using this
  · rw [hag] at ha
    refine ⟨_, run_part_agg ha hi, ?_⟩
    simp only [pack, cond_true, VR]
    refine ⟨_, rfl, ?_⟩
    rw [hs]
    simpa [List.take_drop, Array.toList_extract] using hcut
theorem field_sound (hT : TyOk P ty) (hρ : ∀ o v, ρ o = some v → VR ty c v (ρ' o)) {s rty : TypeId} {x : Operand} {f : Nat} {r : Res}
    (hr : front ty h nx ρ rty (.field s x f) = some r) : ∃ v, (Instr.field s (ρ' x) f).run P c.w = .ok v c.w ∧ VR ty c r.v v ∧ r.objs = [] := by
  simp only [front] at hr
  split at hr
  case h_2 => simp at hr
  rename_i o fi l hfo hx
  cases hf : (fits l o fi.leaves.length && Nat.blt 0 fi.leaves.length)
  · rw [hf] at hr; simp at hr
  rw [hf] at hr
  obtain ⟨hv, ho, _⟩ := res_eq hr
  have hxv := hρ _ _ hx
  simp only [VR] at hxv
  obtain ⟨xs, e, hl⟩ := hxv
  obtain ⟨fs, fd, hs, hfd, rfl, ht⟩ := hT.fld s f o fi hfo
  obtain ⟨v, hrun, hvr⟩ := part_cells hT ht (leaves_ne hf) hl (Bool.and_eq_true_iff.1 hf).1
  refine ⟨v, ?_, hv ▸ hvr, ho⟩
  unfold Instr.field
  rw [run_bind (run_underlying hs)]
  simp only [hfd, e]
  rw [run_bind (show (asAgg (.agg xs)).run P c.w = .ok xs c.w from rfl)]
  exact hrun
theorem index_sound (hT : TyOk P ty) (hρ : ∀ o v, ρ o = some v → VR ty c v (ρ' o)) {t rty : TypeId} {x j : Operand} {r : Res}
    (hr : front ty h nx ρ rty (.index t x j) = some r) (hok : r.ok = true) : ∃ v, (Instr.index t (ρ' x) (ρ' j)).run P c.w = .ok v c.w ∧ VR ty c r.v v ∧ r.objs = [] := by
  simp only [front] at hr
  split at hr
  · rename_i ti k n s ht hj hx
    cases hsh : strTy ti
    · rw [hsh] at hr; simp at hr
    rw [hsh] at hr
    obtain ⟨hin, hv, ho, _⟩ := resIf_eq hr hok
    obtain ⟨h0, h1⟩ := inR_iff.1 hin
    have hjv := hρ _ _ hj
    have hxv := hρ _ _ hx
    rw [vr_int] at hjv
    simp only [VR] at hxv
    rw [hjv, hxv]
    have hu : P.underlying t = some .string := by
      unfold strTy at hsh
      split at hsh
      · rename_i ha hl
        exact hT.str t ti ht ha hl
      · simp at hsh
    have hlt : n.toNat < s.size := by omega
    refine ⟨.int .u8 (strAt s n.toNat), ?_, by rw [hv, vr_int], ho⟩
    unfold Instr.index
    rw [run_bind (show (asIntOf (.int k n)).run P c.w = .ok (k, n) c.w from rfl)]
    simp only []
    rw [run_bind (run_underlying hu)]
    simp only [if_pos h0]
    unfold strAt
    cases hs : s[n.toNat]? with
    | none => simp at hs; omega
    | some b => rfl
  · rename_i ti k n l ht hj hx
    cases he : tyAt ty ti.elem with
    | none => rw [he] at hr; simp at hr
    | some ei =>
      rw [he] at hr
      simp only [Option.bind_some] at hr
      cases hc : (ti.agg && Nat.blt 0 ti.alen && fits l 0 (ti.alen * ei.leaves.length) && Nat.blt 0 ei.leaves.length)
      · rw [hc] at hr; simp at hr
      rw [hc] at hr
      simp only [Bool.and_eq_true] at hc
      obtain ⟨⟨⟨hag, hal⟩, hfit⟩, hpos⟩ := hc
      obtain ⟨hin, hv, ho, _⟩ := resIf_eq hr hok
      obtain ⟨h0, h1⟩ := inR_iff.1 hin
      have hjv := hρ _ _ hj
      have hxv := hρ _ _ hx
      rw [vr_int] at hjv
      simp only [VR] at hxv
      obtain ⟨xs, e, hl⟩ := hxv
      have hn : ei.leaves ≠ [] := by intro e; rw [e] at hpos; simp at hpos
      have hu := hT.arr t ti ht hag (by simpa using hal)
      obtain ⟨inf, hinf, hsz, _⟩ := hT.info _ _ he hn
      have hfit' := fits_iff.1 hfit
      have hlt : n.toNat < ti.alen := by omega
      have hmul : n.toNat * ei.leaves.length + ei.leaves.length ≤ ti.alen * ei.leaves.length := by
        rw [← Nat.succ_mul]; exact Nat.mul_le_mul_right _ hlt
      obtain ⟨v, hrun, hvr⟩ := part_cells hT he hn hl (off := n.toNat * ei.leaves.length) (fits_iff.2 (by omega))
      refine ⟨v, ?_, hv ▸ hvr, ho⟩
      rw [hjv, e]
      unfold Instr.index
      rw [run_bind (show (asIntOf (.int k n)).run P c.w = .ok (k, n) c.w from rfl)]
      simp only []
      rw [run_bind (run_underlying hu)]
      simp only []
      rw [if_pos ⟨h0, h1⟩, run_bind (run_sizeOf hinf), hsz]
      exact hrun
  · simp at hr
theorem extract_sound (hρ : ∀ o v, ρ o = some v → VR ty c v (ρ' o)) {rty : TypeId} {x : Operand} {j : Nat} {r : Res}
    (hr : front ty h nx ρ rty (.extract x j) = some r) : ∃ v, (Instr.extract (ρ' x) j).run P c.w = .ok v c.w ∧ VR ty c r.v v ∧ r.objs = [] := by
  simp only [front] at hr
  split at hr
  case h_2 => simp at hr
  rename_i l hx
  have hxv := hρ _ _ hx
  simp only [VR] at hxv
  obtain ⟨xs, e, hl⟩ := hxv
  cases hj : l[j]? with
  | none => rw [hj] at hr; simp at hr
  | some v =>
    rw [hj] at hr
    simp at hr; subst hr
    have hlen := hl.len
    simp at hlen
    obtain ⟨hlt, rfl⟩ := List.getElem?_eq_some_iff.1 hj
    have hlt' : j < xs.size := by omega
    have hat := hl.at j hlt (by simpa using hlt')
    rw [Array.getElem_toList] at hat
    refine ⟨xs[j], ?_, hat, rfl⟩
    rw [e]
    simp only [Instr.extract, Array.getElem?_eq_getElem hlt']
    rfl
end
end Go.Vm
end
section
namespace Go.Vm
open Go.RowKit
section
variable {P : Program} {ty : Tys} {c : Ctx} {nx : Nat} {h : Heap} {fz : List Nat} {ρ : Operand → Option V} {ρ' : Operand → Value}
theorem OR_new_cells {l : List V} {cs : Array Value} {T : TypeId} {is : List Info} (hb : Room c) (ib : ∀ b o, c.I b o → b < c.w.heap.size)
    (hl : CR ty (newCtx c nx (c.w.alloc (.cells cs T)) ({ b := c.w.heap.size, len := l.length } :: is)) l cs.toList) :
    OR ty (newCtx c nx (c.w.alloc (.cells cs T)) ({ b := c.w.heap.size, len := l.length } :: is)) false { b := c.w.heap.size, len := l.length } (.cells l) := by
  have hlen := hl.len
  simp at hlen
  refine ⟨rfl, rfl, rfl, ⟨cs, T, alloc_new, by simp; omega, hb.mine, fun j _ _ hI => ?_⟩, cs.toList, hl, fun j hj => ?_⟩
  · have := ib _ _ hI; simp at this
  · show (c.w.alloc (.cells cs T)).cell? _ = _
    simp at hj
    rw [cell_of (alloc_new) (by simpa using hj)]
    simp
theorem alloc_sound (hT : TyOk P ty) {r : Res} (hf : Fr c.μ nx r.objs.length) (hb : Room c) (ib : ∀ b o, c.I b o → b < c.w.heap.size) {t rty : TypeId}
    (hr : front ty h nx ρ rty (.alloc t) = some r) : FrontGoal P ty c h nx (do pure (.value (← Instr.alloc t true (.tuple #[])))) r := by
  simp only [front] at hr
  split at hr
  case h_2 => simp at hr
  rename_i ti ht
  cases hz : zeroCells ty ti.leaves (nx + 1) with
  | none => rw [hz] at hr; simp at hr
  | some p =>
    rw [hz] at hr
    cases hnn : Nat.blt 0 ti.leaves.length
    · rw [hnn] at hr; simp at hr
    rw [hnn] at hr
    simp at hr
    subst hr
    have hn : ti.leaves ≠ [] := by intro e; rw [e] at hnn; simp at hnn
    obtain ⟨inf, hinf, hsz, _, z, hzv, hcz⟩ := hT.info t ti ht hn
    obtain ⟨is, h1, h2, h3, h4⟩ := zeroCells_ok ti.leaves (nx + 1) p.1 p.2 hz
    have hCR := h4 (newCtx c nx (c.w.alloc (.cells z.cells t)) ({ b := c.w.heap.size, len := p.1.length } :: is)) fun k hk => by
      have := newCtx_μ (c := c) (nx := nx) (w := c.w.alloc (.cells z.cells t)) (is := { b := c.w.heap.size, len := p.1.length } :: is) (k := k + 1) (by simpa using hk)
      rw [show nx + 1 + k = nx + (k + 1) from by omega, this]; rfl
    rw [← hcz] at hCR
    refine ⟨_, .pointer (some ⟨c.w.heap.size, 0, none⟩), ?_, FrontOk.block (o := .cells z.cells t) (i := { b := c.w.heap.size, len := p.1.length }) hf hb ib (by simp [h1]) rfl h2 (fun _ => OR_new_cells hb ib hCR)
      (fun c k hk hk' => h3 c k hk (by simpa using hk')) ?_⟩
    · show ((Instr.alloc t true (.tuple #[]) >>= fun y => pure (Next.value y)) : Sem Next).run P c.w = _
      have : (Instr.alloc t true (.tuple #[])).run P c.w = .ok (.pointer (some ⟨c.w.heap.size, 0, none⟩)) (c.w.alloc (.cells z.cells t)) := by
        unfold Instr.alloc
        rw [run_bind (run_zeroValue hinf hzv)]
        simp only []
        unfold newVar
        rw [run_bind run_newRow]; rfl
      rw [run_bind this]; rfl
    · simp only [VR]
      exact ⟨{ b := c.w.heap.size, len := p.1.length }, by simp [newCtx, updM], rfl, rfl⟩
theorem box_sound (hρ : ∀ o v, ρ o = some v → VR ty c v (ρ' o)) {r : Res} (hf : Fr c.μ nx r.objs.length) (hb : Room c) (ib : ∀ b o, c.I b o → b < c.w.heap.size)
    {t rty : TypeId} {x : Operand} (hr : front ty h nx ρ rty (.box t x) = some r) : FrontGoal P ty c h nx (do pure (.value (← Instr.box t (ρ' x)))) r := by
  simp only [front] at hr
  split at hr
  case h_2 => simp at hr
  rename_i ti v ht hx
  split at hr
  · simp at hr
  · simp at hr
  · simp at hr
  rename_i hne hnu hnt
  cases hc : Nat.beq v.flat.length ti.leaves.length
  · rw [hc] at hr; simp at hr
  rw [hc] at hr
  simp at hr
  subst hr
  have hCR0 := (hρ _ _ hx).flat (fun e => hnu e) (fun l e => hnt l e)
  have hext : Ext c (newCtx c nx (c.w.alloc (.cells (ρ' x).cells t)) [{ b := c.w.heap.size, len := v.flat.length }]) := newCtx_ext_alloc hf hb ib
  have hCR := hCR0.mono hext
  refine ⟨_, .pointer (some ⟨c.w.heap.size, 0, none⟩), ?_, FrontOk.block (o := .cells (ρ' x).cells t) (i := { b := c.w.heap.size, len := v.flat.length }) (is := []) hf hb ib rfl rfl (by simp) (fun _ => OR_new_cells hb ib hCR)
    (fun c k hk _ => absurd hk (by simp)) ?_⟩
  · show ((Instr.box t (ρ' x) >>= fun y => pure (Next.value y)) : Sem Next).run P c.w = _
    have : (Instr.box t (ρ' x)).run P c.w = .ok (.pointer (some ⟨c.w.heap.size, 0, none⟩)) (c.w.alloc (.cells (ρ' x).cells t)) := by
      unfold Instr.box newVar
      rw [run_bind run_newRow]; rfl
    rw [run_bind this]; rfl
  · simp only [VR]
    exact ⟨{ b := c.w.heap.size, len := v.flat.length }, by simp [newCtx, updM], rfl, rfl⟩
theorem fillParts_ok (hρ : ∀ o v, ρ o = some v → VR ty c v (ρ' o)) {pv pl : Nat → Option (Nat × Nat)} (hp : ∀ n p, pv n = some p → pl n = some p) :
    ∀ (ps : List (Nat × Operand)) (l l' : List V) (cs : Array Value), fillParts ρ pv ps l = some l' → CR ty c l cs.toList →
      ∃ cs', Instr.fill pl cs (ps.map fun p => (p.1, ρ' p.2)) = some cs' ∧ CR ty c l' cs'.toList
  | [], l, l', cs, hr, hl => by
    simp [fillParts] at hr
    subst hr
    exact ⟨cs, rfl, hl⟩
  | (i, o) :: r, l, l', cs, hr, hl => by
    simp only [fillParts] at hr
    split at hr
    case h_2 => simp at hr
    rename_i off n v hpl hv
    cases hc : (Nat.beq v.flat.length n && fits l off n && partOk v)
    · rw [hc] at hr; simp at hr
    rw [hc] at hr
    simp only [cond_true] at hr
    simp only [Bool.and_eq_true] at hc
    have hlen := beq_true.1 hc.1.1
    have hfit := fits_iff.1 hc.1.2
    have hCv := (hρ _ _ hv).flat (by rintro rfl; simp [partOk] at hc) (by rintro l rfl; simp [partOk] at hc)
    have hsz : (ρ' o).cells.size = n := by have := hCv.len; simp at this; omega
    have hls := hl.len
    simp at hls
    have hset := hl.setAt hCv off
    rw [← foldl_set] at hset
    obtain ⟨cs', hf', hl'⟩ := fillParts_ok hρ hp r _ l' _ hr hset
    refine ⟨cs', ?_, hl'⟩
    simp only [List.map_cons, Instr.fill, hp _ _ hpl]
    rw [if_neg]
    · exact hf'
    · simp; omega
theorem build_sound (hT : TyOk P ty) (hρ : ∀ o v, ρ o = some v → VR ty c v (ρ' o)) {r : Res} (hf : Fr c.μ nx r.objs.length) {t rty : TypeId} {parts : Array (Nat × Operand)}
    (hr : front ty h nx ρ rty (.build t parts) = some r) : FrontGoal P ty c h nx (do pure (.value (← Instr.build t (parts.map fun (i, x) => (i, ρ' x))))) r := by
  simp only [front] at hr
  split at hr
  case h_2 => simp at hr
  rename_i ti ht
  cases hag : (ti.agg && Nat.blt 0 ti.leaves.length)
  · rw [hag] at hr; simp at hr
  rw [hag] at hr
  simp only [cond_true] at hr
  simp only [Bool.and_eq_true] at hag
  have hn : ti.leaves ≠ [] := by intro e; rw [e] at hag; simp at hag
  split at hr
  case h_2 => simp at hr
  rename_i l os hz
  cases hfp : fillParts ρ (placeOf ty t ti) parts.toList l with
  | none => rw [hfp] at hr; simp at hr
  | some l' =>
    rw [hfp] at hr
    simp at hr
    subst hr
    obtain ⟨is, h1, h2, h3, h4⟩ := zeroCells_ok ti.leaves nx l os hz
    obtain ⟨pl, z, hz', hbuilt, hplace⟩ := hT.place t ti ht hag.1 hn
    have hext : Ext c (newCtx c nx c.w is) := newCtx_ext_same (by rw [h1]; exact hf)
    have hCR := h4 (newCtx c nx c.w is) fun k hk => newCtx_μ hk
    rw [← hz'] at hCR
    obtain ⟨cs', hfill, hl'⟩ := fillParts_ok (c := newCtx c nx c.w is) (fun o v hv => (hρ o v hv).mono hext) hplace parts.toList l l' z.cells hfp hCR
    refine ⟨newCtx c nx c.w is, .agg cs', ?_, FrontOk.nils hf (by simp [h1]) h2 h3 ?_⟩
    · show ((Instr.build t (parts.map fun (i, x) => (i, ρ' x)) >>= fun y => pure (Next.value y)) : Sem Next).run P c.w = _
      have hb : P.built t (parts.map fun (i, x) => (i, ρ' x)).toList = some cs' := by
        rw [hbuilt]
        simpa using hfill
      rw [run_bind (run_build c.w t _ cs' hb)]; rfl
    · simp only [VR]
      exact ⟨cs', rfl, hl'⟩
end
end Go.Vm
end
section
namespace Go.Vm
open Go.RowKit
def flatV (ys : List Value) : List Value := ys.flatMap fun y => y.cells.toList
theorem flatV_length {sz : Nat} : ∀ {ys : List Value}, (∀ y ∈ ys, y.cells.size = sz) → (flatV ys).length = ys.length * sz
  | [], _ => by simp [flatV]
  | y :: r, h => by
    have := flatV_length (ys := r) fun z hz => h z (by simp [hz])
    unfold flatV at this ⊢
    simp only [List.flatMap_cons, List.length_append, Array.length_toList, this, h y (by simp), List.length_cons, Nat.succ_mul]
    omega
theorem flatV_get {sz : Nat} : ∀ {ys : List Value}, (∀ y ∈ ys, y.cells.size = sz) → ∀ j (hj : j < ys.length) t, t < sz → (flatV ys)[j * sz + t]? = ys[j].cells[t]?
  | [], _, j, hj, _, _ => absurd hj (by simp)
  | y :: r, h, j, hj, t, ht => by
    have hy := h y (by simp)
    unfold flatV
    simp only [List.flatMap_cons]
    cases j with
    | zero =>
      rw [List.getElem?_append_left (by simp; omega)]
      simp
    | succ j =>
      have := flatV_get (ys := r) (fun z hz => h z (by simp [hz])) j (by simpa using hj) t ht
      rw [List.getElem?_append_right (by simp [hy, Nat.succ_mul]; omega)]
      simp only [Array.length_toList, hy, List.getElem_cons_succ]
      rw [show (j + 1) * sz + t - sz = j * sz + t from by rw [Nat.succ_mul]; omega]
      exact this
theorem setAt_append_left {α : Type} : ∀ (a b : List α) (n : Nat) (xs : List α), n + xs.length ≤ a.length → setAt (a ++ b) n xs = setAt a n xs ++ b
  | [], b, n, xs, h => by
    have hx : xs = [] := List.length_eq_zero_iff.1 (by simp only [List.length_nil] at h; omega)
    have hn : n = 0 := by simp only [List.length_nil] at h; omega
    subst hx hn
    cases b <;> rfl
  | c :: r, b, 0, [], _ => rfl
  | c :: r, b, 0, x :: xs, h => by
    simp only [List.cons_append, setAt]
    rw [setAt_append_left r b 0 xs (by simp at h ⊢; omega)]
  | c :: r, b, n + 1, xs, h => by
    simp only [List.cons_append, setAt]
    rw [setAt_append_left r b n xs (by simp at h ⊢; omega)]
theorem setAt_append_right {α : Type} : ∀ (a b : List α) (n : Nat) (xs : List α), setAt (a ++ b) (a.length + n) xs = a ++ setAt b n xs
  | [], b, n, xs => by simp
  | c :: r, b, n, xs => by
    simp only [List.cons_append, List.length_cons]
    rw [show r.length + 1 + n = (r.length + n) + 1 from by omega]
    simp only [setAt]
    rw [setAt_append_right r b n xs]
theorem setAt_whole {α : Type} : ∀ (a xs : List α), xs.length = a.length → setAt a 0 xs = xs
  | [], xs, h => by
    have : xs = [] := List.length_eq_zero_iff.1 (by simpa using h)
    rw [this]; rfl
  | c :: r, [], h => by simp at h
  | c :: r, x :: xs, h => by simp only [setAt, setAt_whole r xs (by simpa using h)]
theorem flatV_set {sz : Nat} : ∀ {ys : List Value}, (∀ y ∈ ys, y.cells.size = sz) → ∀ j (_ : j < ys.length) (y : Value), y.cells.size = sz →
    setAt (flatV ys) (j * sz) y.cells.toList = flatV (ys.set j y)
  | [], _, j, hj, _, _ => absurd hj (by simp)
  | z :: r, h, j, hj, y, hy => by
    have hz := h z (by simp)
    unfold flatV
    cases j with
    | zero =>
      simp only [List.flatMap_cons, List.set_cons_zero, Nat.zero_mul]
      rw [setAt_append_left _ _ _ _ (by simp [hz, hy]), setAt_whole _ _ (by simp [hz, hy])]
    | succ j =>
      have := flatV_set (ys := r) (fun w hw => h w (by simp [hw])) j (by simpa using hj) y hy
      unfold flatV at this
      simp only [List.flatMap_cons, List.set_cons_succ]
      rw [show (j + 1) * sz = z.cells.toList.length + j * sz from by rw [Nat.succ_mul]; simp [hz]; omega, setAt_append_right, this]
theorem zero_row {Z : Array Value} {y : Value} (hy : y.cells = Z) (n : Nat) (hz : 0 < Z.size) :
    ((Array.range (n * Z.size)).map (Z[· % Z.size]!)).toList = flatV (List.replicate n y) := by
  subst hy
  apply List.ext_getElem?
  intro i
  have hall : ∀ w ∈ List.replicate n y, w.cells.size = y.cells.size := by
    intro w hw
    rw [List.eq_of_mem_replicate hw]
  by_cases hi : i < n * y.cells.size
  · have hj : i / y.cells.size < (List.replicate n y).length := by
      simp
      exact (Nat.div_lt_iff_lt_mul hz).2 hi
    have hmod := Nat.mod_lt i hz
    have := flatV_get hall (i / y.cells.size) hj (i % y.cells.size) hmod
    rw [Nat.div_add_mod' i y.cells.size] at this
    rw [this]
    simp [hi, hmod]
  · have h1 : (flatV (List.replicate n y)).length ≤ i := by rw [flatV_length hall]; simp; omega
    rw [List.getElem?_eq_none h1, List.getElem?_eq_none (by simp; omega)]
section
variable {P : Program} {ty : Tys} {c : Ctx} {nx : Nat} {h : Heap} {fz : List Nat} {ρ : Operand → Option V} {ρ' : Operand → Value}
theorem zeroFixed_ok : ∀ (ls : List Leaf) (zs : List V), zeroFixed ty ls = some zs → CR ty c zs (ls.map zeroVal) ∧ leavesOk ty .frz ls zs = true
  | [], zs, h => by simp [zeroFixed] at h; subst h; exact ⟨by simp [CR], rfl⟩
  | l :: r, zs, h => by
    simp only [zeroFixed] at h
    split at h
    case h_2 => simp at h
    rename_i v s hv hs
    simp at h
    subst h
    obtain ⟨h1, h2⟩ := zeroFixed_ok r s hs
    have key : VR ty c v (zeroVal l) ∧ isCell (zeroVal l) ∧ leafOk ty .frz l v = true := by
      cases l with
      | sl e =>
        simp only [] at hv
        split at hv
        · rename_i k hsh
          simp at hv; subst hv
          refine ⟨by simp only [VR]; exact ⟨none, 0, rfl, by simp, by simp⟩, trivial, ?_⟩
          simp [leafOk, slOk, hsh, Tag.same, same_refl]
        · rename_i hsh
          simp at hv; subst hv
          refine ⟨by simp only [VR]; exact ⟨none, 0, rfl, by simp, by simp⟩, trivial, ?_⟩
          simp [leafOk, slOk, hsh, Tag.same]
        · rename_i hsh
          simp at hv; subst hv
          obtain ⟨ei, he, _⟩ := shOf_ty hsh
          refine ⟨by simp only [VR]; exact ⟨none, 0, ei, rfl, by simp, he, hsh, by simp, by simp⟩, trivial, ?_⟩
          simp [leafOk, slOk, hsh, Tag.same]
        · simp at hv
      | bool => simp at hv; subst hv; exact ⟨by simp only [VR]; rfl, trivial, rfl⟩
      | int k => simp at hv; subst hv; exact ⟨by simp only [VR]; rfl, trivial, by simp [leafOk, same_refl]⟩
      | str => simp at hv
      | fn => simp at hv
      | ptr => simp at hv
      | mp => simp at hv
    refine ⟨by simp only [List.map_cons, CR]; exact ⟨_, _, rfl, key.1, key.2.1, h1⟩, ?_⟩
    simp only [leavesOk, key.2.2, h2, Bool.and_self]
theorem pack_zero (hT : TyOk P ty) {e : TypeId} {ei : TyI} (he : tyAt ty e = some ei) (hn : ei.leaves ≠ []) {zs : List V} (hz : zeroFixed ty ei.leaves = some zs) {Z : Array Value} (hZ : Z.toList = ei.leaves.map zeroVal) :
    ∃ y, y.cells = Z ∧ (∀ c : Ctx, VR ty c (pack ei.agg zs) y) ∧ okV ty .frz ei (pack ei.agg zs) = true := by
  cases hag : ei.agg
  · have h1 := hT.one e ei he hn hag
    obtain ⟨hok, hl⟩ := (zeroFixed_ok (c := ⟨default, 0, fun _ => False, fun _ _ => False, fun _ => none⟩) _ _ hz).symm
    have hlen := leavesOk_len hok
    match zs, hlen with
    | [v], _ =>
      have hp := leavesOk_plain hok v (by simp)
      obtain ⟨x, hx⟩ : ∃ x, Z = #[x] := by
        have : Z.toList.length = 1 := by rw [hZ]; simpa using h1
        match Z, this with
        | ⟨[x]⟩, _ => exact ⟨x, rfl⟩
      subst hx
      have hvr : ∀ c : Ctx, VR ty c v x ∧ isCell x := by
        intro c
        have := (zeroFixed_ok (c := c) _ _ hz).1
        rw [← hZ] at this
        simp only [CR] at this
        obtain ⟨y, ys, e1, h2, h3, _⟩ := this
        simp at e1
        rw [e1.1]; exact ⟨h2, h3⟩
      refine ⟨x, ?_, fun c => by simpa [pack] using (hvr c).1, ?_⟩
      · have := (hvr ⟨default, 0, fun _ => False, fun _ _ => False, fun _ => none⟩).2
        cases x <;> first | rfl | exact this.elim
      · simp only [pack, cond_false, List.headD_cons]
        have : okV ty .frz ei v = leavesOk ty .frz ei.leaves [v] := by
          unfold okV; rw [hag]; cases v <;> first | rfl | exact absurd rfl (hp.2.2 _)
        rw [this]; exact hok
    | [], hlen => simp at hlen; omega
    | _ :: _ :: _, hlen => simp at hlen; omega
  · refine ⟨.agg Z, rfl, fun c => ?_, ?_⟩
    · simp only [pack, cond_true, VR]
      exact ⟨Z, rfl, by rw [hZ]; exact (zeroFixed_ok _ _ hz).1⟩
    · simp only [pack, cond_true, okV, hag]
      exact (zeroFixed_ok (c := ⟨default, 0, fun _ => False, fun _ _ => False, fun _ => none⟩) _ _ hz).2
def newArr (c : Ctx) (len sz : Nat) : Info := { a := some ⟨c.w.heap.size, 0, none⟩, len, cap := len, on := true, b := c.w.heap.size, o := 0, sz }
theorem newArr_ok {c c' : Ctx} {len sz : Nat} {cs : Array Value} {T : TypeId} (hsz : 0 < sz) (hb : Mine c' c.w.heap.size) (ib : ∀ b o, c'.I b o → b < c.w.heap.size) (hw : c'.w = c.w.alloc (.cells cs T)) (hcs : cs.size = len * sz) :
    ArrOk c' false (newArr c len sz) sz len := by
  refine ⟨rfl, hsz, rfl, Nat.le_refl _, fun hh => by simp [newArr] at hh, fun _ => ⟨rfl, cs, T, by rw [hw]; exact alloc_new, by simp [newArr, hcs], hb, fun j _ _ hI => ?_⟩⟩
  have := ib _ _ hI
  simp [newArr] at this
theorem newArr_cell {c c' : Ctx} {cs : Array Value} {T : TypeId} (hw : c'.w = c.w.alloc (.cells cs T)) {j : Nat} (hj : j < cs.size) : c'.w.cell? ⟨c.w.heap.size, j, none⟩ = cs[j]? := by
  rw [hw, cell_of alloc_new hj]; simp [hj]
end
end Go.Vm
end
section
namespace Go.Vm
open Go.RowKit
section
variable {P : Program} {ty : Tys} {c : Ctx} {nx : Nat} {h : Heap} {fz : List Nat} {ρ : Operand → Option V} {ρ' : Operand → Value}
theorem OR_new_ints {c c' : Ctx} {k : IntKind} {l : List Int} {cs : Array Value} {T : TypeId} (hb : Mine c' c.w.heap.size) (ib : ∀ b o, c'.I b o → b < c.w.heap.size)
    (hw : c'.w = c.w.alloc (.cells cs T)) (hcs : cs.toList = flatV (l.map (Value.int k))) : OR ty c' false (newArr c l.length 1) (.ints k l) := by
  have hall : ∀ y ∈ l.map (Value.int k), y.cells.size = 1 := by
    intro y hy
    obtain ⟨n, _, rfl⟩ := List.mem_map.1 hy
    rfl
  have hlen := flatV_length hall
  have hsz : cs.size = l.length * 1 := by rw [← Array.length_toList, hcs, hlen]; simp
  refine ⟨newArr_ok (by omega) hb ib hw hsz, fun j hj => ?_⟩
  have := newArr_cell (c := c) hw (j := j) (by omega)
  simp only [newArr, Nat.zero_add]
  rw [this]
  have h2 := flatV_get hall j (by simpa using hj) 0 (by omega)
  rw [← hcs] at h2
  simp at h2
  rw [h2]; rfl
theorem OR_new_bools {c c' : Ctx} {l : List Bool} {cs : Array Value} {T : TypeId} (hb : Mine c' c.w.heap.size) (ib : ∀ b o, c'.I b o → b < c.w.heap.size)
    (hw : c'.w = c.w.alloc (.cells cs T)) (hcs : cs.toList = flatV (l.map Value.bool)) : OR ty c' false (newArr c l.length 1) (.bools l) := by
  have hall : ∀ y ∈ l.map Value.bool, y.cells.size = 1 := by
    intro y hy
    obtain ⟨n, _, rfl⟩ := List.mem_map.1 hy
    rfl
  have hlen := flatV_length hall
  have hsz : cs.size = l.length * 1 := by rw [← Array.length_toList, hcs, hlen]; simp
  refine ⟨newArr_ok (by omega) hb ib hw hsz, fun j hj => ?_⟩
  have := newArr_cell (c := c) hw (j := j) (by omega)
  simp only [newArr, Nat.zero_add]
  rw [this]
  have h2 := flatV_get hall j (by simpa using hj) 0 (by omega)
  rw [← hcs] at h2
  simp at h2
  rw [h2]; rfl
theorem OR_new_vals {c c' : Ctx} {e : TypeId} {ei : TyI} {l : List V} {ys : List Value} {cs : Array Value} {T : TypeId} (he : tyAt ty e = some ei) (hs : shOf ty e = some .vals) (hn : ei.leaves ≠ [])
    (hok : ∀ v ∈ l, okV ty .frz ei v = true) (hb : Mine c' c.w.heap.size) (ib : ∀ b o, c'.I b o → b < c.w.heap.size)
    (hw : c'.w = c.w.alloc (.cells cs T)) (hcs : cs.toList = flatV ys) (hlen : ys.length = l.length) (hall : ∀ y ∈ ys, y.cells.size = ei.leaves.length)
    (hvr : ∀ j (h : j < l.length) (h' : j < ys.length), VR ty c' l[j] ys[j]) : OR ty c' false (newArr c l.length ei.leaves.length) (.vals e l) := by
  have hfl := flatV_length hall
  have hsz : cs.size = l.length * ei.leaves.length := by rw [← Array.length_toList, hcs, hfl, hlen]
  refine ⟨ei, he, hs, hok, newArr_ok (List.length_pos_iff.2 hn) hb ib hw hsz, fun j hj => ?_⟩
  refine ⟨ys[j], hvr j hj (by omega), hall _ (List.getElem_mem _), fun t ht => ?_⟩
  have hlt : j * ei.leaves.length + t < cs.size := by
    rw [hsz]
    have : (j + 1) * ei.leaves.length ≤ l.length * ei.leaves.length := Nat.mul_le_mul_right _ hj
    rw [Nat.succ_mul] at this; omega
  have := newArr_cell (c := c) hw hlt
  simp only [newArr, Nat.zero_add]
  rw [this]
  have h2 := flatV_get hall j (by omega) t ht
  rw [← hcs] at h2
  rw [← h2]; simp
theorem sameOperand_eq {a b : Operand} (h : sameOperand a b = true) : a = b := by
  unfold sameOperand at h
  split at h
  · rw [beq_true.1 h]
  · simp only [Bool.and_eq_true] at h
    rw [same_eq h.1, eq_of_beq h.2]
  · simp at h
theorem wrap_small {n : Int} (h0 : 0 ≤ n) (h1 : n ≤ 4294967296) : IntKind.i64.wrap n = n := by
  unfold IntKind.wrap
  simp [IntKind.bits, IntKind.signed]
  omega
theorem run_makeSlice {t e : TypeId} {inf : TypeInfo} {z : Value} {k : IntKind} {n : Int} {w : World} (hu : P.underlying t = some (.slice e)) (hi : P.info? e = some inf) (hz : inf.zero = some z)
    (hb : inf.bytes ≤ 16384) (h0 : 0 ≤ n) (h1 : n ≤ 4294967296) (hsz : inf.size = z.cells.size) {y : Value} (hy : y.cells = z.cells) (hpos : 0 < z.cells.size) :
    ∃ cs, (Instr.makeSlice t (.int k n) (.int k n)).run P w = .ok (.slice (some ⟨w.heap.size, 0, none⟩) n.toNat n.toNat) (w.alloc (.cells cs e)) ∧ cs.toList = flatV (List.replicate n.toNat y) := by
  have hw := wrap_small h0 h1
  have hprod : (inf.bytes : Int) * n ≤ 16384 * 4294967296 := by
    have h2 : (inf.bytes : Int) ≤ 16384 := by omega
    exact Int.mul_le_mul h2 h1 h0 (by omega)
  have htoNat : n.toNat * inf.bytes ≤ 16384 * 4294967296 := by
    rw [Nat.mul_comm]
    exact Nat.mul_le_mul hb (by omega)
  have hrow : ∀ (w : World), ((do
      let zero ← if n.toNat * z.cells.size = 0 then pure #[] else do pure (← zeroValue e).cells
      let a ← newRow e ((Array.range (n.toNat * z.cells.size)).map (zero[· % zero.size]!))
      pure (Value.slice (some a) n.toNat n.toNat)) : Sem Value).run P w = .ok (.slice (some ⟨w.heap.size, 0, none⟩) n.toNat n.toNat)
        (w.alloc (.cells ((Array.range (n.toNat * z.cells.size)).map (z.cells[· % z.cells.size]!)) e)) := by
    intro w
    by_cases hz0 : n.toNat * z.cells.size = 0
    · have e0 : ∀ f : Nat → Value, Array.map f (Array.range 0) = #[] := fun f => by simp
      rw [if_pos hz0, run_bind run_pure, run_bind run_newRow, hz0, e0, e0]
      rfl
    · rw [if_neg hz0, run_bind (run_zeroValue hi hz), run_bind run_pure, run_bind run_newRow]
      rfl
  refine ⟨(Array.range (n.toNat * z.cells.size)).map (z.cells[· % z.cells.size]!), ?_, zero_row hy _ hpos⟩
  unfold Instr.makeSlice
  rw [run_bind (run_underlying hu)]
  simp only []
  rw [run_bind (show (asInt (.int k n)).run P w = .ok n w from rfl), run_bind (show (asInt (.int k n)).run P w = .ok n w from rfl), run_bind (run_typeInfo hi)]
  simp only [hw]
  rw [if_neg (by simp; omega)]
  have hask : (askRoom (n.toNat * inf.bytes)).run P w = .ok () w := by
    unfold askRoom roomBytes
    rw [if_neg (by omega)]; rfl
  rw [run_bind hask, run_bind (run_sizeOf hi), hsz]
  exact hrow w
theorem makeSlice_sound (hT : TyOk P ty) (hρ : ∀ o v, ρ o = some v → VR ty c v (ρ' o)) {r : Res} (hf : Fr c.μ nx r.objs.length) (hb : Room c) (ib : ∀ b o, c.I b o → b < c.w.heap.size)
    {t rty : TypeId} {a b : Operand} (hr : front ty h nx ρ rty (.makeSlice t a b) = some r) (hok : r.ok = true) :
    FrontGoal P ty c h nx (do pure (.value (← Instr.makeSlice t (ρ' a) (ρ' b)))) r := by
  simp only [front] at hr
  cases hso : sameOperand a b
  · rw [hso] at hr; simp at hr
  rw [hso] at hr
  simp only [cond_true] at hr
  obtain rfl := sameOperand_eq hso
  split at hr
  case h_2 => simp at hr
  rename_i e k n he ha
  split at hr
  case h_2 => simp at hr
  rename_i ei sh hei hsh
  cases hby : (Nat.ble ei.bytes 16384 && Nat.blt 0 ei.leaves.length)
  · rw [hby] at hr; simp at hr
  rw [hby] at hr
  simp only [cond_true] at hr
  simp only [Bool.and_eq_true, Nat.ble_eq] at hby
  have hn : ei.leaves ≠ [] := by intro e; rw [e] at hby; simp at hby
  have hav := hρ _ _ ha
  rw [vr_int] at hav
  have hu := hT.sl t e he
  obtain ⟨inf, hinf, hsz, hbytes, z, hz, hzc⟩ := hT.info e ei hei hn
  have hzs : z.cells.size = ei.leaves.length := by rw [← Array.length_toList, hzc]; simp
  have fin : ∀ (o : Obj) (sz : Nat) (y : Value), y.cells = z.cells → inS 0 n lim = true → r.v = .own nx → r.objs = [o] →
      (∀ cs, cs.toList = flatV (List.replicate n.toNat y) → OR ty (newCtx c nx (c.w.alloc (.cells cs e)) [newArr c n.toNat sz]) false (newArr c n.toNat sz) o) →
      FrontGoal P ty c h nx (do pure (.value (← Instr.makeSlice t (ρ' a) (ρ' a)))) r := by
    intro o sz y hy hin hv ho hO
    obtain ⟨_, h0, h1⟩ := inS_iff.1 hin
    obtain ⟨cs, hrun, hcs⟩ := run_makeSlice (w := c.w) (k := k) hu hinf hz (by omega) h0 (by simpa [lim] using h1) (by omega) hy (by rw [hzs]; exact List.length_pos_iff.2 hn)
    refine ⟨_, .slice (some ⟨c.w.heap.size, 0, none⟩) n.toNat n.toNat, ?_, FrontOk.block (o := .cells cs e) (i := newArr c n.toNat sz) (is := []) hf hb ib (by rw [ho]; rfl) rfl (by simp)
      (fun h' => by simp only [ho, List.getElem_cons_zero]; exact hO cs hcs) (fun c k hk _ => absurd hk (by simp)) ?_⟩
    · show ((Instr.makeSlice t (ρ' a) (ρ' a) >>= fun y => pure (Next.value y)) : Sem Next).run P c.w = _
      rw [hav, run_bind hrun]; rfl
    · rw [hv]; simp only [VR]
      exact ⟨newArr c n.toNat sz, by simp [newCtx, updM], rfl⟩
  cases sh with
  | ints k' =>
    simp only [Option.some.injEq] at hr
    obtain ⟨_, _, hag, h1, hlv, _⟩ := shOf_one hsh (by simp)
    rw [hei] at *
    rename_i ei' heq _
    cases heq
    have hlv' := hlv k' rfl
    subst hr
    refine fin _ 1 (.int k' 0) ?_ hok rfl rfl fun cs hcs => ?_
    · apply Array.toList_inj.1
      rw [hzc, hlv']; rfl
    · have := OR_new_ints (ty := ty) (c := c) (c' := newCtx c nx (c.w.alloc (.cells cs e)) [newArr c n.toNat 1]) (k := k') (l := List.replicate n.toNat 0) (cs := cs) (T := e) hb.mine ib rfl (by simpa using hcs)
      simpa using this
  | bools =>
    simp only [Option.some.injEq] at hr
    obtain ⟨_, heq, hag, h1, _, hlv⟩ := shOf_one hsh (by simp)
    rw [hei] at heq
    cases heq
    have hlv' := hlv rfl
    subst hr
    refine fin _ 1 (.bool false) ?_ hok rfl rfl fun cs hcs => ?_
    · apply Array.toList_inj.1
      rw [hzc, hlv']; rfl
    · have := OR_new_bools (ty := ty) (c := c) (c' := newCtx c nx (c.w.alloc (.cells cs e)) [newArr c n.toNat 1]) (l := List.replicate n.toNat false) (cs := cs) (T := e) hb.mine ib rfl (by simpa using hcs)
      simpa using this
  | vals =>
    cases hzf : zeroFixed ty ei.leaves with
    | none => rw [hzf] at hr; simp at hr
    | some zs =>
      rw [hzf] at hr
      simp only [Option.map_some, Option.some.injEq] at hr
      obtain ⟨y, hy, hvr, hokz⟩ := pack_zero hT hei hn hzf hzc
      subst hr
      refine fin _ ei.leaves.length y hy hok rfl rfl fun cs hcs => ?_
      have := OR_new_vals (ty := ty) (c := c) (c' := newCtx c nx (c.w.alloc (.cells cs e)) [newArr c n.toNat ei.leaves.length]) (l := List.replicate n.toNat (pack ei.agg zs)) (cs := cs) (T := e) (ys := List.replicate n.toNat y)
        hei hsh hn (fun v hv => by rw [List.eq_of_mem_replicate hv]; exact hokz) hb.mine ib rfl hcs (by simp) (fun v hv => by rw [List.eq_of_mem_replicate hv, hy, hzs]) (fun j _ _ => by simpa using hvr _)
      simpa using this
theorem makeMap_sound (hT : TyOk P ty) (hρ : ∀ o v, ρ o = some v → VR ty c v (ρ' o)) {r : Res} (hf : Fr c.μ nx r.objs.length) (hb : Room c) (ib : ∀ b o, c.I b o → b < c.w.heap.size)
    {t rty : TypeId} {x : Option Operand} (hr : front ty h nx ρ rty (.makeMap t x) = some r) :
    FrontGoal P ty c h nx (do pure (.value (← Instr.makeMap t (x.map ρ')))) r := by
  simp only [front] at hr
  split at hr
  case h_2 => simp at hr
  rename_i ti ht hx
  split at hr
  case h_2 => simp at hr
  rename_i k e hag hlv hfl
  split at hr
  case h_2 => simp at hr
  rename_i ki ei hk he
  cases hp : keyTy ki
  · rw [hp] at hr; simp at hr
  rw [hp] at hr
  simp only [cond_true, Option.some.injEq] at hr
  subst hr
  have hu := hT.mp t ti k e ht hag hlv hfl
  have hrun : (Instr.makeMap t (x.map ρ')).run P c.w = .ok (.map (some c.w.heap.size)) (c.w.alloc (.map #[] 0)) := by
    unfold Instr.makeMap
    cases x with
    | none => rfl
    | some o =>
      simp only [] at hx
      split at hx
      · rename_i kk nn ho
        have := hρ _ _ ho
        rw [vr_int] at this
        simp only [Option.map_some, this]
        rw [run_bind (run_underlying hu)]
        rfl
      · simp at hx
  refine ⟨_, .map (some c.w.heap.size), ?_, FrontOk.block (o := .map #[] 0) (i := { b := c.w.heap.size }) (is := []) hf hb ib rfl rfl (by simp) (fun h' => ?_) (fun c k hk _ => absurd hk (by simp)) ?_⟩
  · show ((Instr.makeMap t (x.map ρ') >>= fun y => pure (Next.value y)) : Sem Next).run P c.w = _
    rw [run_bind hrun]; rfl
  · refine ⟨rfl, hb.mine, #[], alloc_new, ⟨ki, hk, hp, by simp⟩, ⟨ei, he, by simp⟩, rfl, fun j hj => absurd hj (by simp), by simp, by simp⟩
  · simp only [VR]
    exact ⟨{ b := c.w.heap.size }, by simp [newCtx, updM], rfl, rfl⟩
end
end Go.Vm
end
section
namespace Go.Vm
open Go.RowKit
section
variable {P : Program} {ty : Tys} {c : Ctx} {nx : Nat} {h : Heap} {fz : List Nat} {ρ : Operand → Option V} {ρ' : Operand → Value}
def frzI (c : Ctx) (F : List Nat) : Nat → Nat → Prop := fun b o => c.I b o ∨ ∃ id i, id ∈ F ∧ c.μ id = some i ∧ i.on = true ∧ b = i.b ∧ i.o ≤ o ∧ o < i.o + i.len * i.sz
def frzCtx (c : Ctx) (F : List Nat) : Ctx := { w := c.w, base := c.base, F := c.F, I := frzI c F, μ := c.μ }
def FzOk (h : Heap) (F : List Nat) : Prop := ∀ id ∈ F, ∃ o v, get id h = some o ∧ o.fixed .frz = some v
theorem fixed_block {f : Bool} {i : Info} {o : Obj} {v : V} {t : Tag} (hO : OR ty c f i o) (hv : o.fixed t = some v) (hon : i.on = true) : Mine c i.b ∧ i.b < c.w.heap.size := by
  have harr : ∃ sz len, ArrOk c f i sz len := by
    cases o <;> simp [Obj.fixed] at hv
    · exact ⟨_, _, hO.1⟩
    · exact ⟨_, _, hO.1⟩
    · obtain ⟨_, _, _, _, ha, _⟩ := hO
      exact ⟨_, _, ha⟩
  obtain ⟨sz, len, ha⟩ := harr
  obtain ⟨_, cs, T, hb, _, hbase, _⟩ := ha.2.2.2.2.2 hon
  refine ⟨hbase, ?_⟩
  rcases Nat.lt_or_ge i.b c.w.heap.size with g | g
  · exact g
  · rw [Array.getElem?_eq_none g] at hb; cases hb
theorem frz_ext {F : List Nat} (H : HeapOk ty c h fz) (hF : FzOk h F) : Ext c (frzCtx c F) where
  base := rfl
  fr := rfl
  below := Below.refl _ _
  keeps := fun _ _ _ => rfl
  hI := fun _ _ h => .inl h
  hnew := fun b o h => h.imp id fun ⟨id, i, hm, hi, hon, hb, _, _⟩ => by
    obtain ⟨ob, v, hg, hv⟩ := hF id hm
    rw [hb]; exact (fixed_block (H.hp id ob i hg hi) hv hon).1
  hcell := fun _ _ _ => rfl
  hμ := fun _ _ h => h
theorem frz_ib {F : List Nat} (H : HeapOk ty c h fz) (hF : FzOk h F) : ∀ b o, (frzCtx c F).I b o → b < c.w.heap.size := by
  rintro b o (hI | ⟨id, i, hm, hi, hon, hb, _, _⟩)
  · exact H.ib b o hI
  · obtain ⟨ob, v, hg, hv⟩ := hF id hm
    rw [hb]; exact (fixed_block (H.hp id ob i hg hi) hv hon).2
theorem fixed_VR {F : List Nat} {id : Nat} {i : Info} {f : Bool} {o : Obj} {v : V} (hi : c.μ id = some i) (hF : id ∈ F) (hO : OR ty c f i o) (hv : o.fixed .frz = some v)
    (hext : Ext c (frzCtx c F)) : VR ty (frzCtx c F) v (.slice i.a i.len i.cap) := by
  have imm : ∀ n, i.on = true → n < i.len * i.sz → Imm (frzCtx c F) .frz i.b (i.o + n) := by
    intro n hon hn
    exact .inr ⟨id, i, hF, hi, hon, rfl, by omega, by omega⟩
  cases o with
  | ints k l =>
    simp [Obj.fixed] at hv; subst hv
    obtain ⟨ha, hc⟩ := hO
    simp only [VR]
    refine ⟨i.a, i.cap, by rw [ha.2.2.1], by rw [← ha.2.2.1]; exact ha.2.2.2.1, ?_⟩
    by_cases hl : l = []
    · exact .inl hl
    · right
      have hpos := List.length_pos_iff.2 hl
      have hon : i.on = true := by
        cases hh : i.on with
        | true => rfl
        | false => have := ha.2.2.2.2.1 hh; have := ha.2.2.1; have := ha.2.2.2.1; omega
      refine ⟨i.b, i.o, (ha.2.2.2.2.2 hon).1, fun j hj => ⟨imm j hon (by rw [ha.1, ha.2.2.1]; omega), hc j hj⟩⟩
  | bools l =>
    simp [Obj.fixed] at hv; subst hv
    obtain ⟨ha, hc⟩ := hO
    simp only [VR]
    refine ⟨i.a, i.cap, by rw [ha.2.2.1], by rw [← ha.2.2.1]; exact ha.2.2.2.1, ?_⟩
    by_cases hl : l = []
    · exact .inl hl
    · right
      have hpos := List.length_pos_iff.2 hl
      have hon : i.on = true := by
        cases hh : i.on with
        | true => rfl
        | false => have := ha.2.2.2.2.1 hh; have := ha.2.2.1; have := ha.2.2.2.1; omega
      refine ⟨i.b, i.o, (ha.2.2.2.2.2 hon).1, fun j hj => ⟨imm j hon (by rw [ha.1, ha.2.2.1]; omega), hc j hj⟩⟩
  | vals e l =>
    simp [Obj.fixed] at hv; subst hv
    obtain ⟨ei, he, hs, hok, ha, hc⟩ := hO
    simp only [VR]
    refine ⟨i.a, i.cap, ei, by rw [ha.2.2.1], by rw [← ha.2.2.1]; exact ha.2.2.2.1, he, hs, hok, ?_⟩
    by_cases hl : l = []
    · exact .inl hl
    · right
      have hpos := List.length_pos_iff.2 hl
      have hon : i.on = true := by
        cases hh : i.on with
        | true => rfl
        | false => have := ha.2.2.2.2.1 hh; have := ha.2.2.1; have := ha.2.2.2.1; omega
      refine ⟨i.b, i.o, (ha.2.2.2.2.2 hon).1, ER.of_at fun m hm => ?_⟩
      obtain ⟨y, hy, hsz, ht⟩ := hc m hm
      refine ⟨y, hy.mono hext, hsz, fun j hj => ⟨?_, ht j hj⟩⟩
      rw [Nat.add_assoc]
      refine imm _ hon ?_
      rw [ha.1, ha.2.2.1]
      have : (m + 1) * ei.leaves.length ≤ l.length * ei.leaves.length := Nat.mul_le_mul_right _ hm
      rw [Nat.succ_mul] at this; omega
  | cells l => simp [Obj.fixed] at hv
  | map _ _ _ _ => simp [Obj.fixed] at hv
theorem fixLeaf_ok {v x : V} {g F : List Nat} {y : Value} (H : HeapOk ty c h fz) (hF : FzOk h F) (hx : fixLeaf h v = some (x, g)) (hg : ∀ id ∈ g, id ∈ F) (hv : VR ty c v y) : VR ty (frzCtx c F) x y := by
  have hext := frz_ext H hF
  unfold fixLeaf at hx
  split at hx
  · rename_i id
    split at hx
    case h_2 => simp at hx
    rename_i o ho
    cases hfx : o.fixed .frz with
    | none => rw [hfx] at hx; simp at hx
    | some v' =>
      rw [hfx] at hx
      simp at hx
      obtain ⟨rfl, rfl⟩ := hx
      simp only [VR] at hv
      obtain ⟨i, hi, rfl⟩ := hv
      exact fixed_VR hi (hg id (by simp)) (H.hp id o i ho hi) hfx hext
  all_goals first
    | (simp at hx; obtain ⟨rfl, rfl⟩ := hx; exact hv.mono hext)
    | simp at hx
theorem fixLeaf_FzOk {v x : V} {g : List Nat} (hx : fixLeaf h v = some (x, g)) : FzOk h g := by
  unfold fixLeaf at hx
  split at hx
  · rename_i id
    split at hx
    case h_2 => simp at hx
    rename_i o ho
    cases hfx : o.fixed .frz with
    | none => rw [hfx] at hx; simp at hx
    | some v' =>
      rw [hfx] at hx
      simp at hx
      obtain ⟨rfl, rfl⟩ := hx
      intro id' hid
      simp at hid
      subst hid
      exact ⟨o, v', ho, hfx⟩
  all_goals first
    | (simp at hx; obtain ⟨rfl, rfl⟩ := hx; intro id hid; simp at hid)
    | simp at hx
theorem fixAll_ok {F : List Nat} (H : HeapOk ty c h fz) (hF : FzOk h F) : ∀ {l xs : List V} {g : List Nat} {ys : List Value}, fixAll h l = some (xs, g) → (∀ id ∈ g, id ∈ F) → CR ty c l ys → CR ty (frzCtx c F) xs ys
  | [], xs, g, ys, hx, _, hl => by
    simp [fixAll] at hx
    obtain ⟨rfl, rfl⟩ := hx
    simpa only [CR] using hl
  | v :: r, xs, g, ys, hx, hg, hl => by
    simp only [fixAll] at hx
    split at hx
    case h_2 => simp at hx
    rename_i x f xs' g' hv hr
    simp at hx
    obtain ⟨rfl, rfl⟩ := hx
    simp only [CR] at hl ⊢
    obtain ⟨y, ys', rfl, hy, hc, hr'⟩ := hl
    exact ⟨y, ys', rfl, fixLeaf_ok H hF hv (fun id hid => hg id (by simp [hid])) hy, hc, fixAll_ok H hF hr (fun id hid => hg id (by simp [hid])) hr'⟩
theorem fixAll_FzOk : ∀ {l xs : List V} {g : List Nat}, fixAll h l = some (xs, g) → FzOk h g
  | [], xs, g, hx => by
    simp [fixAll] at hx
    obtain ⟨rfl, rfl⟩ := hx
    intro id hid; simp at hid
  | v :: r, xs, g, hx => by
    simp only [fixAll] at hx
    split at hx
    case h_2 => simp at hx
    rename_i x f xs' g' hv hr
    simp at hx
    obtain ⟨rfl, rfl⟩ := hx
    intro id hid
    rcases List.mem_append.1 hid with hid | hid
    · exact fixLeaf_FzOk hv id hid
    · exact fixAll_FzOk hr id hid
theorem fixV_ok {v x : V} {g F : List Nat} {y : Value} (H : HeapOk ty c h fz) (hF : FzOk h F) (hx : fixV h v = some (x, g)) (hg : ∀ id ∈ g, id ∈ F) (hv : VR ty c v y) : VR ty (frzCtx c F) x y := by
  unfold fixV at hx
  split at hx
  · rename_i l
    cases ha : fixAll h l with
    | none => rw [ha] at hx; simp at hx
    | some p =>
      rw [ha] at hx
      simp at hx
      obtain ⟨rfl, rfl⟩ := hx
      simp only [VR] at hv ⊢
      obtain ⟨xs, rfl, hl⟩ := hv
      exact ⟨xs, rfl, fixAll_ok H hF ha hg hl⟩
  · exact fixLeaf_ok H hF hx hg hv
theorem fixV_FzOk {v x : V} {g : List Nat} (hx : fixV h v = some (x, g)) : FzOk h g := by
  unfold fixV at hx
  split at hx
  · rename_i l
    cases ha : fixAll h l with
    | none => rw [ha] at hx; simp at hx
    | some p =>
      rw [ha] at hx
      simp at hx
      obtain ⟨rfl, rfl⟩ := hx
      exact fixAll_FzOk ha
  · exact fixLeaf_FzOk hx
theorem fillInts_ok (hρ : ∀ o v, ρ o = some v → VR ty c v (ρ' o)) {k : IntKind} : ∀ (ps : List (Nat × Operand)) (l l' : List Int) (cs : Array Value), fillInts ρ k ps l = some l' → cs.toList = flatV (l.map (Value.int k)) →
    ∃ cs', Instr.fill (fun i => some (i * 1, 1)) cs (ps.map fun p => (p.1, ρ' p.2)) = some cs' ∧ cs'.toList = flatV (l'.map (Value.int k)) ∧ l'.length = l.length
  | [], l, l', cs, hr, hl => by simp [fillInts] at hr; subst hr; exact ⟨cs, rfl, hl, rfl⟩
  | (i, o) :: r, l, l', cs, hr, hl => by
    simp only [fillInts] at hr
    split at hr
    case h_2 => simp at hr
    rename_i k' n hv
    cases hc : (IntKind.same k k' && Nat.blt i l.length)
    · rw [hc] at hr; simp at hr
    rw [hc] at hr
    simp only [cond_true] at hr
    simp only [Bool.and_eq_true] at hc
    obtain rfl := same_eq hc.1
    have hlt : i < l.length := by simpa using hc.2
    have hvr := hρ _ _ hv
    rw [vr_int] at hvr
    have hall : ∀ y ∈ l.map (Value.int k), y.cells.size = 1 := by
      intro y hy
      obtain ⟨m, _, rfl⟩ := List.mem_map.1 hy
      rfl
    have hlen : cs.size = l.length := by rw [← Array.length_toList, hl, flatV_length hall]; simp
    have hset := flatV_set hall i (by simpa using hlt) (.int k n) rfl
    rw [← hl, ← foldl_set (cs := cs) (ys := (Value.int k n).cells), ← List.map_set] at hset
    obtain ⟨cs', hf', hl', hn'⟩ := fillInts_ok hρ r _ l' _ hr hset
    refine ⟨cs', ?_, hl', by simpa using hn'⟩
    simp only [List.map_cons, Instr.fill, hvr]
    rw [if_neg]
    · exact hf'
    · simp [Value.cells]; omega
theorem fillBools_ok (hρ : ∀ o v, ρ o = some v → VR ty c v (ρ' o)) : ∀ (ps : List (Nat × Operand)) (l l' : List Bool) (cs : Array Value), fillBools ρ ps l = some l' → cs.toList = flatV (l.map Value.bool) →
    ∃ cs', Instr.fill (fun i => some (i * 1, 1)) cs (ps.map fun p => (p.1, ρ' p.2)) = some cs' ∧ cs'.toList = flatV (l'.map Value.bool) ∧ l'.length = l.length
  | [], l, l', cs, hr, hl => by simp [fillBools] at hr; subst hr; exact ⟨cs, rfl, hl, rfl⟩
  | (i, o) :: r, l, l', cs, hr, hl => by
    simp only [fillBools] at hr
    split at hr
    case h_2 => simp at hr
    rename_i b hv
    cases hc : Nat.blt i l.length
    · rw [hc] at hr; simp at hr
    rw [hc] at hr
    simp only [cond_true] at hr
    have hlt : i < l.length := by simpa using hc
    have hvr := hρ _ _ hv
    rw [vr_bool] at hvr
    have hall : ∀ y ∈ l.map Value.bool, y.cells.size = 1 := by
      intro y hy
      obtain ⟨m, _, rfl⟩ := List.mem_map.1 hy
      rfl
    have hlen : cs.size = l.length := by rw [← Array.length_toList, hl, flatV_length hall]; simp
    have hset := flatV_set hall i (by simpa using hlt) (.bool b) rfl
    rw [← hl, ← foldl_set (cs := cs) (ys := (Value.bool b).cells), ← List.map_set] at hset
    obtain ⟨cs', hf', hl', hn'⟩ := fillBools_ok hρ r _ l' _ hr hset
    refine ⟨cs', ?_, hl', by simpa using hn'⟩
    simp only [List.map_cons, Instr.fill, hvr]
    rw [if_neg]
    · exact hf'
    · simp [Value.cells]; omega
theorem fillVals_mono {ti : TyI} : ∀ (ps : List (Nat × Operand)) (l l' : List V) (f g : List Nat), fillVals ty h ti ρ ps l f = some (l', g) → (∀ id ∈ f, id ∈ g) ∧ (FzOk h f → FzOk h g)
  | [], l, l', f, g, hr => by simp [fillVals] at hr; obtain ⟨rfl, rfl⟩ := hr; exact ⟨fun _ h => h, id⟩
  | (i, o) :: r, l, l', f, g, hr => by
    simp only [fillVals] at hr
    split at hr
    case h_2 => simp at hr
    rename_i v hv
    split at hr
    case h_2 => simp at hr
    rename_i x g' hx
    cases hc : (okV ty .frz ti x && Nat.blt i l.length)
    · rw [hc] at hr; simp at hr
    rw [hc] at hr
    obtain ⟨h1, h2⟩ := fillVals_mono r _ l' _ g hr
    refine ⟨fun id hid => h1 id (by simp [hid]), fun hf => h2 ?_⟩
    intro id hid
    rcases List.mem_append.1 hid with hid | hid
    · exact hf id hid
    · exact fixV_FzOk hx id hid
theorem fillVals_ok (H : HeapOk ty c h fz) (hρ : ∀ o v, ρ o = some v → VR ty c v (ρ' o)) {ti : TyI} {F : List Nat} (hF : FzOk h F) : ∀ (ps : List (Nat × Operand)) (l l' : List V) (f g : List Nat) (ys : List Value) (cs : Array Value),
    fillVals ty h ti ρ ps l f = some (l', g) → (∀ id ∈ g, id ∈ F) → cs.toList = flatV ys → ys.length = l.length → (∀ y ∈ ys, y.cells.size = ti.leaves.length) →
    (∀ j (h : j < l.length) (h' : j < ys.length), VR ty (frzCtx c F) l[j] ys[j]) → (∀ v ∈ l, okV ty .frz ti v = true) →
    ∃ cs' ys', Instr.fill (fun i => some (i * ti.leaves.length, ti.leaves.length)) cs (ps.map fun p => (p.1, ρ' p.2)) = some cs' ∧ cs'.toList = flatV ys' ∧ ys'.length = l'.length ∧ l'.length = l.length ∧
      (∀ y ∈ ys', y.cells.size = ti.leaves.length) ∧ (∀ j (h : j < l'.length) (h' : j < ys'.length), VR ty (frzCtx c F) l'[j] ys'[j]) ∧ (∀ v ∈ l', okV ty .frz ti v = true)
  | [], l, l', f, g, ys, cs, hr, _, hcs, hlen, hall, hvr, hok => by
    simp [fillVals] at hr
    obtain ⟨rfl, rfl⟩ := hr
    exact ⟨cs, ys, rfl, hcs, hlen, rfl, hall, hvr, hok⟩
  | (i, o) :: r, l, l', f, g, ys, cs, hr, hg, hcs, hlen, hall, hvr, hok => by
    simp only [fillVals] at hr
    split at hr
    case h_2 => simp at hr
    rename_i v hv
    split at hr
    case h_2 => simp at hr
    rename_i x g' hx
    cases hc : (okV ty .frz ti x && Nat.blt i l.length)
    · rw [hc] at hr; simp at hr
    rw [hc] at hr
    simp only [cond_true] at hr
    simp only [Bool.and_eq_true] at hc
    have hlt : i < l.length := by simpa using hc.2
    obtain ⟨h1, _⟩ := fillVals_mono r _ l' _ g hr
    have hxv := fixV_ok H hF hx (fun id hid => hg id (h1 id (by simp [hid]))) (hρ _ _ hv)
    have hysz : (ρ' o).cells.size = ti.leaves.length := by
      have h1 := (okV_CR hc.1 hxv).len
      rw [okV_proj hc.1, leavesOk_len (okV_cells hc.1).1] at h1
      simpa using h1
    have hset := flatV_set hall i (by omega) (ρ' o) hysz
    rw [← hcs, ← foldl_set] at hset
    have hcl : cs.size = ys.length * ti.leaves.length := by rw [← Array.length_toList, hcs, flatV_length hall]
    obtain ⟨cs', ys', hf', g1, g2, g3, g4, g5, g6⟩ := fillVals_ok H hρ hF r (l.set i x) l' _ g (ys.set i (ρ' o)) _ hr hg hset (by simp [hlen]) (fun y hy => by
        rcases List.mem_or_eq_of_mem_set hy with hy | rfl
        · exact hall y hy
        · exact hysz) (fun j hj hj' => by
        simp only [List.getElem_set]
        by_cases hij : i = j
        · subst hij; simp [hxv]
        · rw [if_neg hij, if_neg hij]; exact hvr j (by simpa using hj) (by simpa using hj')) (fun w hw => by
        rcases List.mem_or_eq_of_mem_set hw with hw | rfl
        · exact hok w hw
        · exact hc.1)
    refine ⟨cs', ys', ?_, g1, g2, by simpa using g3, g4, g5, g6⟩
    simp only [List.map_cons, Instr.fill]
    rw [if_neg]
    · exact hf'
    · have : (i + 1) * ti.leaves.length ≤ ys.length * ti.leaves.length := Nat.mul_le_mul_right _ (by omega)
      rw [Nat.succ_mul] at this
      simp; omega
end
end Go.Vm
end
section
namespace Go.Vm
open Go.RowKit
section
variable {P : Program} {ty : Tys} {c : Ctx} {nx : Nat} {h : Heap} {fz : List Nat} {ρ : Operand → Option V} {ρ' : Operand → Value}
theorem run_buildSlice {t e : TypeId} {inf : TypeInfo} {z : Value} {len : Nat} {parts : Array (Nat × Value)} {w : World} (hu : P.underlying t = some (.slice e)) (hi : P.info? e = some inf) (hz : inf.zero = some z)
    (hle : len * inf.size ≤ 16777216) (hsz : inf.size = z.cells.size) (hpos : 0 < z.cells.size) {y : Value} (hy : y.cells = z.cells) {cs' : Array Value}
    (hfill : ∀ cs, cs.toList = flatV (List.replicate len y) → Instr.fill (fun i => some (i * inf.size, inf.size)) cs parts.toList = some cs') :
    (Instr.buildSlice t len parts).run P w = .ok (.slice (some ⟨w.heap.size, 0, none⟩) len len) (w.alloc (.cells cs' e)) := by
  unfold Instr.buildSlice
  rw [run_bind (run_underlying hu)]
  simp only []
  rw [run_bind (run_sizeOf hi)]
  rw [if_neg (by omega)]
  have hrow := hfill ((Array.range (len * z.cells.size)).map (z.cells[· % z.cells.size]!)) (zero_row hy len hpos)
  by_cases hz0 : len * inf.size = 0
  · rw [if_pos hz0, run_bind run_pure]
    have hl0 : len = 0 := by
      rcases Nat.mul_eq_zero.1 hz0 with h | h
      · exact h
      · omega
    have e0 : ∀ f : Nat → Value, Array.map f (Array.range 0) = #[] := fun f => by simp
    rw [hl0, Nat.zero_mul, e0] at hrow
    rw [hz0, e0, hrow]
    simp only []
    rw [run_bind run_newRow]; rfl
  · rw [if_neg hz0, run_bind (run_zeroValue hi hz), run_bind run_pure]
    rw [hsz] at hrow ⊢
    rw [hrow]
    simp only []
    rw [run_bind run_newRow]; rfl
theorem FrontOk.of_frz {F : List Nat} {r : Res} {c' : Ctx} {x : Value} (hF : FzOk h F) (hext : Ext c (frzCtx c F)) (hfz : r.fz = F) (hIc : c'.I = frzI c F) (hO : FrontOk ty (frzCtx c F) h nx r c' x) : FrontOk ty c h nx r c' x where
  ext := hext.trans hO.ext
  vr := hO.vr
  infos := hO.infos
  hI := fun b o hI => by
    rw [hIc] at hI
    rw [hfz]
    exact hI.imp id fun ⟨id, i, hm, hr⟩ => ⟨id, i, hm, hF id hm, hr⟩
  old := hO.old
theorem buildSlice_sound (hT : TyOk P ty) (H : HeapOk ty c h fz) (hρ : ∀ o v, ρ o = some v → VR ty c v (ρ' o)) {r : Res} (hf : Fr c.μ nx r.objs.length) (hb : Room c)
    {t rty : TypeId} {len : Nat} {parts : Array (Nat × Operand)} (hr : front ty h nx ρ rty (.buildSlice t len parts) = some r) :
    FrontGoal P ty c h nx (do pure (.value (← Instr.buildSlice t len (parts.map fun (i, x) => (i, ρ' x))))) r ∧ FzOk h r.fz := by
  simp only [front] at hr
  cases he : slElem ty t with
  | none => rw [he] at hr; simp at hr
  | some e =>
  rw [he] at hr
  simp only [Option.bind_some] at hr
  split at hr
  case h_2 => simp at hr
  rename_i ei sh hei hsh
  cases hby : (Nat.ble (len * ei.leaves.length) 16777216 && Nat.blt 0 ei.leaves.length)
  · rw [hby] at hr; simp at hr
  rw [hby] at hr
  simp only [cond_true] at hr
  simp only [Bool.and_eq_true, Nat.ble_eq] at hby
  have hn : ei.leaves ≠ [] := by intro e; rw [e] at hby; simp at hby
  have hu := hT.sl t e he
  obtain ⟨inf, hinf, hsz, hbytes, z, hz, hzc⟩ := hT.info e ei hei hn
  have hzs : z.cells.size = ei.leaves.length := by rw [← Array.length_toList, hzc]; simp
  have ib := H.ib
  have hparts : (parts.map fun (i, x) => (i, ρ' x)).toList = parts.toList.map fun p => (p.1, ρ' p.2) := by simp
  have fin : ∀ (F : List Nat) (o : Obj) (sz : Nat) (y : Value) (cs' : Array Value), FzOk h F → y.cells = z.cells → r.v = .own nx → r.objs = [o] → r.fz = F → 
      (∀ cs, cs.toList = flatV (List.replicate len y) → Instr.fill (fun i => some (i * inf.size, inf.size)) cs (parts.toList.map fun p => (p.1, ρ' p.2)) = some cs') →
      OR ty (newCtx (frzCtx c F) nx (c.w.alloc (.cells cs' e)) [newArr c len sz]) false (newArr c len sz) o →
      FrontGoal P ty c h nx (do pure (.value (← Instr.buildSlice t len (parts.map fun (i, x) => (i, ρ' x))))) r ∧ FzOk h r.fz := by
    intro F o sz y cs' hF hy hv ho hfz hfill hO
    have hext := frz_ext H hF
    have hrun := run_buildSlice (w := c.w) (parts := parts.map fun (i, x) => (i, ρ' x)) hu hinf hz (by rw [hsz]; exact hby.1) (by omega) (by rw [hzs]; exact List.length_pos_iff.2 hn) hy (cs' := cs') (by rw [hparts]; exact hfill)
    refine ⟨⟨_, .slice (some ⟨c.w.heap.size, 0, none⟩) len len, ?_, FrontOk.of_frz hF hext hfz rfl (FrontOk.block (c := frzCtx c F) (o := .cells cs' e) (i := newArr c len sz) (is := []) hf hb (frz_ib H hF) (by rw [ho]; rfl) rfl (by simp)
      (fun h' => by simp only [ho, List.getElem_cons_zero]; exact hO) (fun c k hk _ => absurd hk (by simp)) ?_)⟩, by rw [hfz]; exact hF⟩
    · show ((Instr.buildSlice t len (parts.map fun (i, x) => (i, ρ' x)) >>= fun y => pure (Next.value y)) : Sem Next).run P c.w = _
      rw [run_bind hrun]; rfl
    · rw [hv]; simp only [VR]
      exact ⟨newArr c len sz, by simp [newCtx, updM], rfl⟩
  have hF0 : FzOk h [] := by intro id hid; simp at hid
  cases sh with
  | ints k' =>
    obtain ⟨_, heq, hag, h1, hlv, _⟩ := shOf_one hsh (by simp)
    rw [hei] at heq
    cases heq
    have hlv' := hlv k' rfl
    cases hfi : fillInts ρ k' parts.toList (List.replicate len 0) with
    | none => simp only [hfi] at hr; simp at hr
    | some l =>
      simp only [hfi] at hr
      simp at hr
      subst hr
      have hs1 : inf.size = 1 := by rw [hsz, h1]
      have step : ∀ cs, cs.toList = flatV (List.replicate len (Value.int k' 0)) → ∃ cs', Instr.fill (fun i => some (i * 1, 1)) cs (parts.toList.map fun p => (p.1, ρ' p.2)) = some cs' ∧ cs'.toList = flatV (l.map (Value.int k')) ∧ l.length = len := by
        intro cs hcs
        obtain ⟨cs', g1, g2, g3⟩ := fillInts_ok hρ parts.toList _ l cs hfi (by simpa using hcs)
        exact ⟨cs', g1, g2, by simpa using g3⟩
      obtain ⟨cs', g1, g2, g3⟩ := step ⟨flatV (List.replicate len (Value.int k' 0))⟩ rfl
      refine fin [] _ 1 (.int k' 0) cs' hF0 ?_ rfl rfl rfl ?_ ?_
      · apply Array.toList_inj.1
        rw [hzc, hlv']; rfl
      · intro cs hcs
        rw [hs1]
        have : cs = ⟨flatV (List.replicate len (Value.int k' 0))⟩ := Array.toList_inj.1 hcs
        rw [this]; exact g1
      · rw [← g3]
        exact OR_new_ints (c := c) (T := e) hb.mine (frz_ib H hF0) rfl g2
  | bools =>
    obtain ⟨_, heq, hag, h1, _, hlv⟩ := shOf_one hsh (by simp)
    rw [hei] at heq
    cases heq
    have hlv' := hlv rfl
    cases hfi : fillBools ρ parts.toList (List.replicate len false) with
    | none => simp only [hfi] at hr; simp at hr
    | some l =>
      simp only [hfi] at hr
      simp at hr
      subst hr
      have hs1 : inf.size = 1 := by rw [hsz, h1]
      obtain ⟨cs', g1, g2, g3⟩ := fillBools_ok hρ parts.toList _ l ⟨flatV (List.replicate len (Value.bool false))⟩ hfi (by simp)
      refine fin [] _ 1 (.bool false) cs' hF0 ?_ rfl rfl rfl ?_ ?_
      · apply Array.toList_inj.1
        rw [hzc, hlv']; rfl
      · intro cs hcs
        rw [hs1]
        have : cs = ⟨flatV (List.replicate len (Value.bool false))⟩ := Array.toList_inj.1 hcs
        rw [this]; exact g1
      · have g3' : l.length = len := by simpa using g3
        rw [← g3']
        exact OR_new_bools (c := c) (T := e) hb.mine (frz_ib H hF0) rfl g2
  | vals =>
    cases hzf : zeroFixed ty ei.leaves with
    | none => simp only [hzf] at hr; simp at hr
    | some zs =>
      simp only [hzf] at hr
      obtain ⟨y, hy, hvr, hokz⟩ := pack_zero hT hei hn hzf hzc
      cases hfv : fillVals ty h ei ρ parts.toList (List.replicate len (pack ei.agg zs)) [] with
      | none => rw [hfv] at hr; simp at hr
      | some p =>
        rw [hfv] at hr
        simp at hr
        subst hr
        have hF := (fillVals_mono parts.toList _ p.1 [] p.2 hfv).2 hF0
        obtain ⟨cs', ys', g1, g2, g3, g4, g5, g6, g7⟩ := fillVals_ok H hρ hF parts.toList _ p.1 [] p.2 (List.replicate len y) ⟨flatV (List.replicate len y)⟩ hfv (fun _ h => h) rfl (by simp)
          (fun w hw => by rw [List.eq_of_mem_replicate hw, hy, hzs]) (fun j _ _ => by simpa using hvr _) (fun w hw => by rw [List.eq_of_mem_replicate hw]; exact hokz)
        have g4' : p.1.length = len := by simpa using g4
        refine fin p.2 _ ei.leaves.length y cs' hF hy rfl rfl rfl ?_ ?_
        · intro cs hcs
          have : cs = ⟨flatV (List.replicate len y)⟩ := Array.toList_inj.1 hcs
          rw [this, hsz]; exact g1
        · rw [← g4']
          have hext2 : Ext (frzCtx c p.2) (newCtx (frzCtx c p.2) nx (c.w.alloc (.cells cs' e)) [newArr c p.1.length ei.leaves.length]) := newCtx_ext_alloc (c := frzCtx c p.2) hf hb (frz_ib H hF)
          exact OR_new_vals (c := c) (T := e) hei hsh hn g7 hb.mine (frz_ib H hF) rfl g2 g3 g5 (fun j h1 h2 => (g6 j h1 h2).mono hext2)
end
end Go.Vm
end
section
namespace Go.Vm
open Go.RowKit
section
variable {P : Program} {ty : Tys} {c : Ctx}
theorem plain_isAgg {t : TypeId} {l : Leaf} (h : PlainLeaf P t l) : isAggP P t = some false := by
  cases l <;> simp only [PlainLeaf] at h <;> first | exact h.elim | (unfold isAggP; rw [h])
theorem eq_cell {d : Nat} {t : TypeId} {l : Leaf} {v v' : V} {x y : Value} {r : Bool} {rest : List Leaf} {a b : List V} (h : PlainLeaf P t l)
    (hr : binV.eqCells (l :: rest) (v :: a) (v' :: b) = some r) (hx : VR ty c v x) (hy : VR ty c v' y) :
    ∃ e r', (Op.equalIn (d + 1) t x y).run P c.w = .ok e c.w ∧ binV.eqCells rest a b = some r' ∧ r = (e && r') := by
  cases l with
  | int k0 =>
    simp only [PlainLeaf] at h
    cases v <;> cases v' <;> simp only [binV.eqCells] at hr <;> try (simp at hr; done)
    rename_i k n k' n'
    cases hk : IntKind.same k k'
    · rw [hk] at hr; simp at hr
    rw [hk] at hr
    obtain rfl := same_eq hk
    simp only [cond_true] at hr
    cases hrest : binV.eqCells rest a b with
    | none => rw [hrest] at hr; simp at hr
    | some r' =>
      rw [hrest] at hr
      simp at hr
      rw [vr_int] at hx hy
      rw [hx, hy]
      exact ⟨_, r', run_equalIn_int c.w d t k k0 n n' h, rfl, hr.symm⟩
  | bool =>
    simp only [PlainLeaf] at h
    cases v <;> cases v' <;> simp only [binV.eqCells] at hr <;> try (simp at hr; done)
    rename_i n n'
    cases hrest : binV.eqCells rest a b with
    | none => rw [hrest] at hr; simp at hr
    | some r' =>
      rw [hrest] at hr
      simp at hr
      rw [vr_bool] at hx hy
      rw [hx, hy]
      exact ⟨_, r', run_equalIn_bool' c.w d t n n' h, rfl, hr.symm⟩
  | _ => exact h.elim
theorem eq_fields {d : Nat} {xs ys : Array Value} : ∀ (fs : List Field) (ls : List Leaf) (a b : List V) (j : Nat) (r : Bool), binV.eqCells ls a b = some r → fs.length = ls.length →
    (∀ k (h : k < fs.length) (h' : k < ls.length), fs[k].name ≠ "_" ∧ fs[k].offset = j + k ∧ PlainLeaf P fs[k].type ls[k]) →
    CR ty c a (xs.toList.drop j) → CR ty c b (ys.toList.drop j) → (Op.eqFields (d + 1) xs ys fs).run P c.w = .ok r c.w
  | [], [], a, b, j, r, hr, _, _, _, _ => by
    cases a <;> cases b <;> simp [binV.eqCells] at hr
    subst hr; rfl
  | [], _ :: _, _, _, _, _, _, hl, _, _, _ => by simp at hl
  | _ :: _, [], _, _, _, _, _, hl, _, _, _ => by simp at hl
  | f :: fs, l :: ls, a, b, j, r, hr, hl, hf, ha, hb => by
    obtain ⟨hn, ho, hp⟩ := hf 0 (by simp) (by simp)
    simp only [List.getElem_cons_zero, Nat.add_zero] at hn ho hp
    cases a with
    | nil => cases l <;> simp [binV.eqCells] at hr
    | cons v a => cases b with
      | nil => cases l <;> cases v <;> simp [binV.eqCells] at hr
      | cons v' b =>
        have ha0 := ha
        have hb0 := hb
        simp only [CR] at ha hb
        obtain ⟨x, xs', ex, hx, _, ha'⟩ := ha
        obtain ⟨y, ys', ey, hy, _, hb'⟩ := hb
        obtain ⟨e, r', he, hr', rfl⟩ := eq_cell (P := P) (d := d) hp hr hx hy
        have gx : xs[j]? = some x := by
          have : (xs.toList.drop j)[0]? = some x := by rw [ex]; rfl
          simpa using this
        have gy : ys[j]? = some y := by
          have : (ys.toList.drop j)[0]? = some y := by rw [ey]; rfl
          simpa using this
        have hxd : xs.toList.drop (j + 1) = xs' := by
          have : (xs.toList.drop j).drop 1 = xs' := by rw [ex]; rfl
          simpa [List.drop_drop] using this
        have hyd : ys.toList.drop (j + 1) = ys' := by
          have : (ys.toList.drop j).drop 1 = ys' := by rw [ey]; rfl
          simpa [List.drop_drop] using this
        have ih := eq_fields (d := d) fs ls a b (j + 1) r' hr' (by simpa using hl) (fun k hk hk' => by
          have := hf (k + 1) (by simpa using hk) (by simpa using hk')
          simp only [List.getElem_cons_succ] at this
          exact ⟨this.1, by rw [this.2.1]; omega, this.2.2⟩) (by rw [hxd]; exact ha') (by rw [hyd]; exact hb')
        have hag := plain_isAgg hp
        simp only [Op.eqFields]
        rw [if_pos hn, ho, run_bind (run_part_cell hag gx), run_bind (run_part_cell hag gy), run_bind he]
        cases e
        · rfl
        · simpa using ih
theorem eq_items {d : Nat} {xs ys : Array Value} {e : TypeId} {l : Leaf} (hp : PlainLeaf P e l) : ∀ (ls : List Leaf) (a b : List V) (j : Nat) (r : Bool), binV.eqCells ls a b = some r →
    (∀ x ∈ ls, x = l) → CR ty c a (xs.toList.drop j) → CR ty c b (ys.toList.drop j) → (Op.eqItems (d + 1) e 1 xs ys (List.range' j ls.length)).run P c.w = .ok r c.w
  | [], a, b, j, r, hr, _, _, _ => by
    cases a <;> cases b <;> simp [binV.eqCells] at hr
    subst hr; rfl
  | l' :: ls, a, b, j, r, hr, hl, ha, hb => by
    obtain rfl := hl l' (by simp)
    cases a with
    | nil => cases l' <;> simp [binV.eqCells] at hr
    | cons v a => cases b with
      | nil => cases l' <;> cases v <;> simp [binV.eqCells] at hr
      | cons v' b =>
        simp only [CR] at ha hb
        obtain ⟨x, xs', ex, hx, _, ha'⟩ := ha
        obtain ⟨y, ys', ey, hy, _, hb'⟩ := hb
        obtain ⟨q, r', he, hr', rfl⟩ := eq_cell (P := P) (d := d) hp hr hx hy
        have gx : xs[j * 1]? = some x := by
          have : (xs.toList.drop j)[0]? = some x := by rw [ex]; rfl
          simpa using this
        have gy : ys[j * 1]? = some y := by
          have : (ys.toList.drop j)[0]? = some y := by rw [ey]; rfl
          simpa using this
        have hxd : xs.toList.drop (j + 1) = xs' := by
          have : (xs.toList.drop j).drop 1 = xs' := by rw [ex]; rfl
          simpa [List.drop_drop] using this
        have hyd : ys.toList.drop (j + 1) = ys' := by
          have : (ys.toList.drop j).drop 1 = ys' := by rw [ey]; rfl
          simpa [List.drop_drop] using this
        have ih := eq_items (d := d) hp ls a b (j + 1) r' hr' (fun x hx => hl x (by simp [hx])) (by rw [hxd]; exact ha') (by rw [hyd]; exact hb')
        have hag := plain_isAgg hp
        simp only [List.length_cons, List.range'_succ, Op.eqItems]
        rw [run_bind (run_part_cell hag gx), run_bind (run_part_cell hag gy), run_bind he]
        cases q
        · rfl
        · simpa using ih
theorem equal_agg {t : TypeId} {i : TyI} {a b : List V} {xs ys : Array Value} {r : Bool} (hp : PlainTy P t i) (hag : i.agg = true) (hr : binV.eqCells i.leaves a b = some r)
    (ha : CR ty c a xs.toList) (hb : CR ty c b ys.toList) : (Op.equalIn 10000 t (.agg xs) (.agg ys)).run P c.w = .ok r c.w := by
  rcases hp with ⟨_, _, ⟨_, hu, hst, hsz, hf⟩ | ⟨e, l, inf, _, hu, hi, h1, hl, hpl⟩⟩ | ⟨hx, _⟩
  · rw [run_equalIn_struct c.w 9999 t xs ys hu hst]
    refine eq_fields (P := P) (d := 9998) _ i.leaves a b 0 r hr (by simpa using hsz) (fun k hk hk' => ?_) (by simpa using ha) (by simpa using hb)
    have := hf k (P.fieldsOf t).toList[k] i.leaves[k] (by simp at hk ⊢) (by simp [hk'])
    simpa using this
  · rw [run_equalIn_array c.w 9999 xs ys hu hi]
    have hc1 : P.cellsOf e = 1 := by unfold Program.cellsOf; rw [hi]; simpa using h1
    rw [hc1, List.range_eq_range']
    exact eq_items (P := P) (d := 9998) hpl i.leaves a b 0 r hr hl (by simpa using ha) (by simpa using hb)
  · rw [hag] at hx; cases hx
theorem bin_agg (hT : TyOk P ty) {op : BinOp} {xt : TypeId} {a b : List V} {x y : Operand} {va vb : Value} {r : Res}
    (hr : binV op ty xt (.agg a) (.agg b) = some r) (ha : VR ty c (.agg a) va) (hb : VR ty c (.agg b) vb) :
    ∃ v, ((do eqGuard op xt x y va vb; binOp op xt va vb) : Sem Value).run P c.w = .ok v c.w ∧ VR ty c r.v v ∧ r.objs = [] ∧ r.ok = true := by
  simp only [VR] at ha hb
  obtain ⟨xs, rfl, hxs⟩ := ha
  obtain ⟨ys, rfl, hys⟩ := hb
  simp only [binV] at hr
  split at hr
  case h_2 => simp at hr
  rename_i ti ht
  cases hpl : (ti.plain && ti.agg)
  · rw [hpl] at hr; simp at hr
  rw [hpl] at hr
  simp only [cond_true] at hr
  simp only [Bool.and_eq_true] at hpl
  have hP := hT.plain xt ti ht hpl.1
  have hg : P.eqGuardType P.depth xt = false := by
    rcases hP with ⟨_, h, _⟩ | ⟨h, _⟩
    · exact h
    · rw [hpl.2] at h; cases h
  have guard : ∀ op, (eqGuard op xt x y (.agg xs) (.agg ys)).run P c.w = .ok () c.w := by
    intro op
    unfold eqGuard
    have hbody : ((do
        if !(← program).eqGuardType (← program).depth xt then return
        if ← Op.eqGuardIn Op.maxDepth xt (.agg xs) (.agg ys) then unsupported (.noEntry "binop/eql: two nil values of an interface type with methods, in a part of a struct or an array")) : Sem Unit).run P c.w = .ok () c.w := by
      rw [run_bind (show program.run P c.w = .ok P c.w from rfl), run_bind (show program.run P c.w = .ok P c.w from rfl), hg]
      rfl
    cases op <;> first | rfl | exact hbody
  cases op <;> simp only [] at hr <;> try (simp at hr; done)
  · cases he : binV.eqCells ti.leaves a b with
    | none => rw [he] at hr; simp at hr
    | some e =>
      rw [he] at hr
      simp at hr
      subst hr
      refine ⟨.bool e, ?_, by simp only [VR], rfl, rfl⟩
      rw [run_bind (guard _)]
      simp only [binOp]
      rw [run_bind (show (Op.equal xt (.agg xs) (.agg ys)).run P c.w = .ok e c.w from equal_agg hP hpl.2 he hxs hys)]
      rfl
  · cases he : binV.eqCells ti.leaves a b with
    | none => rw [he] at hr; simp at hr
    | some e =>
      rw [he] at hr
      simp at hr
      subst hr
      refine ⟨.bool (!e), ?_, by simp only [VR]; rfl, rfl, rfl⟩
      rw [run_bind (guard _)]
      simp only [binOp]
      rw [run_bind (show (Op.equal xt (.agg xs) (.agg ys)).run P c.w = .ok e c.w from equal_agg hP hpl.2 he hxs hys)]
      rfl
end
end Go.Vm
end
