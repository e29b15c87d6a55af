/-
  A part of the proof that FabricPads answers true at every input. No condition.
-/
import Derived.Laws.Sem
import Derived.Test.YtnjjhhbogdiceaaGreatV2
section
namespace Go.Vm
open Go.RowKit
section
variable {P : Program} {ty : Tys} {c c1 : Ctx} {h h1 : Heap} {fz fz1 : List Nat}
def imC (c1 : Ctx) (B : Nat × (Nat → Prop)) (μ : Nat → Option Info) : Ctx := { w := c1.w, base := B.1, F := B.2, I := c1.I, μ := μ }
def ImB (c1 : Ctx) (B : Nat × (Nat → Prop)) : Prop := B.1 ≤ c1.base ∧ ∀ b, B.2 b → b < c1.base
theorem ImB.mine {c1 : Ctx} {B : Nat × (Nat → Prop)} (hB : ImB c1 B) {μ : Nat → Option Info} {b : Nat} (h : Mine c1 b) : Mine (imC c1 B μ) b := ⟨Nat.le_trans hB.1 h.1, fun hF => Nat.lt_irrefl _ (Nat.lt_of_lt_of_le (hB.2 _ hF) h.1)⟩
theorem seen_im {B : Nat × (Nat → Prop)} {μ : Nat → Option Info} : Seen (· = .frz) c1 (imC c1 B μ) := by
  intro t b o ht hi
  subst ht
  exact ⟨hi, rfl⟩
def ImpAt (ty : Tys) (c1 : Ctx) (h1 : Heap) (B : Nat × (Nat → Prop)) (id : Nat) (o : Obj) (i : Info) : Prop :=
  (∀ μ, OR ty (imC c1 B μ) false i o) ∧ ∃ i0 o0, get id h1 = some o0 ∧ c1.μ id = some i0 ∧ (i.on = true → i0.on = true ∧ i.b = i0.b ∧ Mine c1 i.b)
def ImpOk (ty : Tys) (c1 : Ctx) (h1 : Heap) (B : Nat × (Nat → Prop)) : List Nat → List Obj → List Info → Prop
  | [], [], [] => True
  | id :: a, o :: b, i :: s => ImpAt ty c1 h1 B id o i ∧ ImpOk ty c1 h1 B a b s
  | _, _, _ => False
theorem ImpOk.append {B : Nat × (Nat → Prop)} : ∀ {a a' : List Nat} {b b' : List Obj} {s s' : List Info}, ImpOk ty c1 h1 B a b s → ImpOk ty c1 h1 B a' b' s' → ImpOk ty c1 h1 B (a ++ a') (b ++ b') (s ++ s')
  | [], _, [], _, [], _, _, h => h
  | _ :: _, _, _ :: _, _, _ :: _, _, h, h' => ⟨h.1, ImpOk.append h.2 h'⟩
  | [], _, _ :: _, _, _, _, h, _ => by simp [ImpOk] at h
  | [], _, [], _, _ :: _, _, h, _ => by simp [ImpOk] at h
  | _ :: _, _, [], _, _, _, h, _ => by simp [ImpOk] at h
  | _ :: _, _, _ :: _, _, [], _, h, _ => by simp [ImpOk] at h
theorem ImpOk.len {B : Nat × (Nat → Prop)} : ∀ {a : List Nat} {b : List Obj} {s : List Info}, ImpOk ty c1 h1 B a b s → s.length = b.length ∧ s.length = a.length
  | [], [], [], _ => ⟨rfl, rfl⟩
  | _ :: _, _ :: _, _ :: _, h => by simp [(ImpOk.len h.2).1.symm, (ImpOk.len h.2).2.symm]
  | [], _ :: _, _, h => by simp [ImpOk] at h
  | [], [], _ :: _, h => by simp [ImpOk] at h
  | _ :: _, [], _, h => by simp [ImpOk] at h
  | _ :: _, _ :: _, [], h => by simp [ImpOk] at h
theorem ImpOk.at {B : Nat × (Nat → Prop)} : ∀ {a : List Nat} {b : List Obj} {s : List Info}, ImpOk ty c1 h1 B a b s → ∀ k (h1' : k < a.length) (h2 : k < b.length) (h3 : k < s.length), ImpAt ty c1 h1 B a[k] b[k] s[k]
  | [], [], [], _, k, hk, _, _ => absurd hk (by simp)
  | _ :: _, _ :: _, _ :: _, h, k, _, _, _ => by
    cases k with
    | zero => exact h.1
    | succ k => exact ImpOk.at h.2 k _ _ _
  | [], _ :: _, _, h, _, _, _, _ => by simp [ImpOk] at h
  | [], [], _ :: _, h, _, _, _, _ => by simp [ImpOk] at h
  | _ :: _, [], _, h, _, _, _, _ => by simp [ImpOk] at h
  | _ :: _, _ :: _, [], h, _, _, _, _ => by simp [ImpOk] at h
theorem fixed_new {o : Obj} {x : V} {nx : Nat} (h : o.fixed .new = some x) : impLeaf x nx = (.own nx, [o]) := by
  cases o <;> simp [Obj.fixed] at h <;> subst h <;> rfl
theorem ownIds_append : ∀ a b : List V, ownIds (a ++ b) = ownIds a ++ ownIds b
  | [], _ => rfl
  | v :: r, b => by
    have := ownIds_append r b
    cases v <;> simp [ownIds, this]
theorem impLeaf_ok (H : HeapOk ty c1 h1 fz1) {B : Nat × (Nat → Prop)} (hB : ImB c1 B) {v x : V} {y : Value} {nx : Nat} (hx : expLeaf h1 fz1 v = some x) (hv : VR ty c1 v y) :
    ∃ is, ImpOk ty c1 h1 B (ownIds [v]) (impLeaf x nx).2 is ∧ ∀ μ, (∀ k (hk : k < is.length), μ (nx + k) = some is[k]) → VR ty (imC c1 B μ) (impLeaf x nx).1 y := by
  unfold expLeaf at hx
  split at hx
  · rename_i id
    cases hz : has id fz1 with
    | true => rw [hz] at hx; simp at hx
    | false =>
      rw [hz] at hx
      simp only [cond_false] at hx
      split at hx
      case h_2 => simp at hx
      rename_i o hg
      simp only [VR] at hv
      obtain ⟨i, hi, rfl⟩ := hv
      have hO := H.hp id o i hg hi
      rw [hz] at hO
      obtain ⟨ys, hE, hA, hc⟩ := OR_elts hx hO
      rw [fixed_new hx]
      refine ⟨[i], ⟨⟨fun μ => elts_OR (hE.seen (T := (· = .frz)) rfl seen_im) ?_ hc, i, o, hg, hi, fun hon => ⟨hon, rfl, ?_⟩⟩, trivial⟩, fun μ hμ => ?_⟩
      · obtain ⟨a1, a2, a3, a4, a5, a6⟩ := hA
        refine ⟨a1, a2, a3, a4, a5, fun hon => ?_⟩
        obtain ⟨b1, cs, T, b2, b3, b4, b5⟩ := a6 hon
        exact ⟨b1, cs, T, b2, b3, hB.mine b4, b5⟩
      · obtain ⟨_, cs, T, _, _, b4, _⟩ := hA.2.2.2.2.2 hon
        exact b4
      · simp only [VR]
        exact ⟨i, hμ 0 (by simp), rfl⟩
  · rename_i id off len
    cases hz : has id fz1 with
    | true => rw [hz] at hx; simp at hx
    | false =>
      rw [hz] at hx
      simp only [cond_false] at hx
      split at hx
      case h_2 => simp at hx
      rename_i o hg
      simp only [VR] at hv
      obtain ⟨i, a, cap, hi, rfl, g1, g2, g3, g4⟩ := hv
      have hO := H.hp id o i hg hi
      rw [hz] at hO
      obtain ⟨o', u, hx', hu, hp⟩ := fixedPart_fixed hx
      obtain ⟨ys, hE, hA, hc⟩ := OR_elts hu hO
      obtain ⟨hE', hlen⟩ := elts_part hE (by rw [← hA.2.2.1]; exact g1) hp
      rw [fixed_new hx']
      refine ⟨[{ a, len, cap, on := decide (0 < cap), b := i.b, o := i.o + off * i.sz, sz := i.sz }], ⟨⟨fun μ => ?_, i, o, hg, hi, fun hon => ?_⟩, trivial⟩, fun μ hμ => ?_⟩
      · refine elts_OR (hE'.seen (T := (· = .frz)) rfl seen_im) ⟨rfl, hE'.2.2.1, hlen.symm, g2, fun hh => by simpa using hh, fun hon => ?_⟩ fun k hk => ?_
        · have hcap : 0 < cap := by simpa using hon
          rcases g4 with g4 | ⟨g4, g5⟩
          · omega
          · obtain ⟨b1, cs, T, b2, b3, b4, b5⟩ := hA.2.2.2.2.2 g4
            have e : i.cap * i.sz = off * i.sz + cap * i.sz := by rw [← g3, Nat.add_mul]
            refine ⟨g5, cs, T, b2, by show i.o + off * i.sz + cap * i.sz ≤ _; omega, hB.mine b4, fun j _ hj => ?_⟩
            show ¬ c1.I i.b (i.o + off * i.sz + j)
            rw [Nat.add_assoc]
            refine b5 _ (Nat.zero_le _) ?_
            have hj' : j < cap * i.sz := hj
            omega
        · have hft := flatV_drop_take ys off len hE.sizes
          have hk2 : k < (((flatV ys).drop (off * i.sz)).take (len * i.sz)).length := by rw [← hft]; exact hk
          have hk3 : off * i.sz + k < (flatV ys).length := by simp at hk2; omega
          show c1.w.cell? ⟨i.b, i.o + off * i.sz + k, none⟩ = _
          rw [Nat.add_assoc, hc _ hk3]
          congr 1
          have e : (flatV ((ys.drop off).take len))[k]? = (((flatV ys).drop (off * i.sz)).take (len * i.sz))[k]? := by rw [hft]
          rw [List.getElem?_eq_getElem hk, List.getElem?_eq_getElem hk2] at e
          simp only [Option.some.injEq] at e
          rw [e]; simp
      · have hcap : 0 < cap := by simpa using hon
        rcases g4 with g4 | ⟨g4, g5⟩
        · omega
        · obtain ⟨_, cs, T, _, _, b4, _⟩ := hA.2.2.2.2.2 g4
          exact ⟨g4, rfl, b4⟩
      · simp only [VR]
        exact ⟨_, hμ 0 (by simp), rfl⟩
  case h_9 => simp at hx
  case h_6 | h_7 | h_8 =>
    simp at hx; subst hx
    refine ⟨[], by simp [ownIds, impLeaf, ImpOk], fun μ _ => ?_⟩
    exact hv.seen (T := (· = .frz)) rfl seen_im (by unfold NI; trivial)
  all_goals
    simp at hx; subst hx
    refine ⟨[], by simp [ownIds, impLeaf, ImpOk], fun μ _ => ?_⟩
    simpa only [impLeaf, VR] using hv
theorem impAll_ok (H : HeapOk ty c1 h1 fz1) {B : Nat × (Nat → Prop)} (hB : ImB c1 B) : ∀ {l xs : List V} {ys : List Value} {nx : Nat}, expAll h1 fz1 l = some xs → CR ty c1 l ys →
    ∃ is, ImpOk ty c1 h1 B (ownIds l) (impAll xs nx).2 is ∧ ∀ μ, (∀ k (hk : k < is.length), μ (nx + k) = some is[k]) → CR ty (imC c1 B μ) (impAll xs nx).1 ys
  | [], _, _, nx, hx, hl => by
    simp [expAll] at hx; subst hx
    exact ⟨[], by simp [ownIds, impAll, ImpOk], fun μ _ => by simpa only [impAll, CR] using hl⟩
  | v :: r, _, _, nx, hx, hl => by
    simp only [expAll] at hx
    split at hx
    · rename_i x xs e1 e2
      simp at hx; subst hx
      simp only [CR] at hl
      obtain ⟨y, ys, rfl, hv, hc, hr⟩ := hl
      obtain ⟨i1, k1, m1⟩ := impLeaf_ok (nx := nx) H hB e1 hv
      obtain ⟨i2, k2, m2⟩ := impAll_ok (nx := nx + (impLeaf x nx).2.length) H hB e2 hr
      refine ⟨i1 ++ i2, ?_, fun μ hμ => ?_⟩
      · rw [show v :: r = [v] ++ r from rfl, ownIds_append]
        exact k1.append k2
      · simp only [impAll, CR]
        have hl1 := k1.len.1
        refine ⟨y, ys, rfl, m1 μ fun k hk => ?_, hc, m2 μ fun k hk => ?_⟩
        · rw [hμ k (by simp; omega), List.getElem_append_left hk]
        · rw [← hl1, Nat.add_assoc, hμ (i1.length + k) (by simp; omega), List.getElem_append_right (by omega)]
          simp
    · simp at hx
theorem impV_ok (H : HeapOk ty c1 h1 fz1) {B : Nat × (Nat → Prop)} (hB : ImB c1 B) {v x : V} {y : Value} {nx : Nat} (hx : expV h1 fz1 v = some x) (hv : VR ty c1 v y) :
    ∃ is, ImpOk ty c1 h1 B (ownIds v.flat) (impV x nx).2 is ∧ ∀ μ, (∀ k (hk : k < is.length), μ (nx + k) = some is[k]) → VR ty (imC c1 B μ) (impV x nx).1 y := by
  unfold expV at hx
  split at hx
  · rename_i l
    cases hl : expAll h1 fz1 l with
    | none => rw [hl] at hx; simp at hx
    | some xs =>
      rw [hl] at hx; simp at hx; subst hx
      simp only [VR] at hv
      obtain ⟨ys, rfl, hC⟩ := hv
      obtain ⟨is, k1, m1⟩ := impAll_ok (nx := nx) H hB hl hC
      refine ⟨is, k1, fun μ hμ => ?_⟩
      simp only [impV, VR]
      exact ⟨ys, rfl, m1 μ hμ⟩
  · rename_i hne
    have hf := (flat_one fun l e => hne l e).1
    have hxn : ∀ l, x ≠ .agg l := by
      intro l e
      subst e
      unfold expLeaf at hx
      split at hx <;> try (simp at hx; done)
      · rename_i id
        cases hz : has id fz1 <;> rw [hz] at hx <;> simp at hx
        split at hx
        · rename_i o _
          cases o <;> simp [Obj.fixed] at hx
        · simp at hx
      · rename_i id _ _
        cases hz : has id fz1 <;> rw [hz] at hx <;> simp at hx
        split at hx
        · rename_i o _
          cases o <;> simp [Obj.fixedPart] at hx
        · simp at hx
    have hi : impV x nx = impLeaf x nx := by
      cases x <;> first | rfl | exact absurd rfl (hxn _)
    rw [hf, hi]
    exact impLeaf_ok H hB hx hv
theorem impTup_ok (H : HeapOk ty c1 h1 fz1) {B : Nat × (Nat → Prop)} (hB : ImB c1 B) : ∀ {l xs : List V} {ys : List Value} {nx : Nat}, expRes h1 fz1 l = some xs → LR ty c1 l ys →
    ∃ is, ImpOk ty c1 h1 B (ownIds (l.flatMap V.flat)) (impTup xs nx).2 is ∧ ∀ μ, (∀ k (hk : k < is.length), μ (nx + k) = some is[k]) → LR ty (imC c1 B μ) (impTup xs nx).1 ys
  | [], _, _, nx, hx, hl => by
    simp [expRes] at hx; subst hx
    exact ⟨[], by simp [ownIds, impTup, ImpOk], fun μ _ => by simpa only [impTup, LR] using hl⟩
  | v :: r, _, _, nx, hx, hl => by
    simp only [expRes] at hx
    split at hx
    · rename_i x xs e1 e2
      simp at hx; subst hx
      simp only [LR] at hl
      obtain ⟨y, ys, rfl, hv, hr⟩ := hl
      obtain ⟨i1, k1, m1⟩ := impV_ok (nx := nx) H hB e1 hv
      obtain ⟨i2, k2, m2⟩ := impTup_ok (nx := nx + (impV x nx).2.length) H hB e2 hr
      refine ⟨i1 ++ i2, ?_, fun μ hμ => ?_⟩
      · rw [List.flatMap_cons, ownIds_append]
        exact k1.append k2
      · simp only [impTup, LR]
        have hl1 := k1.len.1
        refine ⟨y, ys, rfl, m1 μ fun k hk => ?_, m2 μ fun k hk => ?_⟩
        · rw [hμ k (by simp; omega), List.getElem_append_left hk]
        · rw [← hl1, Nat.add_assoc, hμ (i1.length + k) (by simp; omega), List.getElem_append_right (by omega)]
          simp
    · simp at hx
theorem heap_call {nx : Nat} {objs : List Obj} {F : List Nat} {c' : Ctx} (H : HeapOk ty c h fz) (hC : FOk ty c h nx objs F c') (hF : ∀ id ∈ F, id ∈ fz) : HeapOk ty c' (addObjs nx objs h) fz :=
  heap_F (h2 := h) H (fun _ _ _ _ h => h) hC (fun k hk => by rw [get_addObjs, if_pos ⟨by omega, by omega⟩]; simp [hk]) (fun id hid => by rw [get_addObjs, if_neg (by omega)]) (fun id hid => hid.elim (hF id) fun h => h)
theorem once_ne : ∀ {l : List Nat}, once l = true → ∀ j k (hj : j < l.length) (hk : k < l.length), j < k → l[j] ≠ l[k]
  | [], _, j, _, hj, _, _ => absurd hj (by simp)
  | n :: r, h, j, k, hj, hk, hlt => by
    simp only [once, Bool.and_eq_true, Bool.not_eq_true'] at h
    cases k with
    | zero => omega
    | succ k =>
      cases j with
      | zero =>
        intro e
        have hm : n ∈ r := by
          have : n = r[k]'(by simpa using hk) := e
          rw [this]; exact List.getElem_mem _
        have := has_mem.2 hm
        rw [h.1] at this; cases this
      | succ j => exact once_ne h.2 j k (by simpa using hj) (by simpa using hk) (by omega)
theorem pure_back {nx : Nat} {hX : Heap} {ws : List V} {xs : List Value} {r : List V} (hf : Fr c.μ nx (impTup r nx).2.length) (hb : Room c) (hext : Ext (snapCtx c) c1) (H1 : HeapOk ty c1 h1 fz1)
    (hr : expRes h1 fz1 ws = some r) (ho : once (ownIds (ws.flatMap V.flat)) = true) (hl : LR ty c1 ws xs) :
    ∃ c', c'.w = c1.w ∧ FOk ty c hX nx (impTup r nx).2 [] c' ∧ LR ty c' (impTup r nx).1 xs := by
  have hbase : c1.base = c.w.heap.size := hext.base
  obtain ⟨is, hI, hL⟩ := impTup_ok (nx := nx) H1 (B := (c.base, c.F)) (by unfold ImB; rw [hbase]; exact hb) hr hl
  have hmu : ∀ k (hk : k < is.length), updM c.μ nx is (nx + k) = some is[k] := fun k hk => by
    unfold updM
    rw [if_pos (by omega)]; simp [hk]
  have hbelow : Below c.w.heap.size c.w c1.w := hext.below
  refine ⟨imC c1 (c.base, c.F) (updM c.μ nx is), rfl, ⟨⟨rfl, rfl, hbelow.mono hb.1, fun b hb' _ => hbelow.block b hb', hext.hI, fun b o h => ?_, hext.hcell, fun id i hi => ?_⟩, ⟨is, hI.len.1, rfl, fun k hk hk' => ?_, fun i hi hon => ?_, ?_⟩, fun b o h => (hext.hnew b o h).imp id fun h => .inl h.1, H1.ib, fun b hb' => hbelow.block b hb'⟩, hL _ hmu⟩
  · rcases hext.hnew b o h with h | h
    · exact .inl h
    · exact .inr ⟨Nat.le_trans hb.1 h.1, fun hF => Nat.lt_irrefl _ (Nat.lt_of_lt_of_le (hb.2 _ hF) h.1)⟩
  · show updM c.μ nx is id = some i
    unfold updM
    by_cases hge : nx ≤ id ∧ id < nx + is.length
    · rw [hf id hge.1 (by rw [← hI.len.1]; exact hge.2)] at hi; cases hi
    · rw [if_neg hge]; exact hi
  · exact (hI.at k (by rw [← hI.len.2]; exact hk) hk' hk).1 _
  · obtain ⟨k, hk, rfl⟩ := List.mem_iff_getElem.1 hi
    obtain ⟨_, i0, o0, _, _, h3⟩ := hI.at k (by rw [← hI.len.2]; exact hk) (by rw [← hI.len.1]; exact hk) hk
    rw [← hbase]; exact (h3 hon).2.2.1
  · refine List.pairwise_iff_getElem.2 fun j k hj hk hlt a b => ?_
    obtain ⟨_, i0, o0, p1, p2, p3⟩ := hI.at j (by rw [← hI.len.2]; exact hj) (by rw [← hI.len.1]; exact hj) hj
    obtain ⟨_, i1, o1, q1, q2, q3⟩ := hI.at k (by rw [← hI.len.2]; exact hk) (by rw [← hI.len.1]; exact hk) hk
    rw [(p3 a).2.1, (q3 b).2.1]
    exact H1.sep _ _ o0 o1 i0 i1 p1 q1 p2 q2 (once_ne ho _ _ _ _ hlt) (p3 a).1 (q3 b).1
end
end Go.Vm
end
section
namespace Go.Vm
open Go.RowKit
section
variable {P : Program} {ty : Tys} {c : Ctx} {n : Nat} {st : St} {a : Act}
structure WriteOk (P : Program) (ty : Tys) : Prop where
  clear : ∀ (c : Ctx) (st : St) (ts : Array TypeId) (t e ty0 : TypeId) (x : V) (vx : Value) (b : Bk), HeapOk ty c st.h st.fz → (∀ id, st.nx ≤ id → c.μ id = none) → ts[0]? = some t → slElem ty t = some e → clearV ty st e x = some b → b.ok = true →
    VR ty c x vx → ∃ c' y, (Builtin.clear_ ts ty0 #[vx]).run P c.w = .ok y c'.w ∧ BkOk ty c c' st b.st ∧ VR ty c' b.v y
  put : ∀ (c : Ctx) (st : St) (t : TypeId) (m k v : V) (vm vk vv : Value) (b : Bk), HeapOk ty c st.h st.fz → (∀ id, st.nx ≤ id → c.μ id = none) → mapPut ty st t m k v = some b → b.ok = true →
    VR ty c m vm → VR ty c k vk → VR ty c v vv → ∃ c', (Instr.mapUpdate t vm vk vv).run P c.w = .ok () c'.w ∧ BkOk ty c c' st b.st
  enter : ∀ (c : Ctx) (st : St) (t : TypeId) (m k : V) (vm vk : Value) (b : Bk), HeapOk ty c st.h st.fz → (∀ id, st.nx ≤ id → c.μ id = none) → mapEnter ty st t m k = some b → b.ok = true →
    VR ty c m vm → VR ty c k vk → ∃ c' y, (Instr.mapEntry t vm vk).run P c.w = .ok y c'.w ∧ BkOk ty c c' st b.st ∧ VR ty c' b.v y
  stamp : ∀ (c : Ctx) (st : St) (t : TypeId) (m s v : V) (vm vs vv : Value) (b : Bk), HeapOk ty c st.h st.fz → (∀ id, st.nx ≤ id → c.μ id = none) → mapStamp ty st m s v = some b → b.ok = true →
    VR ty c m vm → VR ty c s vs → VR ty c v vv → ∃ c', (Instr.entryStore t vm vs vv).run P c.w = .ok () c'.w ∧ BkOk ty c c' st b.st
theorem OR.sl_len {f : Bool} {i : Info} {o : Obj} (h : OR ty c f i o) (hm : ∀ kt et l cl, o ≠ .map kt et l cl) : i.len = o.len := by
  cases o with
  | cells l => exact h.2.2.1
  | ints k l => exact h.1.2.2.1
  | bools l => exact h.1.2.2.1
  | vals e l => obtain ⟨_, _, _, _, hA, _⟩ := h; exact hA.2.2.1
  | map kt et l cl => exact absurd rfl (hm _ _ _ _)
theorem len_sound (hT : TyOk P ty) {h : Heap} {fz : List Nat} (H : HeapOk ty c h fz) {ts : Array TypeId} {t ty0 : TypeId} {x v : V} {vx : Value} (ht : ts[0]? = some t) (hr : lenV ty h t x = some v) (hx : VR ty c x vx) :
    ∃ y, (Builtin.len_ ts ty0 #[vx]).run P c.w = .ok y c.w ∧ VR ty c v y := by
  have hsl : ∀ (ad : Option Addr) (m cap : Nat), (slElem ty t).isSome = true → vx = .slice ad m cap → (Builtin.len_ ts ty0 #[vx]).run P c.w = .ok (.int .i64 (m : Int)) c.w := by
    intro ad m cap he e
    obtain ⟨el, he⟩ := Option.isSome_iff_exists.1 he
    subst e
    unfold Builtin.len_
    simp only [ht]
    show ((underlying t) >>= _ : Sem Value).run P c.w = _
    rw [run_bind (run_underlying (hT.sl t el he))]
    rfl
  unfold lenV at hr
  cases hk : lenOk ty t x with
  | false => rw [hk] at hr; simp [notB] at hr
  | true =>
    rw [hk] at hr
    simp only [notB, Bool.not_true, cond_false] at hr
    split at hr
    · simp at hr; subst hr
      simp only [VR] at hx
      obtain ⟨ad, cap, e, _⟩ := hx
      exact ⟨_, hsl _ _ _ hk e, by simp [VR, lenI]⟩
    · simp at hr; subst hr
      simp only [VR] at hx
      obtain ⟨ad, cap, e, _⟩ := hx
      exact ⟨_, hsl _ _ _ hk e, by simp [VR, lenI]⟩
    · simp at hr; subst hr
      simp only [VR] at hx
      obtain ⟨ad, cap, ei, e, _⟩ := hx
      exact ⟨_, hsl _ _ _ hk e, by simp [VR, lenI]⟩
    · rename_i id
      simp only [VR] at hx
      obtain ⟨i, hi, e⟩ := hx
      split at hr
      · simp at hr
      · rename_i o hne hg
        simp at hr; subst hr
        refine ⟨_, hsl _ _ _ hk e, ?_⟩
        rw [(H.hp id o i hg hi).sl_len (fun kt et l cl e => hne kt et l cl e)]
        simp [VR, lenI]
      · simp at hr
    · rename_i m
      simp at hr; subst hr
      simp only [VR] at hx
      obtain ⟨i, ad, cap, hi, e, _⟩ := hx
      exact ⟨_, hsl _ _ _ hk e, by simp [VR, lenI]⟩
    · rename_i id
      split at hr
      · rename_i kt et l cl hg
        simp at hr; subst hr
        simp only [VR] at hx
        obtain ⟨i, hi, hon, rfl⟩ := hx
        obtain ⟨_, _, es, hes, hM⟩ := H.hp id _ i hg hi
        have hm : (mapTy ty t).isSome = true := hk
        obtain ⟨p, hp⟩ := Option.isSome_iff_exists.1 hm
        have hu := mapTy_und (t := t) (k := p.1) (e := p.2) hT (by unfold mapIs; rw [hp]; simp)
        refine ⟨.int .i64 (es.size : Int), ?_, by simp [VR, lenI, ← hM.len]⟩
        unfold Builtin.len_
        simp only [ht]
        show ((underlying t) >>= _ : Sem Value).run P c.w = _
        rw [run_bind (run_underlying hu)]
        show ((getObj i.b) >>= _ : Sem Value).run P c.w = _
        rw [run_bind (show (getObj i.b).run P c.w = .ok (.map es cl) c.w from by simp [getObj, Sem.run, hes])]
        rfl
      · simp at hr
    · rename_i s
      simp at hr; subst hr
      simp only [VR] at hx
      subst hx
      have hk' : (match tyAt ty t with
        | some ti => match ti.agg, ti.leaves with
          | false, [.str] => true
          | _, _ => false
        | none => false) = true := hk
      split at hk'
      · rename_i ti hti
        split at hk'
        · rename_i h1 h2
          refine ⟨.int .i64 (s.size : Int), ?_, by simp [VR, lenI]⟩
          unfold Builtin.len_
          simp only [ht]
          show ((underlying t) >>= _ : Sem Value).run P c.w = _
          rw [run_bind (run_underlying (hT.str t ti hti h1 h2))]
          rfl
        · cases hk'
      · cases hk'
    · split at hr
      · rename_i ti hti
        cases hh : ti.agg && Nat.blt 0 ti.alen with
        | false => rw [hh] at hr; simp at hr
        | true =>
          rw [hh] at hr; simp at hr; subst hr
          simp only [Bool.and_eq_true] at hh
          refine ⟨.int .i64 (ti.alen : Int), ?_, by simp [VR, lenI]⟩
          unfold Builtin.len_
          simp only [ht]
          show ((underlying t) >>= _ : Sem Value).run P c.w = _
          rw [run_bind (run_underlying (hT.arr t ti hti hh.1 (by have := hh.2; simpa [Nat.blt_eq] using this)))]
          rfl
      · simp at hr
theorem max_go : ∀ (l : List V) (v u : V) (x : Value) (xs : List Value), minMaxGo true v l = some u → VR ty c v x → LR ty c l xs → ∃ y, (xs.foldlM Builtin.max2 x).run P c.w = .ok y c.w ∧ VR ty c u y
  | [], v, u, x, xs, h, hv, hl => by
    simp [minMaxGo] at h; subst h
    simp only [LR] at hl; subst hl
    exact ⟨x, rfl, hv⟩
  | w :: r, v, u, x, xs, h, hv, hl => by
    unfold minMaxGo at h
    split at h
    · rename_i e; cases e
    · rename_i k p k' q r' e
      cases e
      cases hk : IntKind.same k k' with
      | false => rw [hk] at h; simp at h
      | true =>
        rw [hk] at h
        simp only [cond_true] at h
        obtain rfl := same_eq hk
        simp only [LR, VR] at hl
        obtain ⟨y, ys, rfl, rfl, hr⟩ := hl
        simp only [VR] at hv; subst hv
        obtain ⟨z, h1, h2⟩ := max_go _ _ _ (.int k (if q > p then q else p)) ys h (by simp only [VR]; congr 1; simp [ltI, Bool.cond_eq_ite]) hr
        refine ⟨z, ?_, h2⟩
        rw [List.foldlM_cons, run_bind (show (Builtin.max2 (.int k p) (.int k q)).run P c.w = .ok (.int k (if q > p then q else p)) c.w from rfl)]
        exact h1
    · simp at h
theorem min_go : ∀ (l : List V) (v u : V) (x : Value) (xs : List Value), minMaxGo false v l = some u → VR ty c v x → LR ty c l xs → ∃ y, (xs.foldlM Builtin.min2 x).run P c.w = .ok y c.w ∧ VR ty c u y
  | [], v, u, x, xs, h, hv, hl => by
    simp [minMaxGo] at h; subst h
    simp only [LR] at hl; subst hl
    exact ⟨x, rfl, hv⟩
  | w :: r, v, u, x, xs, h, hv, hl => by
    unfold minMaxGo at h
    split at h
    · rename_i e; cases e
    · rename_i k p k' q r' e
      cases e
      cases hk : IntKind.same k k' with
      | false => rw [hk] at h; simp at h
      | true =>
        rw [hk] at h
        simp only [cond_true] at h
        obtain rfl := same_eq hk
        simp only [LR, VR] at hl
        obtain ⟨y, ys, rfl, rfl, hr⟩ := hl
        simp only [VR] at hv; subst hv
        obtain ⟨z, h1, h2⟩ := min_go _ _ _ (.int k (if q < p then q else p)) ys h (by simp only [VR]; congr 1; simp [ltI, Bool.cond_eq_ite]) hr
        refine ⟨z, ?_, h2⟩
        rw [List.foldlM_cons, run_bind (show (Builtin.min2 (.int k p) (.int k q)).run P c.w = .ok (.int k (if q < p then q else p)) c.w from rfl)]
        exact h1
    · simp at h
theorem toList_get {α : Type} {xs : Array α} {t : α} {r : List α} (h : xs.toList = t :: r) : xs[0]? = some t := by
  have : xs.toList[0]? = some t := by rw [h]; rfl
  simpa using this
theorem map_toArray {xs : Array Operand} {f : Operand → Value} {l : List Value} (h : xs.toList.map f = l) : xs.map f = l.toArray := by
  apply Array.ext'
  simp [h]
theorem builtin_run {o : Oper} {cl : Call} {b : Builtin} {s : Sem Value} {w w' : World} {y : Value} {l : List Value} (hop : o.op = .call cl) (hcl : cl.callee = .builtin b) (hl : cl.args.toList.map a.eval = l)
    (hb : ∀ consts, builtin b cl.argTypes o.type consts l.toArray = (do pure (.value (← s)))) (hs : s.run P w = .ok y w') : (execOp a.eval o).run P w = .ok (.value y) w' := by
  unfold execOp
  rw [hop]
  show ((resolve a.eval cl o.type) >>= _ : Sem Next).run P w = _
  unfold resolve
  rw [hcl]
  simp only
  rw [run_bind run_pure]
  show (builtin b cl.argTypes o.type _ (cl.args.map a.eval)).run P w = _
  rw [map_toArray hl, hb]
  rw [run_bind hs]
  rfl
theorem call_run {o : Oper} {cl : Call} {x : Operand} {f : FuncId} {fn : Func} {p q : Array Value} {l : List Value} {w : World} (hop : o.op = .call cl) (hcl : cl.callee = .value x) (hx : a.eval x = .func (.func f) p q)
    (hl : cl.args.toList.map a.eval = l) (hf : P.funcs[f]? = some fn) (hn : (fn.name == "runtime.NumGoroutine") = false) (hbd : fn.body.isNone = false) :
    (execOp a.eval o).run P w = .ok (.enter f (p.toList ++ l ++ q.toList).toArray) w := by
  unfold execOp
  rw [hop]
  show ((resolve a.eval cl o.type) >>= _ : Sem Next).run P w = _
  unfold resolve
  rw [hcl]
  simp only
  rw [hx]
  simp only [Deferred.ofValue]
  rw [run_bind run_pure]
  show (callFunc f ((p ++ cl.args.map a.eval) ++ q)).run P w = _
  rw [map_toArray hl]
  have e : (p ++ l.toArray) ++ q = (p.toList ++ l ++ q.toList).toArray := by
    apply Array.ext'
    simp
  rw [e]
  unfold callFunc
  rw [run_bind (show (program).run P w = .ok P w from rfl), hf]
  simp only [hn, hbd]
  rfl
theorem tup_ok {l : List V} {xs : List Value} (h : LR ty c l xs) : VR ty c (tupOf l) (tupX xs) := by
  match l, xs, h with
  | [], xs, h => simp only [LR] at h; subst h; simp only [tupOf, tupX, VR]; exact ⟨#[], rfl, by simp [LR]⟩
  | [v], xs, h =>
    simp only [LR] at h
    obtain ⟨y, ys, rfl, hv, rfl⟩ := h
    exact hv
  | v :: u :: r, xs, h =>
    have hh := h
    simp only [LR] at h
    obtain ⟨y, ys, rfl, hv, z, zs, rfl, hz, hr⟩ := h
    simp only [tupOf, tupX, VR]
    exact ⟨_, rfl, by simpa using hh⟩
end
end Go.Vm
end
section
namespace Go.Vm
open Go.RowKit
section
variable {P : Program} {E : Env} {C : Calls} {c : Ctx} {n : Nat} {st : St} {a : Act} {R : Type}
theorem callV_sound (hC : CallsOk P E C) (Rl : Rel E.ty n c st a) {o : Oper} (hd : ∀ d, o.dst = some d → d < n) {f : FuncId} {args : List V} {vs : List Value} {k : St → Option R} {r : R}
    (h : callV E C o.dst f args st k = some r) (hl : LR E.ty c args vs) {next : Act → World → Prop} {Q : Exit → Act → World → Prop}
    (hn : ∀ c' st' x, Ext c c' → st'.lo = st.lo → st.nx ≤ st'.nx → Rel E.ty n c' st' (a.put o.dst x) → k st' = some r → next (a.put o.dst x) c'.w) :
    Go.Calls P f vs.toArray c.w fun
      | .returned v, w'' => next (a.put o.dst v) w''
      | .panicked chain, w'' => Q (.panic chain) a w''
      | .outgrown, _ => LetsOut Q := by
  unfold callV at h
  have key : ∀ (cF : Ctx) (F : List Nat) (as : List V), cF.w = c.w → Ext c cF → HeapOk E.ty cF st.h (F ++ st.fz) → (∀ id, st.nx ≤ id → cF.μ id = none) → LR E.ty (snapCtx cF) as vs → C.pure R f as (fun r0 => k (withCall o.dst r0 F st)) = some r →
      Go.Calls P f vs.toArray c.w fun
      | .returned v, w'' => next (a.put o.dst v) w''
      | .panicked chain, w'' => Q (.panic chain) a w''
      | .outgrown, _ => LetsOut Q := by
    intro cF F as hw hext HF hfr hsn hr0
    rw [← hw]
    obtain ⟨r0, hk, hspec⟩ := hC.pure R f as _ r hr0
    refine Calls.mono (hspec cF.w cF.I vs HF.ib hsn) fun e w' he => ?_
    obtain ⟨c1, xs, rfl, rfl, hP⟩ := he
    obtain ⟨h1, fz1, ws, H1, hL1, hx, ho⟩ := hP.ex
    obtain ⟨c', hw', hCO, hL⟩ := pure_back (nx := st.nx) (hX := st.h) (fun id h _ => hfr id h) (Rl.base.mono hext) hP.ext H1 hx ho hL1
    show next _ _
    rw [← hw']
    obtain ⟨is, hlen, hμ, _⟩ := hCO.infos
    refine hn c' (withCall o.dst r0 F st) _ (hext.trans hCO.ext) rfl (Nat.le_add_right _ _) (Rl.step (dst := o.dst) (hext.trans hCO.ext) (heap_call HF hCO (by simp)) (fun id hid => ?_) (Nat.le_add_right _ _) rfl rfl (tup_ok hL) hd) hk
    have hid' : st.nx + (impTup r0 st.nx).2.length ≤ id := hid
    rw [hμ]
    unfold updM
    rw [if_neg (by omega)]
    exact hfr id (by omega)
  split at h
  · split at h
    case h_2 => simp at h
    rename_i as has
    exact key c [] as rfl (Ext.refl c) Rl.hp Rl.fresh (snapArgs_ok Rl.hp has hl) h
  · split at h
    case h_2 => simp at h
    rename_i p hp
    split at h
    case h_2 => simp at h
    rename_i as has
    have hF := fixArgs_FzOk hp
    have hl' := fixArgs_ok Rl.hp hF hp (fun _ h => h) hl
    have HF := heap_frz Rl.hp hF
    have H0 : HeapOk E.ty (frzCtx c p.2) [] (p.2 ++ st.fz) := ⟨fun _ _ _ hg => by simp [get] at hg, fun _ _ _ _ _ _ hg => by simp [get] at hg, HF.ib⟩
    exact key (frzCtx c p.2) p.2 as rfl (frz_ext Rl.hp hF) HF Rl.fresh (snapArgs_ok H0 has hl') h
  · refine Calls.mono (hC.inl R f args st _ r h c vs Rl.hp Rl.fresh Rl.base Rl.lo hl) fun e w' he => ?_
    obtain ⟨c', st', ws, xs, rfl, rfl, hext, H', hfr, ht, hlo, hnx, hL, hk⟩ := he
    show next _ _
    refine hn c' { st' with t := setT o.dst (tupOf ws) st'.t } _ hext hlo hnx (Rl.step (dst := o.dst) hext H' hfr hnx hlo ?_ (tup_ok hL) hd) hk
    show setT _ _ st'.t = _
    rw [ht]
theorem cond_some {b : Bool} {x : Option R} {r : R} (h : cond b x none = some r) : b = true ∧ x = some r := by
  cases b with
  | true => exact ⟨rfl, h⟩
  | false => simp at h
theorem split_exec {ty : Tys} {c : Ctx} {t : List (Nat × V)} {a : Act} (ev : ∀ o v, evalO t o = some v → VR ty c v (a.eval o)) {o : Oper} {op' : Op}
    (h : op' = o.op ∨ (∃ b x i kk n, o.op = .indexAddr b x i ∧ evalO t i = some (.int kk n) ∧ op' = .indexAddr b x (.const (.int kk n))) ∨ (∃ b x i kk n, o.op = .index b x i ∧ evalO t i = some (.int kk n) ∧ op' = .index b x (.const (.int kk n)))) :
    execOp a.eval { o with op := op' } = execOp a.eval o := by
  rcases h with rfl | ⟨b, x, i, kk, n, ho, hi, rfl⟩ | ⟨b, x, i, kk, n, ho, hi, rfl⟩
  · rfl
  · have := ev _ _ hi
    simp only [VR] at this
    unfold execOp
    rw [ho]
    simp only [this]
    rfl
  · have := ev _ _ hi
    simp only [VR] at this
    unfold execOp
    rw [ho]
    simp only [this]
    rfl
theorem step_sound (hT : TyOk P E.ty) (hW : WriteOk P E.ty) (hC : CallsOk P E C) (Rl : Rel E.ty n c st a) {o : Oper} (hd : ∀ d, o.dst = some d → d < n) {k : St → Option R} {r : R}
    (h : Vm.step E C o st k = some r) {next : Act → World → Prop} {Q : Exit → Act → World → Prop}
    (hn : ∀ c' st' x, Ext c c' → st'.lo = st.lo → st.nx ≤ st'.nx → Rel E.ty n c' st' (a.put o.dst x) → k st' = some r → next (a.put o.dst x) c'.w) : o.wp P a c.w next Q := by
  have front : ∀ (x : Res), Vm.front E.ty st.h st.nx (evalO st.t) o.type o.op = some x → x.ok = true → k (withRes o.dst x st) = some r → o.wp P a c.w next Q := by
    intro x hx hok hk
    obtain ⟨c', y, hrun, hF⟩ := front_sound hT Rl.hp Rl.eval (fun id h _ => Rl.fresh id h) Rl.base hx hok
    exact upon_value rfl hrun (hn c' (withRes o.dst x st) _ hF.ext rfl (Nat.le_add_right _ _) (Rl.front hF hd) hk)
  have back : ∀ (b : Bk) (c' : Ctx) (y : Value), (execOp a.eval o).run P c.w = .ok (.value y) c'.w → BkOk E.ty c c' st b.st → VR E.ty c' b.v y → k (withBk o.dst b) = some r → o.wp P a c.w next Q := by
    intro b c' y hrun hB hv hk
    exact upon_value rfl hrun (hn c' (withBk o.dst b) _ hB.ext hB.lo hB.nx (Rl.back hB hv hd) hk)
  have value : ∀ (v : V) (y : Value), (execOp a.eval o).run P c.w = .ok (.value y) c.w → VR E.ty c v y → k (withRes o.dst { v } st) = some r → o.wp P a c.w next Q := by
    intro v y hrun hv hk
    exact upon_value rfl hrun (hn c (withRes o.dst { v } st) _ (Ext.refl c) rfl (Nat.le_add_right _ _) (Rl.front (FrontOk.same (r := { v }) hv rfl) hd) hk)
  have skip : ∀ (b : Bk) (c' : Ctx) (s : Sem Unit), (∀ _ : Unit, execOp a.eval o = (do s; pure .skip)) → s.run P c.w = .ok () c'.w → BkOk E.ty c c' st b.st → k { b.st with t := setT o.dst .undef b.st.t } = some r → o.wp P a c.w next Q := by
    intro b c' s hs hrun hB hk
    refine upon_skip (hs ()) (by rw [run_bind hrun]; rfl) (hn c' { b.st with t := setT o.dst .undef b.st.t } _ hB.ext hB.lo hB.nx (Rl.back hB (v := .undef) (x := Go.undef) (by simp only [VR]) hd) hk)
  unfold Vm.step at h
  split at h
  ·
    rename_i cl hop
    split at h
    · rename_i b hcl
      split at h
      case h_2 => simp at h
      rename_i args hargs
      have hL := Rl.evalAll _ _ hargs
      split at h
      · rename_i x t r' hts
        split at h
        case h_2 => simp at h
        rename_i v hv
        simp only [LR] at hL
        obtain ⟨y, ys, e, hx, rfl⟩ := hL
        obtain ⟨z, hz, hzv⟩ := len_sound hT Rl.hp (ty0 := o.type) (toList_get hts) hv hx
        exact value v z (builtin_run hop hcl e (fun _ => rfl) hz) hzv h
      · rename_i s x t t2 hts
        split at h
        case h_2 => simp at h
        rename_i e2 b he hb
        obtain ⟨hok, hk⟩ := cond_some h
        simp only [LR] at hL
        obtain ⟨y, ys, e, hs, z, zs, rfl, hx, rfl⟩ := hL
        obtain ⟨c', u, hu, hB, hv⟩ := append_sound hT Rl.hp Rl.fresh Rl.base (ty0 := o.type) he hb hok hs hx
        have hts' : cl.argTypes = #[t, t2] := by apply Array.ext'; simpa using hts
        rw [← hts'] at hu
        exact back b c' u (builtin_run hop hcl e (fun _ => rfl) hu) hB hv hk
      · rename_i x t r' hts
        split at h
        case h_2 => simp at h
        rename_i b hb
        obtain ⟨hok, hk⟩ := cond_some h
        simp only [LR] at hL
        obtain ⟨y, ys, e, hx, rfl⟩ := hL
        cases he : slElem E.ty t with
        | none => rw [he] at hb; simp at hb
        | some el =>
          rw [he] at hb
          obtain ⟨c', u, hu, hB, hv⟩ := hW.clear c st cl.argTypes t el o.type x y b Rl.hp Rl.fresh (toList_get hts) he hb hok hx
          exact back b c' u (builtin_run hop hcl e (fun _ => rfl) hu) hB hv hk
      · rename_i l _
        split at h
        case h_2 => simp at h
        rename_i v hv
        unfold minMax at hv
        split at hv
        · simp at hv
        · rename_i x0 r0
          simp only [LR] at hL
          obtain ⟨y, ys, e, hx, hr0⟩ := hL
          obtain ⟨z, hz, hzv⟩ := max_go _ _ _ _ _ hv hx hr0
          exact value v z (builtin_run hop hcl e (fun _ => rfl) hz) hzv h
      · rename_i l _
        split at h
        case h_2 => simp at h
        rename_i v hv
        unfold minMax at hv
        split at hv
        · simp at hv
        · rename_i x0 r0
          simp only [LR] at hL
          obtain ⟨y, ys, e, hx, hr0⟩ := hL
          obtain ⟨z, hz, hzv⟩ := min_go _ _ _ _ _ hv hx hr0
          exact value v z (builtin_run hop hcl e (fun _ => rfl) hz) hzv h
      · simp at h
    · rename_i x hcl
      split at h
      case h_2 => simp at h
      rename_i f first captured args hx hargs
      have hL := Rl.evalAll _ _ hargs
      have hf := Rl.eval _ _ hx
      simp only [VR] at hf
      obtain ⟨p, q, hfe, hp, hq⟩ := hf
      have hfn : ∃ fn, E.fn f = some fn := by
        unfold callV at h
        split at h
        · split at h
          case h_2 => simp at h
          exact hC.pureFn R f _ _ _ h
        · split at h
          case h_2 => simp at h
          split at h
          case h_2 => simp at h
          exact hC.pureFn R f _ _ _ h
        · exact hC.inlFn R f _ st _ r h
      obtain ⟨fn, hfn⟩ := hfn
      obtain ⟨g1, g2, g3⟩ := hC.fn f fn hfn
      unfold Oper.wp
      rw [call_run hop hcl hfe rfl g1 g2 g3, Oper.upon_enter]
      exact callV_sound hC Rl hd h ((hp.append hL).append hq) hn
    · simp at h
  · rename_i t p x hop
    split at h
    case h_2 => simp at h
    rename_i vp vx hp hx
    split at h
    case h_2 => simp at h
    rename_i b hb
    obtain ⟨hok, hk⟩ := cond_some h
    obtain ⟨c', hrun, hB⟩ := store_sound hT Rl.hp Rl.fresh hb (Rl.eval _ _ hp) (Rl.eval _ _ hx)
    exact skip b c' _ (fun _ => by unfold execOp; rw [hop]) hrun hB hk
  · rename_i t m kx x hop
    split at h
    case h_2 => simp at h
    rename_i vm vk vx hm hkk hx
    split at h
    case h_2 => simp at h
    rename_i b hb
    obtain ⟨hok, hk⟩ := cond_some h
    obtain ⟨c', hrun, hB⟩ := hW.put c st t _ _ _ _ _ _ b Rl.hp Rl.fresh hb hok (Rl.eval _ _ hm) (Rl.eval _ _ hkk) (Rl.eval _ _ hx)
    exact skip b c' _ (fun _ => by unfold execOp; rw [hop]) hrun hB hk
  · rename_i t m kx hop
    split at h
    case h_2 => simp at h
    rename_i vm vk hm hkk
    split at h
    case h_2 => simp at h
    rename_i b hb
    obtain ⟨hok, hk⟩ := cond_some h
    obtain ⟨c', y, hrun, hB, hv⟩ := hW.enter c st t _ _ _ _ b Rl.hp Rl.fresh hb hok (Rl.eval _ _ hm) (Rl.eval _ _ hkk)
    refine back b c' y ?_ hB hv hk
    unfold execOp; rw [hop]
    show ((Instr.mapEntry _ _ _) >>= _ : Sem Next).run P c.w = _
    rw [run_bind hrun]; rfl
  · rename_i t m s x hop
    split at h
    case h_2 => simp at h
    rename_i vm vs vx hm hss hx
    split at h
    case h_2 => simp at h
    rename_i b hb
    obtain ⟨hok, hk⟩ := cond_some h
    obtain ⟨c', hrun, hB⟩ := hW.stamp c st t _ _ _ _ _ _ b Rl.hp Rl.fresh hb hok (Rl.eval _ _ hm) (Rl.eval _ _ hss) (Rl.eval _ _ hx)
    exact skip b c' _ (fun _ => by unfold execOp; rw [hop]) hrun hB hk
  · obtain ⟨op', h, _, hop'⟩ := splitIx_det h
    split at h
    case h_2 => simp at h
    rename_i x hx
    obtain ⟨hok, hk⟩ := cond_some h
    obtain ⟨c', y, hrun, hF⟩ := front_sound (o := { o with op := op' }) hT Rl.hp Rl.eval (fun id h _ => Rl.fresh id h) Rl.base hx hok
    rw [split_exec (a := a) Rl.eval hop'] at hrun
    exact upon_value rfl hrun (hn c' (withRes o.dst x st) _ hF.ext rfl (Nat.le_add_right _ _) (Rl.front hF hd) hk)
end
end Go.Vm
end
section
namespace Go.Vm
open Go.RowKit
section
variable {P : Program} {E : Env} {C : Calls} {n : Nat} {R : Type}
structure Onto (E : Env) (n : Nat) (c : Ctx) (st : St) (c' : Ctx) (st' : St) (a' : Act) : Prop where
  ext : Ext c c'
  lo : st'.lo = st.lo
  nx : st.nx ≤ st'.nx
  rel : Rel E.ty n c' st' a'
theorem Onto.trans {c c' c'' : Ctx} {st st' st'' : St} {a' a'' : Act} (h : Onto E n c st c' st' a') (k : Onto E n c' st' c'' st'' a'') : Onto E n c st c'' st'' a'' :=
  ⟨h.ext.trans k.ext, k.lo.trans h.lo, Nat.le_trans h.nx k.nx, k.rel⟩
theorem Rel.undef {c : Ctx} {st : St} {a : Act} (Rl : Rel E.ty n c st a) {dst : Option Nat} (hd : ∀ d, dst = some d → d < n) : Rel E.ty n c { st with t := setT dst .undef st.t } (a.put dst Go.undef) :=
  Rl.step (dst := dst) (Ext.refl c) Rl.hp Rl.fresh (Nat.le_refl _) rfl rfl (by simp only [VR]) hd
theorem Rel.told {c : Ctx} {st : St} {a : Act} (Rl : Rel E.ty n c st a) {d : Nat} {v : V} (h : get d st.t = some v) : Rel E.ty n c { st with t := ins d v st.t } a where
  tm := by
    intro t u hu
    by_cases htd : t = d
    · subst htd
      have hu' : get t (ins t v st.t) = some u := hu
      rw [get_ins_same] at hu'; cases hu'
      exact Rl.tm _ _ h
    · have hu' : get t (ins d v st.t) = some u := hu
      rw [get_ins_other _ htd] at hu'
      exact Rl.tm _ _ hu'
  hp := Rl.hp
  fresh := Rl.fresh
  lo := Rl.lo
  defers := Rl.defers
  size := Rl.size
  base := Rl.base
theorem guarded_sound {c : Ctx} {st : St} {a : Act} {ops : Array Oper} {o : Oper} {yes no : St → Option R} {r : R} (Rl : Rel E.ty n c st a) (h : guarded ops.toList o st yes no = some r) :
    ∃ st1, Onto E n c st c st1 a ∧ ((Region.wanted o (yielded ops a.tmps) = true ∧ yes st1 = some r) ∨ (Region.wanted o (yielded ops a.tmps) = false ∧ no st1 = some r)) := by
  unfold guarded at h
  unfold Region.wanted
  split at h
  · rename_i hg
    rw [hg]
    exact ⟨st, ⟨Ext.refl c, rfl, Nat.le_refl _, Rl⟩, .inl ⟨rfl, h⟩⟩
  · rename_i j want hg
    rw [hg]
    simp only
    split at h
    · simp at h
    · rename_i d hd
      have hd' : (ops[j]?).bind (·.dst) = some d := by
        rw [← hd]; simp
      split at h
      · rename_i b hb
        obtain ⟨x, hx, hv⟩ := Rl.tm d _ hb
        simp only [VR] at hv
        subst hv
        have hy : yielded ops a.tmps j = some b := by
          unfold yielded
          rw [hd']
          simp [hx]
        rw [hy]
        cases b <;> cases want <;> simp only [cond_true, cond_false] at h
        · exact ⟨{ st with t := ins d (.bool false) st.t }, ⟨Ext.refl c, rfl, Nat.le_refl _, Rl.told hb⟩, .inl ⟨rfl, h⟩⟩
        · exact ⟨{ st with t := ins d (.bool false) st.t }, ⟨Ext.refl c, rfl, Nat.le_refl _, Rl.told hb⟩, .inr ⟨rfl, h⟩⟩
        · exact ⟨{ st with t := ins d (.bool true) st.t }, ⟨Ext.refl c, rfl, Nat.le_refl _, Rl.told hb⟩, .inr ⟨rfl, h⟩⟩
        · exact ⟨{ st with t := ins d (.bool true) st.t }, ⟨Ext.refl c, rfl, Nat.le_refl _, Rl.told hb⟩, .inl ⟨rfl, h⟩⟩
      · rename_i hb
        obtain ⟨x, hx, hv⟩ := Rl.tm d _ hb
        simp only [VR] at hv
        subst hv
        have hy : yielded ops a.tmps j = none := by
          unfold yielded
          rw [hd']
          simp [hx, Go.undef]
        rw [hy]
        exact ⟨st, ⟨Ext.refl c, rfl, Nat.le_refl _, Rl⟩, .inr ⟨by simp, h⟩⟩
      · simp at h
theorem ops_sound (hT : TyOk P E.ty) (hW : WriteOk P E.ty) (hC : CallsOk P E C) {ops : Array Oper} {Q : Exit → Act → World → Prop} {k : St → Option R} {r : R} :
    ∀ (l : List Nat) (os : List Oper) (c : Ctx) (st : St) (a : Act), l.map (ops[·]?) = os.map some → (∀ o ∈ os, ∀ d, o.dst = some d → d < n) → Rel E.ty n c st a → runOps E C ops.toList os st k = some r →
      (∀ c' st' a', Onto E n c st c' st' a' → k st' = some r → Q .normal a' c'.w) → wpOps P ops Q l a c.w
  | [], [], c, st, a, _, _, Rl, h, hn => hn c st a ⟨Ext.refl c, rfl, Nat.le_refl _, Rl⟩ h
  | [], _ :: _, _, _, _, hl, _, _, _, _ => by simp at hl
  | _ :: _, [], _, _, _, hl, _, _, _, _ => by simp at hl
  | i :: l, o :: os, c, st, a, hl, hd, Rl, h, hn => by
    simp only [List.map_cons, List.cons.injEq] at hl
    simp only [runOps] at h
    simp only [wpOps, hl.1]
    obtain ⟨st1, h1, hg⟩ := guarded_sound Rl h
    rcases hg with ⟨hw, hy⟩ | ⟨hw, hy⟩
    · rw [if_pos hw]
      refine .inl (step_sound hT hW hC h1.rel (fun d he => hd o (by simp) d he) hy fun c' st' x e1 e2 e3 e4 e5 => ?_)
      exact ops_sound hT hW hC l os c' st' _ hl.2 (fun o ho => hd o (by simp [ho])) e4 e5 fun c2 st2 a2 hO hk => hn c2 st2 a2 ((h1.trans ⟨e1, e2, e3, e4⟩).trans hO) hk
    · rw [if_neg (by simp [hw])]
      have R2 := h1.rel.undef (fun d he => hd o (by simp) d he)
      have O2 : Onto E n c st1 c { st1 with t := setT o.dst .undef st1.t } (a.put o.dst Go.undef) := ⟨Ext.refl c, rfl, Nat.le_refl _, R2⟩
      exact ops_sound hT hW hC l os c { st1 with t := setT o.dst .undef st1.t } _ hl.2 (fun o ho => hd o (by simp [ho])) R2 hy fun c2 st2 a2 hO hk => hn c2 st2 a2 ((h1.trans O2).trans hO) hk
theorem range_idx (ops : Array Oper) : (List.range ops.size).map (ops[·]?) = ops.toList.map some := by
  apply List.ext_getElem?
  intro i
  rw [List.getElem?_map, List.getElem?_map]
  by_cases hi : i < ops.size
  · simp [hi]
  · simp [hi]
end
end Go.Vm
end
section
namespace Go.Vm
open Go.RowKit
section
variable {P : Program} {E : Env} {C : Calls} {n : Nat}
structure Le (lo : Nat) (c c' : Ctx) : Prop where
  base : c'.base = c.base
  fr : c'.F = c.F
  below : Below c.base c.w c'.w
  keeps : ∀ b, b < c.w.heap.size → c.F b → c'.w.heap[b]? = c.w.heap[b]?
  hI : ∀ b o, c.I b o → c'.I b o
  hnew : ∀ b o, c'.I b o → c.I b o ∨ Mine c b
  hcell : ∀ b o, c.I b o → c'.w.cell? ⟨b, o, none⟩ = c.w.cell? ⟨b, o, none⟩
  hμ : ∀ id i, id < lo → c.μ id = some i → c'.μ id = some i
theorem Le.of_ext {lo : Nat} {c c' : Ctx} (h : Ext c c') : Le lo c c' := ⟨h.base, h.fr, h.below, h.keeps, h.hI, h.hnew, h.hcell, fun id i _ => h.hμ id i⟩
theorem Le.refl (lo : Nat) (c : Ctx) : Le lo c c := .of_ext (Ext.refl c)
theorem Le.trans {lo : Nat} {a b c : Ctx} (h : Le lo a b) (k : Le lo b c) : Le lo a c where
  base := k.base.trans h.base
  fr := k.fr.trans h.fr
  below := h.below.trans (h.base ▸ k.below)
  keeps := fun b hb hF => (k.keeps b (Nat.lt_of_lt_of_le hb h.below.size) (h.fr ▸ hF)).trans (h.keeps b hb hF)
  hI := fun x y z => k.hI _ _ (h.hI x y z)
  hnew := fun x y z => by
    rcases k.hnew x y z with z | z
    · exact h.hnew x y z
    · exact .inr ⟨h.base ▸ z.1, h.fr ▸ z.2⟩
  hcell := fun x y z => (k.hcell _ _ (h.hI x y z)).trans (h.hcell x y z)
  hμ := fun x y l z => k.hμ _ _ l (h.hμ x y l z)
structure Goes (E : Env) (n : Nat) (c : Ctx) (st : St) (c' : Ctx) (st' : St) (a' : Act) : Prop where
  le : Le st.lo c c'
  lo : st'.lo = st.lo
  rel : Rel E.ty n c' st' a'
theorem Goes.of_onto {c c' : Ctx} {st st' : St} {a' : Act} (h : Onto E n c st c' st' a') : Goes E n c st c' st' a' := ⟨.of_ext h.ext, h.lo, h.rel⟩
theorem Goes.trans {c c' c'' : Ctx} {st st' st'' : St} {a' a'' : Act} (h : Goes E n c st c' st' a') (k : Goes E n c' st' c'' st'' a'') : Goes E n c st c'' st'' a'' :=
  ⟨h.le.trans (h.lo ▸ k.le), k.lo.trans h.lo, k.rel⟩
def RegionOk (P : Program) (E : Env) (C : Calls) (n : Nat) (id : Nat) (ops : Array Oper) (dr : Bool) : Prop :=
  ∀ (R : Type) (c : Ctx) (st : St) (a : Act) (Q : Exit → Act → World → Prop) (k : St → Option R) (r : R), Rel E.ty n c st a → (bif dr then runD E C ops.toList (planOf E ops.toList) st [] k else runOps E C ops.toList ops.toList st k) = some r →
    (∀ c' st' a', Onto E n c st c' st' a' → k st' = some r → Q .normal a' c'.w) → (Code.region id ops dr).wp P Q a c.w
def RegionsOk (P : Program) (E : Env) (C : Calls) (n : Nat) : Code → Prop
  | .region id ops dr => RegionOk P E C n id ops dr
  | .seq x y => RegionsOk P E C n x ∧ RegionsOk P E C n y
  | .cond _ x y => RegionsOk P E C n x ∧ RegionsOk P E C n y
  | .block _ x => RegionsOk P E C n x
  | .loop x => RegionsOk P E C n x
  | _ => True
def CanonOk (E : Env) : Prop :=
  ∀ (n : Nat) (live : List Nat) (c : Ctx) (st : St) (a : Act), Rel E.ty n c st a → ∀ st', canon 4096 live st = some st' → ∃ c', c'.w = c.w ∧ Goes E n c st c' st' a
theorem get_restrict {keep : List Nat} : ∀ {l : List (Nat × V)} {t : Nat} {v : V}, get t (restrict keep l) = some v → has t keep = true ∧ get t l = some v
  | [], _, _, h => by simp [restrict, get] at h
  | p :: r, t, v, h => by
    unfold restrict at h
    cases hk : has p.1 keep with
    | true =>
      rw [hk] at h
      simp only [cond_true, get] at h ⊢
      cases hb : Nat.beq t p.1 with
      | true =>
        rw [hb] at h
        obtain rfl := beq_true.1 hb
        exact ⟨hk, h⟩
      | false =>
        rw [hb] at h
        exact get_restrict h
    | false =>
      rw [hk] at h
      simp only [cond_false] at h
      obtain ⟨h1, h2⟩ := get_restrict h
      refine ⟨h1, ?_⟩
      simp only [get]
      cases hb : Nat.beq t p.1 with
      | true =>
        obtain rfl := beq_true.1 hb
        rw [hk] at h1; cases h1
      | false => exact h2
theorem Rel.restrict {c : Ctx} {st : St} {a : Act} (Rl : Rel E.ty n c st a) (keep : List Nat) : Rel E.ty n c { st with t := restrict keep st.t } a where
  tm := fun _ _ h => Rl.tm _ _ (get_restrict h).2
  hp := Rl.hp
  fresh := Rl.fresh
  lo := Rl.lo
  defers := Rl.defers
  size := Rl.size
  base := Rl.base
def exOf : Ex → Exit
  | .normal => .normal
  | .exit id => .exit id
  | .ret => .ret
theorem exec_sound (hK : CanonOk E) {f : FuncId} {N : Nat} {R : Type} {r : R} : ∀ (code : Code), RegionsOk P E C n code → ∀ (c : Ctx) (st : St) (a : Act) (Q : Exit → Act → World → Prop) (k : Ex → St → Option R),
    Rel E.ty n c st a → exec E C f N code st k = some r → (∀ e c' st' a', Goes E n c st c' st' a' → k e st' = some r → Q (exOf e) a' c'.w) → code.wp P Q a c.w := by
  intro code
  induction code with
  | skip =>
    intro _ c st a Q k Rl h hn
    exact wp_skip (hn .normal c st a ⟨Le.refl _ _, rfl, Rl⟩ h)
  | region id ops dr =>
    intro hR c st a Q k Rl h hn
    refine hR R c st a Q (fun st' => k .normal { st' with t := Vm.restrict (E.keep f) st'.t }) r Rl (by cases dr <;> exact h) fun c' st' a' hO hk => ?_
    have hg := Goes.of_onto hO
    exact hn .normal c' { st' with t := restrict (E.keep f) st'.t } a' ⟨hg.le, hg.lo, hg.rel.restrict _⟩ hk
  | seq x y ihx ihy =>
    intro hR c st a Q k Rl h hn
    refine wp_seq (ihx hR.1 c st a _ _ Rl h fun e c' st' a' hG hk => ?_)
    cases e with
    | normal => exact ihy hR.2 c' st' a' Q k hG.rel hk fun e c2 st2 a2 hG2 hk2 => hn e c2 st2 a2 (hG.trans hG2) hk2
    | exit id => exact hn (.exit id) c' st' a' hG hk
    | ret => exact hn .ret c' st' a' hG hk
  | cond x y z ihy ihz =>
    intro hR c st a Q k Rl h hn
    unfold exec at h
    split at h
    · rename_i b hb
      have hv := Rl.eval _ _ hb
      simp only [VR] at hv
      cases b with
      | true => exact wp_cond_true hv (ihy hR.1 c st a Q k Rl h hn)
      | false => exact wp_cond_false hv (ihz hR.2 c st a Q k Rl h hn)
    · simp at h
  | block id x ih =>
    intro hR c st a Q k Rl h hn
    refine wp_block (ih hR c st a _ _ Rl h fun e c' st' a' hG hk => ?_)
    cases e with
    | normal => exact hn .normal c' st' a' hG hk
    | ret => exact hn .ret c' st' a' hG hk
    | exit j =>
      show if j = id then Q .normal a' c'.w else Q (.exit j) a' c'.w
      cases hj : Nat.beq j id with
      | true =>
        simp only [hj, cond_true] at hk
        rw [if_pos (beq_true.1 hj)]
        exact hn .normal c' st' a' hG hk
      | false =>
        simp only [hj, cond_false] at hk
        rw [if_neg (beq_false.1 hj)]
        exact hn (.exit j) c' st' a' hG hk
  | loop x ih =>
    intro hR c st a Q k Rl h hn
    refine wp_loop_rounds N ?_
    have h' : loopN (exec E C f N x) (canon 4096 (E.live f ((firstRegion x).getD 0))) N st k = some r := h
    have key : ∀ (M : Nat) (c : Ctx) (st : St) (a : Act), Rel E.ty n c st a → loopN (exec E C f N x) (canon 4096 (E.live f ((firstRegion x).getD 0))) M st k = some r →
        (∀ e c' st' a', Goes E n c st c' st' a' → k e st' = some r → Q (exOf e) a' c'.w) → Code.rounds P x Q M a c.w := by
      intro M
      induction M with
      | zero => intro c st a _ h _; simp [loopN] at h
      | succ M ihM =>
        intro c st a Rl h hn
        rw [rounds_succ]
        simp only [loopN] at h
        split at h
        case h_2 => simp at h
        rename_i st0 hst0
        obtain ⟨c1, hw, hG1⟩ := hK n (E.live f ((firstRegion x).getD 0)) c st a Rl st0 hst0
        rw [← hw]
        refine ih hR c1 _ a _ _ hG1.rel h fun e c' st' a' hG hk => ?_
        have hG' := hG1.trans hG
        cases e with
        | normal => exact ihM c' st' a' hG.rel hk fun e c2 st2 a2 hG2 hk2 => hn e c2 st2 a2 (hG'.trans hG2) hk2
        | exit id => exact hn (.exit id) c' st' a' hG' hk
        | ret => exact hn .ret c' st' a' hG' hk
    exact key N c st a Rl h' hn
  | exit id =>
    intro _ c st a Q k Rl h hn
    exact wp_exit (hn (.exit id) c st a ⟨Le.refl _ _, rfl, Rl⟩ h)
  | ret =>
    intro _ c st a Q k Rl h hn
    exact wp_ret (hn .ret c st a ⟨Le.refl _ _, rfl, Rl⟩ h)
  | _ =>
    intros
    rename_i h _
    simp [exec] at h
end
end Go.Vm
end
section
namespace Go.Vm
open Go.RowKit
section
variable {P : Program} {E : Env} {C : Calls} {n : Nat}
theorem loadAt_addr {t : TypeId} {v x : Value} {w : World} (h : (Instr.loadAt t v).run P w = .ok x w) : (do loadVar t (← asAddr v) : Sem Value).run P w = .ok x w := by
  cases v with
  | pointer p =>
    cases p with
    | none => exact absurd h (by unfold Instr.loadAt Instr.sureAddr; simp [stuck, Bind.bind, Sem.bind])
    | some p => exact h
  | _ => exact absurd h (by unfold Instr.loadAt Instr.sureAddr; simp [stuck, Bind.bind, Sem.bind])
theorem results_go (hT : TyOk P E.ty) {c : Ctx} {st : St} {a : Act} (Rl : Rel E.ty n c st a) : ∀ (l : List ResultVar) (ts : List TypeId) (vs : List V), resultOf.go E.ty st l ts = some vs →
    ∃ xs, (l.mapM (m := Sem) fun | .tmp t => pure (a.tmps.getD t Go.undef) | .cell p t => do loadVar t (← asAddr (a.tmps.getD p Go.undef))).run P c.w = .ok xs c.w ∧ LR E.ty c vs xs
  | [], [], vs, h => by
    simp [resultOf.go] at h; subst h
    exact ⟨[], rfl, by simp only [LR]⟩
  | [], _ :: _, _, h => by simp [resultOf.go] at h
  | .tmp _ :: _, [], _, h => by simp [resultOf.go] at h
  | .cell _ _ :: _, [], _, h => by simp [resultOf.go] at h
  | .tmp t :: r, s :: ts, vs, h => by
    simp only [resultOf.go] at h
    split at h
    · rename_i v l hv hl
      simp at h; subst h
      obtain ⟨xs, hx, hL⟩ := results_go hT Rl r ts l hl
      refine ⟨_ :: xs, ?_, by simp only [LR]; exact ⟨_, _, rfl, Rl.eval (.tmp t) v hv, hL⟩⟩
      rw [List.mapM_cons, run_bind run_pure, run_bind hx]
      rfl
    · simp at h
  | .cell p t :: r, s :: ts, vs, h => by
    simp only [resultOf.go] at h
    split at h
    · rename_i x l hv hl
      cases hok : x.ok with
      | false => rw [hok] at h; simp at h
      | true =>
        rw [hok] at h; simp at h; subst h
        obtain ⟨xs, hx, hL⟩ := results_go hT Rl r ts l hl
        obtain ⟨y, hy, hyv, _⟩ := load_sound hT Rl.hp Rl.eval hv
        refine ⟨y :: xs, ?_, by simp only [LR]; exact ⟨_, _, rfl, hyv, hL⟩⟩
        rw [List.mapM_cons]
        refine (run_bind (a := y) (w1 := c.w) (loadAt_addr hy)).trans ?_
        rw [run_bind hx]
        rfl
    · simp at h
theorem results_ok (hT : TyOk P E.ty) {c : Ctx} {st : St} {a : Act} (Rl : Rel E.ty n c st a) {fn : Func} {vs : List V} (h : resultOf E.ty fn st = some vs) :
    ∃ xs, (results fn a.tmps).run P c.w = .ok (tupX xs) c.w ∧ LR E.ty c vs xs := by
  obtain ⟨xs, hx, hL⟩ := results_go hT Rl _ _ _ h
  refine ⟨xs, ?_, hL⟩
  unfold results
  have e : fn.results = fn.results.toList.toArray := by simp
  rw [e, List.mapM_toArray]
  have h2 : ((fun l : List Value => l.toArray) <$> (fn.results.toList.mapM (m := Sem) fun | .tmp t => pure (a.tmps.getD t Go.undef) | .cell p t => do loadVar t (← asAddr (a.tmps.getD p Go.undef)))).run P c.w = .ok xs.toArray c.w := by
    refine (run_bind (a := xs) (w1 := c.w) hx).trans ?_
    rfl
  refine (run_bind (a := xs.toArray) (w1 := c.w) h2).trans ?_
  match xs with
  | [] => rfl
  | [x] => rfl
  | x :: y :: r => simp [tupX]
theorem get_argT : ∀ (args : List V) (k t : Nat) (v : V), get t (argT k args) = some v → k ≤ t ∧ args[t - k]? = some v
  | [], _, _, _, h => by simp [argT, get] at h
  | u :: r, k, t, v, h => by
    simp only [argT, get] at h
    cases hb : Nat.beq t k with
    | true =>
      rw [hb] at h
      obtain rfl := beq_true.1 hb
      simp at h
      simp [h]
    | false =>
      rw [hb] at h
      obtain ⟨h1, h2⟩ := get_argT r (k + 1) t v h
      refine ⟨by omega, ?_⟩
      rw [show t - k = (t - (k + 1)) + 1 from by omega]
      simpa using h2
theorem Rel.enter {c : Ctx} {h : Heap} {fz : List Nat} {nx m : Nat} {as : List V} {vs : List Value} (H : HeapOk E.ty c h fz) (hf : ∀ id, nx ≤ id → c.μ id = none) (hb : Room c) (hl : LR E.ty c as vs) :
    Rel E.ty (vs.length + m) c { t := argT 0 as, h, fz, nx, lo := nx } { tmps := vs.toArray ++ Array.replicate m Go.undef, defers := [] } where
  tm := by
    intro t v ht
    obtain ⟨_, h2⟩ := get_argT as 0 t v ht
    simp only [Nat.sub_zero] at h2
    obtain ⟨hlt, rfl⟩ := List.getElem?_eq_some_iff.1 h2
    have hlt2 : t < vs.length := by rw [hl.len]; exact hlt
    refine ⟨vs[t], ?_, hl.at t hlt hlt2⟩
    rw [Array.getElem?_append_left (by simpa using hlt2)]
    simp [hlt2]
  hp := H
  fresh := hf
  lo := Nat.le_refl _
  defers := rfl
  size := by simp
  base := hb
def AllRegions (P : Program) (E : Env) : Prop := ∀ f fn code, E.fn f = some fn → fn.body = some code → ∀ (C : Calls) (n : Nat), CallsOk P E C → InlDet C → fn.ntmps ≤ n → RegionsOk P E C n code
def FnsOk (P : Program) (E : Env) : Prop := ∀ f fn, E.fn f = some fn → P.funcs[f]? = some fn ∧ (fn.name == "runtime.NumGoroutine") = false ∧ fn.body.isNone = false
def PureSpec (P : Program) (E : Env) (f : FuncId) (as r : List V) : Prop :=
  ∀ (w : World) (I : Nat → Nat → Prop) (vs : List Value), (∀ b o, I b o → b < w.heap.size) → LR E.ty { w, base := w.heap.size, F := fun _ => False, I, μ := fun _ => none } as vs →
    Go.Calls P f vs.toArray w fun e w' => ∃ c1 xs, e = .returned (tupX xs) ∧ c1.w = w' ∧ PureOk E.ty { w, base := w.heap.size, F := fun _ => False, I, μ := fun _ => none } c1 xs r
def InlSpec (P : Program) (E : Env) (R : Type) (f : FuncId) (as : List V) (st : St) (k : List V → St → Option R) (r : R) : Prop :=
  ∀ (c : Ctx) (vs : List Value), HeapOk E.ty c st.h st.fz → (∀ id, st.nx ≤ id → c.μ id = none) → Room c → st.lo ≤ st.nx →
    LR E.ty c as vs → Go.Calls P f vs.toArray c.w fun e w' => ∃ c' st' ws xs, e = .returned (tupX xs) ∧ c'.w = w' ∧ Ext c c' ∧ HeapOk E.ty c' st'.h st'.fz ∧ (∀ id, st'.nx ≤ id → c'.μ id = none) ∧ st'.t = st.t ∧ st'.lo = st.lo ∧ st.nx ≤ st'.nx ∧
      LR E.ty c' ws xs ∧ k ws st' = some r
theorem pure_sound (hT : TyOk P E.ty) (hF : FnsOk P E) (hR : AllRegions P E) (hK : CanonOk E) (hC : CallsOk P E C) (hD : InlDet C) {N : Nat} {f : FuncId} {as r : List V} (h : pureBody E N C f as = some r) : PureSpec P E f as r := by
  intro w I vs hI hl
  unfold pureBody at h
  split at h
  case h_2 => simp at h
  rename_i fn hfn
  split at h
  case h_2 => simp at h
  rename_i code hcode
  cases hlen : Nat.beq as.length (fn.params.size + fn.nfree) with
  | false => rw [hlen] at h; simp at h
  | true =>
    rw [hlen] at h
    simp only [cond_true] at h
    refine calls_of_wp (hF f fn hfn).1 hcode ?_
    have Rl := Rel.enter (E := E) (h := []) (fz := []) (nx := 0) (m := fn.ntmps - vs.length) (c := { w, base := w.heap.size, F := fun _ => False, I, μ := fun _ => none }) ⟨fun _ _ _ hg => by simp [get] at hg, fun _ _ _ _ _ _ hg => by simp [get] at hg, hI⟩ (fun _ _ => rfl) ⟨Nat.le_refl _, fun _ h => h.elim⟩ hl
    have Rl' : Rel E.ty (vs.length + (fn.ntmps - vs.length)) { w, base := w.heap.size, F := fun _ => False, I, μ := fun _ => none } _ { tmps := vs.toArray ++ Array.replicate (fn.ntmps - vs.toArray.size) Go.undef, defers := [] } := Rl
    refine exec_sound hK code (hR f fn code hfn hcode _ (vs.length + (fn.ntmps - vs.length)) hC hD (by omega)) _ _ _ _ _ Rl' h fun e c' st' a' hG hk => ?_
    have fin : (match resultOf E.ty fn st' with
        | some vs => bif once (ownIds (vs.flatMap V.flat)) then
            match expRes st'.h st'.fz vs with
            | some r => some r
            | none => none
          else none
        | none => none) = some r → a'.defers = [] ∧ ∃ v, (results fn a'.tmps).run P c'.w = .ok v c'.w ∧ ∃ c1 xs, Ending.returned v = .returned (tupX xs) ∧ c1.w = c'.w ∧ PureOk E.ty { w, base := w.heap.size, F := fun _ => False, I, μ := fun _ => none } c1 xs r := by
      intro hk
      refine ⟨hG.rel.defers, ?_⟩
      split at hk
      case h_2 => simp at hk
      rename_i ws hws
      obtain ⟨xs, hx, hL⟩ := results_ok hT hG.rel hws
      refine ⟨_, hx, c', xs, rfl, rfl, ?_⟩
      cases ho : once (ownIds (ws.flatMap V.flat)) with
      | false => rw [ho] at hk; simp at hk
      | true =>
        rw [ho] at hk
        simp only [cond_true] at hk
        split at hk
        case h_2 => simp at hk
        rename_i r0 hr0
        simp at hk; subst hk
        exact ⟨⟨hG.le.base, hG.le.fr, hG.le.below, hG.le.keeps, hG.le.hI, hG.le.hnew, hG.le.hcell, fun id i hi => by cases hi⟩, ⟨st'.h, st'.fz, ws, hG.rel.hp, hL, hr0, ho⟩⟩
    cases e with
    | exit j => simp at hk
    | normal => exact fin hk
    | ret => exact fin hk
theorem HeapOk.part {ty : Tys} {c : Ctx} {h hv : Heap} {fz fz' : List Nat} (H : HeapOk ty c h fz) (hs : ∀ id x i, c.μ id = some i → get id hv = some x → get id h = some x) (hz : ∀ id, id ∈ fz → id ∈ fz') : HeapOk ty c hv fz' where
  hp := fun id o i hg hi => (H.hp id o i (hs id o i hi hg) hi).keep (Ext.refl c) (fun _ => rfl) (fun h => has_mem.2 (hz id (has_mem.1 h))) (fun _ _ h => .inl h)
  sep := fun id id' o o' i i' hg hg' hi hi' => H.sep id id' o o' i i' (hs id o i hi hg) (hs id' o' i' hi' hg') hi hi'
  ib := H.ib
theorem get_liveHeap {m : Ren} {lo : Nat} : ∀ {h : Heap} {id : Nat} {o : Obj}, get id (liveHeap m lo h) = some o → get id h = some o
  | [], _, _, h => by simp [liveHeap, get] at h
  | p :: r, id, o, h => by
    unfold liveHeap at h
    have key : get id (p :: liveHeap m lo r) = some o → get id (p :: r) = some o := by
      intro h
      simp only [get] at h ⊢
      cases hb : Nat.beq id p.1 with
      | true => rw [hb] at h; exact h
      | false => rw [hb] at h; exact get_liveHeap h
    cases hl : Nat.blt p.1 lo with
    | true => rw [hl] at h; exact key h
    | false =>
      rw [hl] at h
      simp only [cond_false] at h
      cases hm : get p.1 m with
      | some x => rw [hm] at h; exact key h
      | none =>
        rw [hm] at h
        simp only at h
        have := get_liveHeap h
        simp only [get]
        cases hb : Nat.beq id p.1 with
        | false => exact this
        | true =>
          obtain rfl := beq_true.1 hb
          exfalso
          have : ∀ (h : Heap) (o : Obj), get p.1 (liveHeap m lo h) = some o → False := by
            intro h
            induction h with
            | nil => intro o h; simp [liveHeap, get] at h
            | cons q r ih =>
              intro o h
              unfold liveHeap at h
              by_cases hq : p.1 = q.1
              · rw [← hq, hl] at h
                simp only [cond_false, hm] at h
                exact ih o h
              · have hkey : get p.1 (q :: liveHeap m lo r) = some o → False := fun h => by
                  simp only [get, beq_false.2 hq, cond_false] at h
                  exact ih o h
                cases hq2 : Nat.blt q.1 lo with
                | true => rw [hq2] at h; exact hkey h
                | false =>
                  rw [hq2] at h
                  simp only [cond_false] at h
                  cases hh : get q.1 m with
                  | some x => rw [hh] at h; exact hkey h
                  | none => rw [hh] at h; exact ih o h
          exact this r o h
theorem endCall_ok (hK : CanonOk E) {c : Ctx} {st st2 : St} {vs ws : List V} {xs : List Value} (H : HeapOk E.ty c st.h st.fz) (hf : ∀ id, st.nx ≤ id → c.μ id = none) (hlo : st.lo ≤ st.nx) (hb : Room c)
    (hL : LR E.ty c vs xs) (h : endCall vs st = some (ws, st2)) : ∃ c', c'.w = c.w ∧ Le st.lo c c' ∧ HeapOk E.ty c' st2.h st2.fz ∧ (∀ id, st2.nx ≤ id → c'.μ id = none) ∧ st2.lo = st.lo ∧ st2.lo ≤ st2.nx ∧ LR E.ty c' ws xs := by
  unfold endCall at h
  split at h
  case h_2 => simp at h
  rename_i st' hc
  split at h
  case h_2 => simp at h
  rename_i ws' hg
  simp only [Option.some.injEq, Prod.mk.injEq] at h
  obtain ⟨rfl, rfl⟩ := h
  have Rl : Rel E.ty 1 c { st with t := [(0, .tup vs)] } { tmps := #[.tuple xs.toArray], defers := [] } := ⟨fun t v ht => by
    simp only [get] at ht
    cases hb : Nat.beq t 0 with
    | true =>
      rw [hb] at ht
      obtain rfl := beq_true.1 hb
      simp only [cond_true, Option.some.injEq] at ht
      subst ht
      exact ⟨_, rfl, by simp only [VR]; exact ⟨_, rfl, by simpa using hL⟩⟩
    | false => rw [hb] at ht; simp at ht, H, hf, hlo, rfl, rfl, hb⟩
  obtain ⟨c', hw, hG⟩ := hK 1 [0] c _ _ Rl _ hc
  obtain ⟨x, hx, hv⟩ := hG.rel.tm 0 _ hg
  simp at hx
  subst hx
  simp only [VR] at hv
  obtain ⟨ys, hy, hLy⟩ := hv
  cases hy
  exact ⟨c', hw, hG.le, hG.rel.hp, hG.rel.fresh, hG.lo, hG.rel.lo, by simpa using hLy⟩
theorem inl_sound (hT : TyOk P E.ty) (hF : FnsOk P E) (hR : AllRegions P E) (hK : CanonOk E) (hC : CallsOk P E C) (hD : InlDet C) {N : Nat} {R : Type} {f : FuncId} {as : List V} {st : St} {k : List V → St → Option R} {r : R} (h : inlBody E N C f as st k = some r) : InlSpec P E R f as st k r := by
  intro c vs H hf hb hlo hl
  unfold inlBody at h
  split at h
  case h_2 => simp at h
  rename_i fn hfn
  split at h
  case h_2 => simp at h
  rename_i code hcode
  cases hlen : Nat.beq as.length (fn.params.size + fn.nfree) with
  | false => rw [hlen] at h; simp at h
  | true =>
    rw [hlen] at h
    simp only [cond_true] at h
    refine calls_of_wp (hF f fn hfn).1 hcode ?_
    have Rl := Rel.enter (m := fn.ntmps - vs.length) (H.part (hv := (dropDead as st).h) (fun id x i _ hg => get_liveHeap hg) fun _ h => h) hf hb hl
    have Rl' : Rel E.ty (vs.length + (fn.ntmps - vs.length)) c _ { tmps := vs.toArray ++ Array.replicate (fn.ntmps - vs.toArray.size) Go.undef, defers := [] } := Rl
    refine exec_sound hK code (hR f fn code hfn hcode _ (vs.length + (fn.ntmps - vs.length)) hC hD (by omega)) _ _ _ _ _ Rl' h fun e c' st' a' hG hk => ?_
    have fin : (match (resultOf E.ty fn st').bind fun vs => endCall vs st' with
        | some p => k p.1 { p.2 with t := st.t, lo := st.lo }
        | none => none) = some r → a'.defers = [] ∧ ∃ v, (results fn a'.tmps).run P c'.w = .ok v c'.w ∧ ∃ c1 st1 ws xs, Ending.returned v = .returned (tupX xs) ∧ c1.w = c'.w ∧ Ext c c1 ∧ HeapOk E.ty c1 st1.h st1.fz ∧ (∀ id, st1.nx ≤ id → c1.μ id = none) ∧ st1.t = st.t ∧ st1.lo = st.lo ∧ st.nx ≤ st1.nx ∧
            LR E.ty c1 ws xs ∧ k ws st1 = some r := by
      intro hk
      refine ⟨hG.rel.defers, ?_⟩
      split at hk
      case h_2 => simp at hk
      rename_i p hp
      cases hws : resultOf E.ty fn st' with
      | none => rw [hws] at hp; simp at hp
      | some ws =>
        rw [hws] at hp
        simp only [Option.bind_some] at hp
        obtain ⟨xs, hx, hL⟩ := results_ok hT hG.rel hws
        have hlo' : st'.lo = st.nx := hG.lo
        obtain ⟨c2, hw2, hLe, H2, hf2, hl2, hn2, hL2⟩ := endCall_ok hK hG.rel.hp hG.rel.fresh hG.rel.lo hG.rel.base hL hp
        have hle : Le st.nx c c2 := hG.le.trans (hlo' ▸ hLe)
        refine ⟨_, hx, c2, { p.2 with t := st.t, lo := st.lo }, p.1, xs, rfl, hw2, ⟨hle.base, hle.fr, hle.below, hle.keeps, hle.hI, hle.hnew, hle.hcell, fun id i hi => hle.hμ id i ?_ hi⟩, H2, hf2, rfl, rfl, by rw [hl2, hlo'] at hn2; exact hn2, hL2, hk⟩
        rcases Nat.lt_or_ge id st.nx with g | g
        · exact g
        · rw [hf id g] at hi; cases hi
    cases e with
    | exit j => simp at hk
    | normal => exact fin hk
    | ret => exact fin hk
end
end Go.Vm
end
section
namespace Go.Vm
open Go.RowKit
section
variable {E : Env} {ty : Tys} {c c' : Ctx} {n lo : Nat} {m : Ren} {h : Heap}
structure GcOk (lo : Nat) (g : Gc) : Prop where
  le : lo ≤ g.nx
  ge : ∀ id x, get id g.m = some x → lo ≤ x ∧ x < g.nx
  inj : ∀ a b x, get a g.m = some x → get b g.m = some x → a = b
  hi : ∀ id x, get id g.m = some x → lo ≤ id
  mem : ∀ p ∈ g.m, get p.1 g.m = some p.2
theorem mem_ins {α : Type} {k : Nat} {a : α} {p : Nat × α} : ∀ {l : List (Nat × α)}, p ∈ ins k a l → p = (k, a) ∨ p ∈ l
  | [], hp => by simp [ins] at hp; exact .inl hp
  | q :: r, hp => by
    unfold ins at hp
    cases h1 : Nat.beq k q.1 with
    | true =>
      rw [h1] at hp
      simp only [cond_true, List.mem_cons] at hp ⊢
      rcases hp with hp | hp
      · exact .inl hp
      · exact .inr (.inr hp)
    | false =>
      rw [h1] at hp
      simp only [cond_false] at hp
      cases h2 : Nat.blt k q.1 with
      | true =>
        rw [h2] at hp
        simp only [cond_true, List.mem_cons] at hp ⊢
        exact hp
      | false =>
        rw [h2] at hp
        simp only [cond_false, List.mem_cons] at hp ⊢
        rcases hp with hp | hp
        · exact .inr (.inl hp)
        · rcases mem_ins hp with hp | hp
          · exact .inl hp
          · exact .inr (.inr hp)
theorem get_mem {α : Type} {k : Nat} {a : α} : ∀ {l : List (Nat × α)}, get k l = some a → (k, a) ∈ l
  | [], hp => by simp [get] at hp
  | q :: r, hp => by
    simp only [get] at hp
    cases h1 : Nat.beq k q.1 with
    | true =>
      rw [h1] at hp
      obtain rfl := beq_true.1 h1
      simp at hp; subst hp
      simp
    | false =>
      rw [h1] at hp
      exact List.mem_cons_of_mem _ (get_mem hp)
theorem GcOk.add {g : Gc} (hg : GcOk lo g) (id : Nat) : GcOk lo (g.add lo id) := by
  unfold Gc.add
  cases hb : Nat.blt id lo with
  | true => exact hg
  | false =>
    simp only [cond_false]
    cases hi : get id g.m with
    | some x => exact hg
    | none =>
      have hlo : lo ≤ id := by
        rcases Nat.lt_or_ge id lo with q | q
        · have : Nat.blt id lo = true := by simpa [Nat.blt_eq] using q
          rw [hb] at this; cases this
        · exact q
      have key : ∀ j x, get j (ins id g.nx g.m) = some x → (j = id ∧ x = g.nx) ∨ (j ≠ id ∧ get j g.m = some x) := by
        intro j x hj
        by_cases hji : j = id
        · subst hji
          rw [get_ins_same] at hj
          exact .inl ⟨rfl, (Option.some.inj hj).symm⟩
        · rw [get_ins_other _ hji] at hj
          exact .inr ⟨hji, hj⟩
      refine ⟨Nat.le_succ_of_le hg.le, fun j x hj => ?_, fun a b x ha hb => ?_, fun j x hj => ?_, fun p hp => ?_⟩
      · rcases key j x hj with ⟨_, rfl⟩ | ⟨_, hj⟩
        · exact ⟨hg.le, Nat.lt_succ_self _⟩
        · exact ⟨(hg.ge j x hj).1, Nat.lt_succ_of_lt (hg.ge j x hj).2⟩
      · rcases key a x ha with ⟨e1, e2⟩ | ⟨_, ha'⟩ <;> rcases key b x hb with ⟨e3, e4⟩ | ⟨_, hb'⟩
        · rw [e1, e3]
        · have := (hg.ge b _ hb').2; omega
        · have := (hg.ge a _ ha').2; omega
        · exact hg.inj a b x ha' hb'
      · rcases key j x hj with ⟨rfl, _⟩ | ⟨_, hj⟩
        · exact hlo
        · exact hg.hi j x hj
      · rcases mem_ins hp with rfl | hp
        · exact get_ins_same _ _ _
        · have h1 := hg.mem p hp
          have : p.1 ≠ id := fun e => by rw [e, hi] at h1; cases h1
          show get p.1 (ins id g.nx g.m) = some p.2
          rw [get_ins_other _ this]; exact h1
theorem gcV_ok : ∀ (N : Nat) (l : List V) (g : Gc), GcOk lo g → GcOk lo (gcV h lo N l g)
  | 0, _, _, hg => by simpa only [gcV] using hg
  | _ + 1, [], _, hg => by simpa only [gcV] using hg
  | N + 1, v :: r, g, hg => by
    simp only [gcV]
    refine gcV_ok N r _ ?_
    split
    · exact hg.add _
    · exact hg.add _
    · exact hg.add _
    · exact hg.add _
    · rename_i id _
      split
      · exact hg
      · cases hb : Nat.blt id lo with
        | true => exact hg
        | false =>
          simp only [cond_false]
          split
          · exact gcV_ok N _ _ (hg.add _)
          · exact hg.add _
    · exact gcV_ok N _ _ hg
    · exact gcV_ok N _ _ hg
    · exact gcV_ok N _ _ hg
    · exact gcV_ok N _ _ (gcV_ok N _ _ hg)
    · exact hg
open Classical in
noncomputable def renM (lo : Nat) (m : Ren) (μ : Nat → Option Info) (id : Nat) : Option Info :=
  if id < lo then μ id else if hh : ∃ j, get j m = some id then μ (Classical.choose hh) else none
theorem blt_true {a b : Nat} : Nat.blt a b = true ↔ a < b := by simp [Nat.blt_eq]
theorem renM_ok {g : Gc} (hg : GcOk lo g) {μ : Nat → Option Info} {id id' : Nat} (hr : renId lo g.m id = some id') : renM lo g.m μ id' = μ id := by
  unfold renId at hr
  unfold renM
  cases hb : Nat.blt id lo with
  | true =>
    rw [hb] at hr
    simp at hr; subst hr
    rw [if_pos (blt_true.1 hb)]
  | false =>
    rw [hb] at hr
    simp only [cond_false] at hr
    have h1 := hg.ge id id' hr
    rw [if_neg (by omega)]
    have hex : ∃ j, get j g.m = some id' := ⟨id, hr⟩
    rw [dif_pos hex]
    rw [hg.inj _ _ _ (Classical.choose_spec hex) hr]
mutual
theorem VR.ren (S : Seen (fun _ => True) c c') (hμ : ∀ id id', renId lo m id = some id' → c'.μ id' = c.μ id) : ∀ {v v' : V} {x : Value}, renV lo m v = some v' → VR ty c v x → VR ty c' v' x
  | .own id, _, _, hr, hv => by
    simp only [renV, Option.map_eq_some_iff] at hr
    obtain ⟨j, hj, rfl⟩ := hr
    simp only [VR, hμ _ _ hj] at hv ⊢
    exact hv
  | .owns id _ _, _, _, hr, hv => by
    simp only [renV, Option.map_eq_some_iff] at hr
    obtain ⟨j, hj, rfl⟩ := hr
    simp only [VR, hμ _ _ hj] at hv ⊢
    exact hv
  | .elem id _ _, _, _, hr, hv => by
    simp only [renV, Option.map_eq_some_iff] at hr
    obtain ⟨j, hj, rfl⟩ := hr
    simp only [VR, hμ _ _ hj] at hv ⊢
    exact hv
  | .mp id, _, _, hr, hv => by
    simp only [renV, Option.map_eq_some_iff] at hr
    obtain ⟨j, hj, rfl⟩ := hr
    simp only [VR, hμ _ _ hj] at hv ⊢
    exact hv
  | .ptr id _, _, _, hr, hv => by
    simp only [renV, Option.map_eq_some_iff] at hr
    obtain ⟨j, hj, rfl⟩ := hr
    simp only [VR, hμ _ _ hj] at hv ⊢
    exact hv
  | .agg l, _, _, hr, hv => by
    simp only [renV, Option.map_eq_some_iff] at hr
    obtain ⟨j, hj, rfl⟩ := hr
    simp only [VR] at hv ⊢
    obtain ⟨xs, e, hl⟩ := hv
    exact ⟨xs, e, CR.ren S hμ hj hl⟩
  | .tup l, _, _, hr, hv => by
    simp only [renV, Option.map_eq_some_iff] at hr
    obtain ⟨j, hj, rfl⟩ := hr
    simp only [VR] at hv ⊢
    obtain ⟨xs, e, hl⟩ := hv
    exact ⟨xs, e, LR.ren S hμ hj hl⟩
  | .ro l, _, _, hr, hv => by
    simp only [renV, Option.map_eq_some_iff] at hr
    obtain ⟨j, hj, rfl⟩ := hr
    simp only [VR] at hv ⊢
    obtain ⟨b, o, e, hl⟩ := hv
    exact ⟨b, o, e, MR.ren S hμ hj hl⟩
  | .fn f p q, _, _, hr, hv => by
    simp only [renV] at hr
    split at hr
    · rename_i p' q' hp' hq'
      simp at hr; subst hr
      simp only [VR] at hv ⊢
      obtain ⟨ps, qs, e, hp, hq⟩ := hv
      exact ⟨ps, qs, e, LR.ren S hμ hp' hp, LR.ren S hμ hq' hq⟩
    · simp at hr
  | .undef, _, _, hr, hv => by simp only [renV, Option.some.injEq] at hr; subst hr; exact hv.seen trivial S (by simp [NI])
  | .bool _, _, _, hr, hv => by simp only [renV, Option.some.injEq] at hr; subst hr; exact hv.seen trivial S (by simp [NI])
  | .int _ _, _, _, hr, hv => by simp only [renV, Option.some.injEq] at hr; subst hr; exact hv.seen trivial S (by simp [NI])
  | .str _, _, _, hr, hv => by simp only [renV, Option.some.injEq] at hr; subst hr; exact hv.seen trivial S (by simp [NI])
  | .ints _ _ _, _, _, hr, hv => by simp only [renV, Option.some.injEq] at hr; subst hr; exact hv.seen trivial S (by simp [NI])
  | .bools _ _, _, _, hr, hv => by simp only [renV, Option.some.injEq] at hr; subst hr; exact hv.seen trivial S (by simp [NI])
  | .vals _ _ _, _, _, hr, hv => by simp only [renV, Option.some.injEq] at hr; subst hr; exact hv.seen trivial S (by simp [NI])
  | .nilp, _, _, hr, hv => by simp only [renV, Option.some.injEq] at hr; subst hr; exact hv.seen trivial S (by simp [NI])
  | .nilfn, _, _, hr, hv => by simp only [renV, Option.some.injEq] at hr; subst hr; exact hv.seen trivial S (by simp [NI])
  | .nils, _, _, hr, hv => by simp only [renV, Option.some.injEq] at hr; subst hr; exact hv.seen trivial S (by simp [NI])
  | .nilmp, _, _, hr, hv => by simp only [renV, Option.some.injEq] at hr; subst hr; exact hv.seen trivial S (by simp [NI])
theorem CR.ren (S : Seen (fun _ => True) c c') (hμ : ∀ id id', renId lo m id = some id' → c'.μ id' = c.μ id) : ∀ {l l' : List V} {xs : List Value}, renL lo m l = some l' → CR ty c l xs → CR ty c' l' xs
  | [], _, _, hr, hl => by
    simp only [renL, Option.some.injEq] at hr; subst hr
    simpa only [CR] using hl
  | v :: r, _, _, hr, hl => by
    simp only [renL] at hr
    split at hr
    · rename_i x s h1 h2
      simp at hr; subst hr
      simp only [CR] at hl ⊢
      obtain ⟨y, ys, e, hv, hc, hr⟩ := hl
      exact ⟨y, ys, e, VR.ren S hμ h1 hv, hc, CR.ren S hμ h2 hr⟩
    · simp at hr
theorem LR.ren (S : Seen (fun _ => True) c c') (hμ : ∀ id id', renId lo m id = some id' → c'.μ id' = c.μ id) : ∀ {l l' : List V} {xs : List Value}, renL lo m l = some l' → LR ty c l xs → LR ty c' l' xs
  | [], _, _, hr, hl => by
    simp only [renL, Option.some.injEq] at hr; subst hr
    simpa only [LR] using hl
  | v :: r, _, _, hr, hl => by
    simp only [renL] at hr
    split at hr
    · rename_i x s h1 h2
      simp at hr; subst hr
      simp only [LR] at hl ⊢
      obtain ⟨y, ys, e, hv, hr⟩ := hl
      exact ⟨y, ys, e, VR.ren S hμ h1 hv, LR.ren S hμ h2 hr⟩
    · simp at hr
theorem MR.ren (S : Seen (fun _ => True) c c') (hμ : ∀ id id', renId lo m id = some id' → c'.μ id' = c.μ id) : ∀ {l l' : List V} {b o : Nat}, renL lo m l = some l' → MR ty c l b o → MR ty c' l' b o
  | [], _, _, _, hr, _ => by
    simp only [renL, Option.some.injEq] at hr; subst hr
    simp only [MR]
  | v :: r, _, b, o, hr, hl => by
    simp only [renL] at hr
    split at hr
    · rename_i x s h1 h2
      simp at hr; subst hr
      simp only [MR] at hl ⊢
      obtain ⟨⟨y, hv, hs, hi, hj⟩, hr⟩ := hl
      exact ⟨⟨y, VR.ren S hμ h1 hv, hs, (S _ _ _ trivial hi).1, (S _ _ _ trivial hi).2.trans hj⟩, MR.ren S hμ h2 hr⟩
    · simp at hr
end
theorem OR.ren (S : Seen (fun _ => True) c c') (hμ : ∀ id id', renId lo m id = some id' → c'.μ id' = c.μ id) (hw : c'.w = c.w) (hI : c'.I = c.I) {f : Bool} {i : Info} (hb : i.on = true → Mine c i.b → Mine c' i.b) {o o' : Obj} (hr : renObj lo m o = some o') (hO : OR ty c f i o) :
    OR ty c' f i o' := by
  have blk : i.on = true → ∀ k z, BlkOk c i k z → BlkOk c' i k z := by
    rintro hon k z ⟨cs, T, h1, h2, h3, h4⟩
    exact ⟨cs, T, by rw [hw]; exact h1, h2, hb hon h3, by rw [hI]; exact h4⟩
  have arr : ∀ sz len, ArrOk c f i sz len → ArrOk c' f i sz len := by
    rintro sz len ⟨a1, a2, a3, a4, a5, a6⟩
    exact ⟨a1, a2, a3, a4, a5, fun hon => ⟨(a6 hon).1, blk hon _ _ (a6 hon).2⟩⟩
  cases o with
  | cells l =>
    simp only [renObj, Option.map_eq_some_iff] at hr
    obtain ⟨l', hl, rfl⟩ := hr
    obtain ⟨h1, h2, h3, h4, xs, h5, h6⟩ := hO
    have h5' := CR.ren S hμ hl h5
    have e : l'.length = l.length := by rw [← h5'.len, h5.len]
    exact ⟨h1, h2, by rw [e]; exact h3, by rw [e]; exact blk h1 _ _ h4, xs, h5', by rw [hw]; exact h6⟩
  | ints k l =>
    simp only [renObj, Option.some.injEq] at hr; subst hr
    exact ⟨arr _ _ hO.1, by rw [hw]; exact hO.2⟩
  | bools l =>
    simp only [renObj, Option.some.injEq] at hr; subst hr
    exact ⟨arr _ _ hO.1, by rw [hw]; exact hO.2⟩
  | vals e l =>
    simp only [renObj, Option.some.injEq] at hr; subst hr
    obtain ⟨ei, h1, h2, h3, h4, h5⟩ := hO
    refine ⟨ei, h1, h2, h3, arr _ _ h4, fun j hj => ?_⟩
    obtain ⟨y, hy, hs, ht⟩ := h5 j hj
    exact ⟨y, hy.seen trivial S (okV_NI trivial (h3 _ (List.getElem_mem _))), hs, by rw [hw]; exact ht⟩
  | map kt et l cl =>
    simp only [renObj, Option.some.injEq] at hr; subst hr
    obtain ⟨h1, h2, es, h3, hM⟩ := hO
    obtain ⟨ki, k1, k2, k3⟩ := hM.kt
    obtain ⟨ei, e1, e2⟩ := hM.et
    refine ⟨h1, hb h1 h2, es, by rw [hw]; exact h3, hM.kt, hM.et, hM.len, fun j hj hj' => ?_, hM.lt, hM.up⟩
    obtain ⟨a1, a2, a3⟩ := hM.at_ j hj hj'
    exact ⟨a1.seen trivial S (okV_NI trivial (k3 _ (List.getElem_mem _))), a2.seen trivial S (okV_NI trivial (e2 _ (List.getElem_mem _))), a3⟩
theorem get_renT : ∀ {l l' : List (Nat × V)} {t : Nat} {v' : V}, renT lo m l = some l' → get t l' = some v' → ∃ v, get t l = some v ∧ renV lo m v = some v'
  | [], _, t, v', hr, hg => by
    simp [renT] at hr; subst hr; simp [get] at hg
  | p :: r, l', t, v', hr, hg => by
    simp only [renT] at hr
    split at hr
    · rename_i x s h1 h2
      simp at hr; subst hr
      simp only [get] at hg ⊢
      cases hb : Nat.beq t p.1 with
      | true =>
        rw [hb] at hg
        simp at hg; subst hg
        exact ⟨p.2, rfl, h1⟩
      | false =>
        rw [hb] at hg
        exact get_renT h2 hg
    · simp at hr
theorem get_lowHeap : ∀ {l l' : Heap} {id : Nat} {o' : Obj}, lowHeap lo m l = some l' → get id l' = some o' → id < lo ∧ ∃ o, get id l = some o ∧ renObj lo m o = some o'
  | [], _, t, v', hr, hg => by
    simp [lowHeap] at hr; subst hr; simp [get] at hg
  | p :: r, l', t, v', hr, hg => by
    simp only [lowHeap] at hr
    cases hlt : Nat.blt p.1 lo with
    | true =>
      rw [hlt] at hr
      simp only [cond_true] at hr
      split at hr
      · rename_i x s h1 h2
        simp at hr; subst hr
        simp only [get] at hg ⊢
        cases hb : Nat.beq t p.1 with
        | true =>
          rw [hb] at hg
          simp at hg; subst hg
          obtain rfl := beq_true.1 hb
          exact ⟨blt_true.1 hlt, p.2, rfl, h1⟩
        | false =>
          rw [hb] at hg
          exact get_lowHeap h2 hg
      · simp at hr
    | false =>
      rw [hlt] at hr
      obtain ⟨h1, o, h2, h3⟩ := get_lowHeap (l := r) hr hg
      refine ⟨h1, o, ?_, h3⟩
      simp only [get]
      cases hb : Nat.beq t p.1 with
      | true =>
        obtain rfl := beq_true.1 hb
        rw [blt_true.2 h1] at hlt; cases hlt
      | false => exact h2
theorem get_renHeap : ∀ (l : Ren) {acc h' : Heap} {id' : Nat} {o' : Obj}, renHeap h lo m l acc = some h' → get id' h' = some o' → get id' acc = some o' ∨ ∃ p ∈ l, p.2 = id' ∧ ∃ o, get p.1 h = some o ∧ renObj lo m o = some o'
  | [], acc, h', id', o', hr, hg => by
    simp [renHeap] at hr; subst hr; exact .inl hg
  | p :: r, acc, h', id', o', hr, hg => by
    simp only [renHeap] at hr
    split at hr
    · rename_i o ho
      split at hr
      · rename_i o2 ho2
        rcases get_renHeap r hr hg with hh | ⟨q, hq, h1, h2⟩
        · by_cases he : id' = p.2
          · subst he
            rw [get_ins_same] at hh
            cases hh
            exact .inr ⟨p, by simp, rfl, o, ho, ho2⟩
          · rw [get_ins_other _ he] at hh
            exact .inl hh
        · exact .inr ⟨q, by simp [hq], h1, h2⟩
      · simp at hr
    · rcases get_renHeap r hr hg with hh | ⟨q, hq, h1, h2⟩
      · exact .inl hh
      · exact .inr ⟨q, by simp [hq], h1, h2⟩
theorem mem_lowIds {id : Nat} (hlt : id < lo) : ∀ {l : List Nat}, id ∈ l → id ∈ lowIds lo l
  | n :: r, hm => by
    unfold lowIds
    rcases List.mem_cons.1 hm with rfl | hm
    · rw [blt_true.2 hlt]; simp
    · cases hb : Nat.blt n lo with
      | true => exact List.mem_cons_of_mem _ (mem_lowIds hlt hm)
      | false => exact mem_lowIds hlt hm
theorem renFz_acc {fz : List Nat} : ∀ (l : Ren) (acc : List Nat) (x : Nat), x ∈ acc → x ∈ renFz fz l acc
  | [], _, _, hx => hx
  | p :: r, acc, x, hx => by
    unfold renFz
    refine renFz_acc r _ x ?_
    cases has p.1 fz with
    | true => exact List.mem_cons_of_mem _ hx
    | false => exact hx
theorem renFz_mem {fz : List Nat} : ∀ (l : Ren) (acc : List Nat) (p : Nat × Nat), p ∈ l → has p.1 fz = true → p.2 ∈ renFz fz l acc
  | q :: r, acc, p, hp, hf => by
    unfold renFz
    rcases List.mem_cons.1 hp with rfl | hp
    · rw [hf]; exact renFz_acc r _ _ (by simp)
    · exact renFz_mem r _ p hp hf
theorem canon_ok : CanonOk E := by
  intro n live c st a Rl st' hst
  unfold canon at hst
  simp only at hst
  split at hst
  case h_2 => simp at hst
  rename_i t' hl' ht' hlow
  split at hst
  case h_2 => simp at hst
  rename_i h' hh'
  simp only [Option.some.injEq] at hst
  subst hst
  have hg : GcOk st.lo (gcV st.h st.lo 4096 (List.map (·.2) (Vm.restrict live st.t) ++ lowCells st.lo st.h) ⟨[], st.lo⟩) := gcV_ok _ _ _ ⟨Nat.le_refl _, fun _ _ hh => by simp [get] at hh, fun _ _ _ hh => by simp [get] at hh, fun _ _ hh => by simp [get] at hh, fun _ hp => by simp at hp⟩
  revert ht' hlow hh' hg
  generalize gcV st.h st.lo 4096 (List.map (·.2) (Vm.restrict live st.t) ++ lowCells st.lo st.h) ⟨[], st.lo⟩ = g
  intro ht' hlow hh' hg
  have hμ : ∀ id id', renId st.lo g.m id = some id' → renM st.lo g.m c.μ id' = c.μ id := fun id id' hr => renM_ok hg hr
  have S : Seen (fun _ => True) c { c with μ := renM st.lo g.m c.μ } := fun t b o _ hi => by
    refine ⟨?_, rfl⟩
    cases t with
    | bor => exact hi
    | frz => exact hi
    | new => exact hi
  have src : ∀ id' o', get id' h' = some o' → ∃ id o, renId st.lo g.m id = some id' ∧ get id st.h = some o ∧ renObj st.lo g.m o = some o' := by
    intro id' o' hgt
    rcases get_renHeap g.m hh' hgt with hh | ⟨p, hp, rfl, o, h1, h2⟩
    · obtain ⟨h1, o, h2, h3⟩ := get_lowHeap hlow hh
      exact ⟨id', o, by unfold renId; rw [blt_true.2 h1]; rfl, h2, h3⟩
    · refine ⟨p.1, o, ?_, h1, h2⟩
      have h3 := hg.mem p hp
      have h4 := hg.hi _ _ h3
      unfold renId
      have : Nat.blt p.1 st.lo = false := by
        cases hb : Nat.blt p.1 st.lo with
        | false => rfl
        | true => have := blt_true.1 hb; omega
      rw [this]
      exact h3
  have fzOk : ∀ id id', renId st.lo g.m id = some id' → has id st.fz = true → has id' (renFz st.fz g.m (lowIds st.lo st.fz)) = true := by
    intro id id' hr hf
    unfold renId at hr
    cases hb : Nat.blt id st.lo with
    | true =>
      rw [hb] at hr
      simp at hr; subst hr
      exact has_mem.2 (renFz_acc _ _ _ (mem_lowIds (blt_true.1 hb) (has_mem.1 hf)))
    | false =>
      rw [hb] at hr
      exact has_mem.2 (renFz_mem g.m _ (id, id') (get_mem hr) hf)
  refine ⟨{ c with μ := renM st.lo g.m c.μ }, rfl, ⟨⟨rfl, rfl, Below.refl _ _, fun _ _ _ => rfl, fun _ _ h => h, fun _ _ h => .inl h, fun _ _ _ => rfl, fun id i hlt hi => ?_⟩, rfl, ⟨?_, ⟨?_, ?_, Rl.hp.ib⟩, fun id hid => ?_, hg.le, Rl.defers, Rl.size, Rl.base⟩⟩⟩
  · show renM st.lo g.m c.μ id = some i
    unfold renM
    rw [if_pos hlt]; exact hi
  · intro t v' hv'
    obtain ⟨v, h1, h2⟩ := get_renT ht' hv'
    obtain ⟨x, hx, hxv⟩ := Rl.tm t v (get_restrict h1).2
    exact ⟨x, hx, VR.ren S hμ h2 hxv⟩
  · intro id' o' i hgt hi
    obtain ⟨id, o, h1, h2, h3⟩ := src id' o' hgt
    have hi' : c.μ id = some i := by rw [← hμ id id' h1]; exact hi
    have hO := Rl.hp.hp id o i h2 hi'
    have hO' := OR.ren (c' := { c with μ := renM st.lo g.m c.μ }) S hμ rfl rfl (fun _ h => h) h3 hO
    cases hf : has id st.fz with
    | false => rw [hf] at hO'; exact hO'.weaken
    | true => rw [hf] at hO'; rw [fzOk id id' h1 hf]; exact hO'
  · intro id1 id2 o1 o2 i1 i2 g1 g2 m1 m2 hne hon1 hon2
    obtain ⟨j1, p1, a1, a2, _⟩ := src id1 o1 g1
    obtain ⟨j2, p2, b1, b2, _⟩ := src id2 o2 g2
    have hj : j1 ≠ j2 := fun e => by
      subst e
      rw [a1] at b1
      exact hne (Option.some.inj b1)
    exact Rl.hp.sep j1 j2 p1 p2 i1 i2 a2 b2 (by rw [← hμ j1 id1 a1]; exact m1) (by rw [← hμ j2 id2 b1]; exact m2) hj hon1 hon2
  · show renM st.lo g.m c.μ id = none
    have hid' : g.nx ≤ id := hid
    have hle := hg.le
    unfold renM
    rw [if_neg (by omega), dif_neg]
    rintro ⟨j, hj⟩
    have := (hg.ge j id hj).2
    omega
end
end Go.Vm
end
section
namespace Go.Vm
open Go.RowKit
section
variable {P : Program} {E : Env} {ty : Tys} {c : Ctx} {n : Nat} {h : Heap} {fz : List Nat}
theorem region_plain (hT : TyOk P E.ty) (hW : WriteOk P E.ty) {C : Calls} (hC : CallsOk P E C) {id : Nat} {ops : Array Oper} (hd : ∀ o ∈ ops.toList, ∀ d, o.dst = some d → d < n) : RegionOk P E C n id ops false :=
  fun _ c st a _ _ _ Rl h hn => wp_region (ops_sound hT hW hC _ _ c st a (range_idx ops) hd Rl h hn)
def mapCtx (c : Ctx) (b : Nat) (es : Array MapEntry) (cl : Nat) : Ctx := { c with w := { c.w with heap := c.w.heap.setIfInBounds b (.map es cl) } }
theorem map_same {b : Nat} {es es' : Array MapEntry} {cl cl' : Nat} (hb : c.w.heap[b]? = some (.map es cl)) : (mapCtx c b es' cl').w.heap[b]? = some (.map es' cl') := by
  have hlt : b < c.w.heap.size := (Array.getElem?_eq_some_iff.1 hb).1
  show (c.w.heap.setIfInBounds b _)[b]? = _
  simp [hlt]
theorem map_other {b k : Nat} {es' : Array MapEntry} {cl' : Nat} (hk : k ≠ b) : (mapCtx c b es' cl').w.heap[k]? = c.w.heap[k]? := by
  show (c.w.heap.setIfInBounds b _)[k]? = _
  rw [Array.getElem?_setIfInBounds_ne (Ne.symm hk)]
theorem map_cell {b : Nat} {es es' : Array MapEntry} {cl cl' : Nat} (hb : c.w.heap[b]? = some (.map es cl)) (k o : Nat) : (mapCtx c b es' cl').w.cell? ⟨k, o, none⟩ = c.w.cell? ⟨k, o, none⟩ := by
  by_cases hk : k = b
  · subst hk
    unfold World.cell?
    simp only [map_same (es' := es') (cl' := cl') hb, hb]
  · exact cell_of_heap (map_other hk) o
theorem map_ext {b : Nat} {es es' : Array MapEntry} {cl cl' : Nat} (hb : c.w.heap[b]? = some (.map es cl)) (hbase : Mine c b) : Ext c (mapCtx c b es' cl') where
  base := rfl
  fr := rfl
  below := ⟨rfl, rfl, rfl, by show _ ≤ (c.w.heap.setIfInBounds b _).size; simp, fun k hk => map_other (by have := hbase.1; omega)⟩
  keeps := fun k _ hF => map_other fun e => hbase.2 (e ▸ hF)
  hI := fun _ _ h => h
  hnew := fun _ _ h => .inl h
  hcell := fun k o _ => map_cell hb k o
  hμ := fun _ _ h => h
theorem heap_map {id : Nat} {i : Info} {kt et : TypeId} {l l' : List (V × V × Nat)} {es es' : Array MapEntry} {cl cl' : Nat} (H : HeapOk ty c h fz) (hg : get id h = some (.map kt et l cl)) (hi : c.μ id = some i) (hon : i.on = true) (hbase : Mine c i.b)
    (hb : c.w.heap[i.b]? = some (.map es cl)) (hM : MapOk ty (mapCtx c i.b es' cl') kt et l' cl' es'.toList) : HeapOk ty (mapCtx c i.b es' cl') (ins id (.map kt et l' cl') h) fz where
  hp := fun id' o' i' hg' hi' => by
    have hext := map_ext (es' := es') (cl' := cl') hb hbase
    by_cases hid : id' = id
    · subst hid
      rw [get_ins_same] at hg'; cases hg'
      have h2 : c.μ id' = some i' := hi'
      rw [hi] at h2; cases h2
      exact ⟨hon, hbase, es', map_same hb, hM⟩
    · rw [get_ins_other _ hid] at hg'
      refine (H.hp id' o' i' hg' hi').keep hext (fun hon' => ?_) (fun hh => hh) (fun _ _ hI => .inl hI)
      exact map_other (H.sep id' id o' _ i' i hg' hg hi' hi hid hon' hon)
  sep := fun id1 id2 o1 o2 i1 i2 h1 h2 m1 m2 hne a b => by
    have e : ∀ k o, get k (ins id (.map kt et l' cl') h) = some o → ∃ o', get k h = some o' := by
      intro k o hk
      by_cases hkid : k = id
      · exact ⟨_, hkid ▸ hg⟩
      · rw [get_ins_other _ hkid] at hk; exact ⟨o, hk⟩
    obtain ⟨o1', g1⟩ := e _ _ h1
    obtain ⟨o2', g2⟩ := e _ _ h2
    exact H.sep id1 id2 o1' o2' i1 i2 g1 g2 m1 m2 hne a b
  ib := fun b o hI => by
    have := H.ib b o hI
    show b < (c.w.heap.setIfInBounds _ _).size
    simpa using this
end
end Go.Vm
end
section
namespace Go.Vm
open Go.RowKit
section
variable {P : Program} {E : Env} {ty : Tys} {c : Ctx} {n : Nat} {h : Heap} {fz : List Nat}
theorem mstamp_at (n : Int) (y : V) : ∀ l : List (V × V × Nat), mstamped n l = true → ∃ j, ∃ (hj : j < l.length), mstamp n y l = l.set j (l[j].1, y, l[j].2.2) ∧ (l[j].2.2 : Int) = n ∧ ∀ t (ht : t < j), ((l[t]'(by omega)).2.2 : Int) ≠ n
  | [], hs => by simp [mstamped] at hs
  | e :: r, hs => by
    simp only [mstamp]
    cases he : eqI (e.2.2 : Int) n with
    | true =>
      refine ⟨0, by simp, by simp, ?_, fun t ht => absurd ht (by omega)⟩
      simpa [eqI] using he
    | false =>
      simp only [mstamped, he, Bool.false_or] at hs
      obtain ⟨j, hj, h1, h2, h3⟩ := mstamp_at n y r hs
      refine ⟨j + 1, by simpa using hj, by simp [h1], by simpa using h2, fun t ht => ?_⟩
      cases t with
      | zero => simpa [eqI] using he
      | succ t => simpa using h3 t (by omega)
theorem MapOk.set {kt et : TypeId} {l : List (V × V × Nat)} {cl : Nat} {es : List MapEntry} {c' : Ctx} {j : Nat} (hj : j < l.length) {y : V} {vv k' : Value} {ei : TyI} (hM : MapOk ty c kt et l cl es) (hei : tyAt ty et = some ei) (hy : okV ty .frz ei y = true)
    (S : ∀ v x, VR ty c v x → VR ty c' v x) (hv : VR ty c' y vv) {kk : V} (hkk : ∀ ki, tyAt ty kt = some ki → okV ty .frz ki kk = true) (hk : VR ty c' kk k') : MapOk ty c' kt et (l.set j (kk, y, l[j].2.2)) cl (es.modify j fun e => { e with key := k', val := vv }) where
  kt := by
    obtain ⟨ki, k1, k2, k3⟩ := hM.kt
    refine ⟨ki, k1, k2, fun e he => ?_⟩
    rcases List.mem_or_eq_of_mem_set he with he | rfl
    · exact k3 e he
    · exact hkk ki k1
  et := by
    obtain ⟨ei', e1, e2⟩ := hM.et
    rw [hei] at e1; cases e1
    refine ⟨ei, hei, fun e he => ?_⟩
    rcases List.mem_or_eq_of_mem_set he with he | rfl
    · exact e2 e he
    · exact hy
  len := by simp [hM.len]
  at_ := fun t ht ht' => by
    have ht1 : t < l.length := by simpa using ht
    have ht2 : t < es.length := by rw [hM.len]; exact ht1
    obtain ⟨a1, a2, a3⟩ := hM.at_ t ht1 ht2
    by_cases hjt : j = t
    · subst hjt
      simp only [List.getElem_set_self, List.getElem_modify, if_true]
      exact ⟨hk, hv, a3⟩
    · simp only [List.getElem_set_ne hjt, List.getElem_modify, if_neg hjt]
      exact ⟨S _ _ a1, S _ _ a2, a3⟩
  lt := fun e he => by
    rcases List.mem_or_eq_of_mem_set he with he | rfl
    · exact hM.lt e he
    · exact hM.lt l[j] (List.getElem_mem hj)
  up := by
    rw [List.pairwise_iff_getElem]
    intro a b ha hb hlt
    have h1 := List.pairwise_iff_getElem.1 hM.up a b (by simpa using ha) (by simpa using hb) hlt
    have e : ∀ t (ht : t < (l.set j (kk, y, l[j].2.2)).length), ((l.set j (kk, y, l[j].2.2))[t]).2.2 = (l[t]'(by simpa using ht)).2.2 := by
      intro t ht
      by_cases hjt : j = t
      · subst hjt; simp
      · simp [List.getElem_set_ne hjt]
    rw [e a ha, e b hb]
    exact h1
theorem stamp_sound {st : St} (H : HeapOk ty c st.h st.fz) (hf : ∀ id, st.nx ≤ id → c.μ id = none) {t : TypeId} {m s v : V} {vm vs vv : Value} {b : Bk} (hr : mapStamp ty st m s v = some b) (hok : b.ok = true)
    (hm : VR ty c m vm) (hs : VR ty c s vs) (hv : VR ty c v vv) : ∃ c', (Instr.entryStore t vm vs vv).run P c.w = .ok () c'.w ∧ BkOk ty c c' st b.st := by
  unfold mapStamp at hr
  split at hr
  case h_2 => simp at hr
  rename_i id k0 nn
  split at hr
  case h_2 => simp at hr
  rename_i kt et l cl hg
  split at hr
  case h_2 => simp at hr
  rename_i ei y g hei hfx
  cases hoy : okV ty .frz ei y with
  | false => rw [hoy] at hr; simp at hr
  | true =>
    rw [hoy] at hr
    simp at hr; subst hr
    simp only [VR] at hm hs
    subst hs
    obtain ⟨i, hi, hon, rfl⟩ := hm
    have hF := fixV_FzOk hfx
    have H1 := heap_frz H hF
    have hext1 := frz_ext H hF
    have hv1 := fixV_ok H hF hfx (fun _ h => h) hv
    obtain ⟨_, hbase, es, hes, hM⟩ := H1.hp id _ i hg hi
    obtain ⟨j, hj, h1, h2, h3⟩ := mstamp_at nn y l hok
    have hje : j < es.size := by have := hM.len; simp at this; omega
    have hfind : es.findIdx? (fun e => (e.born : Int) == nn) = some j := by
      rw [Array.findIdx?_eq_some_iff_getElem]
      refine ⟨hje, ?_, fun t ht => ?_⟩
      · have := (hM.at_ j hj (by simpa using hje)).2.2
        simp at this
        simp [this, h2]
      · have := (hM.at_ t (by omega) (by simp; omega)).2.2
        simp at this
        simp [this, h3 t ht]
    have hes1 : (frzCtx c g).w.heap[i.b]? = some (.map es cl) := hes
    have hext2 := map_ext (es' := es.modify j fun e => { e with val := vv }) (cl' := cl) hes1 hbase
    refine ⟨mapCtx (frzCtx c g) i.b (es.modify j fun e => { e with val := vv }) cl, ?_, hext1.trans hext2, ?_, hf, Nat.le_refl _, rfl, rfl⟩
    · unfold Instr.entryStore
      show ((getObj i.b) >>= _ : Sem Unit).run P c.w = _
      rw [run_bind (show (getObj i.b).run P c.w = .ok (.map es cl) c.w from by simp [getObj, Sem.run, show c.w.heap[i.b]? = some (.map es cl) from hes])]
      show ((asInt (.int k0 nn)) >>= _ : Sem Unit).run P c.w = _
      rw [run_bind (show (asInt (.int k0 nn)).run P c.w = .ok nn c.w from rfl)]
      simp only [hfind]
      simp [setObj, Sem.run, show c.w.heap[i.b]? = some (.map es cl) from hes, mapCtx, frzCtx]
    · refine heap_map H1 hg hi hon hbase hes1 ?_
      rw [h1]
      have hjl : j < es.toList.length := by simpa using hje
      have hkey := (hM.at_ j hj hjl).1
      have := MapOk.set (c' := mapCtx (frzCtx c g) i.b (es.modify j fun e => { e with val := vv }) cl) hj (k' := es.toList[j].key) hM hei hoy (fun _ _ hx => hx.mono hext2) (hv1.mono hext2) (kk := l[j].1) (fun ki hki => by
        obtain ⟨ki', q1, _, q3⟩ := hM.kt
        rw [hki] at q1; cases q1
        exact q3 l[j] (List.getElem_mem hj)) (hkey.mono hext2)
      have e : (es.modify j fun e => { e with val := vv }).toList = es.toList.modify j fun e => { e with key := es.toList[j].key, val := vv } := by
        apply List.ext_getElem
        · simp
        · intro a ha hb
          simp only [Array.toList_modify, List.getElem_modify]
          by_cases hja : j = a
          · subst hja; simp
          · simp [hja]
      rw [e]
      exact this
end
end Go.Vm
end
section
namespace Go.Vm
open Go.RowKit
section
variable {P : Program} {E : Env} {ty : Tys} {c : Ctx} {n : Nat} {h : Heap} {fz : List Nat}
theorem keyEqL_same {m : Nat} : ∀ {a b : List V} {xs ys : List Value}, keyEqL a b = true → CR ty c a xs → CR ty c b ys → xs = ys ∧ ((xs.zip xs).all fun (x, y) => Instr.sameBits m x y) = true
  | [], [], _, _, _, ha, hb => by simp only [CR] at ha hb; subst ha; subst hb; simp
  | [], _ :: _, _, _, hk, _, _ => by simp [keyEqL] at hk
  | _ :: _, [], _, _, hk, _, _ => by unfold keyEqL at hk; split at hk <;> simp_all
  | u :: r, v :: s, _, _, hk, ha, hb => by
    simp only [CR] at ha hb
    obtain ⟨y, ys, rfl, hu, _, hr⟩ := ha
    obtain ⟨z, zs, rfl, hv, _, hs⟩ := hb
    unfold keyEqL at hk
    split at hk
    · simp_all
    · rename_i k p r' k' q s' e1 e2
      cases e1; cases e2
      simp only [Bool.and_eq_true] at hk
      obtain rfl := same_eq hk.1.1
      have hpq : p = q := by simpa [eqI] using hk.1.2
      subst hpq
      obtain ⟨h1, h2⟩ := keyEqL_same (m := m) hk.2 hr hs
      simp only [VR] at hu hv
      subst hu; subst hv; subst h1
      refine ⟨rfl, ?_⟩
      simp only [List.zip_cons_cons, List.all_cons, h2, Bool.and_true]
      simp [Instr.sameBits]
    · rename_i p r' q s' e1 e2
      cases e1; cases e2
      simp only [Bool.and_eq_true] at hk
      have hpq : p = q := by simpa [eqB] using hk.1
      subst hpq
      obtain ⟨h1, h2⟩ := keyEqL_same (m := m) hk.2 hr hs
      simp only [VR] at hu hv
      subst hu; subst hv; subst h1
      refine ⟨rfl, ?_⟩
      simp only [List.zip_cons_cons, List.all_cons, h2, Bool.and_true]
      simp [Instr.sameBits]
    · simp at hk
theorem keyEq_same {a b : V} {x y : Value} (hns : ∀ s, a ≠ .str s) (hk : keyEq a b = true) (ha : VR ty c a x) (hb : VR ty c b y) : x = y ∧ Instr.sameBits 10000 y x = true := by
  unfold keyEq at hk
  split at hk
  · rename_i k p k' q
    simp only [Bool.and_eq_true] at hk
    obtain rfl := same_eq hk.1
    have hpq : p = q := by simpa [eqI] using hk.2
    subst hpq
    simp only [VR] at ha hb
    subst ha; subst hb
    exact ⟨rfl, by simp [Instr.sameBits]⟩
  · rename_i p q
    have hpq : p = q := by simpa [eqB] using hk
    subst hpq
    simp only [VR] at ha hb
    subst ha; subst hb
    exact ⟨rfl, by simp [Instr.sameBits]⟩
  · exact absurd rfl (hns _)
  · rename_i p q
    simp only [VR] at ha hb
    obtain ⟨xs, rfl, hx⟩ := ha
    obtain ⟨ys, rfl, hy⟩ := hb
    obtain ⟨h1, h2⟩ := keyEqL_same (m := 9999) hk hx hy
    have e : xs = ys := by apply Array.ext'; exact h1
    subst e
    refine ⟨rfl, ?_⟩
    show Instr.sameBits (9999 + 1) (.agg xs) (.agg xs) = true
    simp only [Instr.sameBits, beq_self_eq_true, Bool.true_and]
    exact h2
  · simp at hk
theorem key_not_str (hT : TyOk P ty) {t : TypeId} {i : TyI} {kv : V} (ht : tyAt ty t = some i) (hk : keyTy i = true) (hok : okV ty .frz i kv = true) : ∀ s, kv ≠ .str s := by
  intro s e
  subst e
  rcases okV_cases hok with ⟨_, l, e, _⟩ | ⟨hag, _, hl⟩
  · cases e
  · rcases key_plain hT ht hk with ⟨_, lf, hlf, hp⟩ | ⟨hag', _⟩
    · rw [hlf] at hl
      cases lf <;> simp [leavesOk, leafOk, slOk] at hl
      exact hp
    · rw [hag] at hag'; cases hag'
theorem mset_none {k v : V} {cl : Nat} : ∀ {l : List (V × V × Nat)}, mget k l = none → mset k v cl l = l ++ [(k, v, cl)]
  | [], _ => rfl
  | e :: r, hg => by
    simp only [mget] at hg
    cases hk : keyEq k e.1 with
    | true => rw [hk] at hg; simp at hg
    | false =>
      rw [hk] at hg
      simp only [mset, hk, cond_false, List.cons_append]
      rw [mset_none hg]
theorem mset_some {k v : V} {cl : Nat} : ∀ {l : List (V × V × Nat)} (j : Nat) (hj : j < l.length), keyEq k l[j].1 = true → (∀ t (ht : t < j), keyEq k (l[t]'(by omega)).1 = false) → mset k v cl l = l.set j (k, v, l[j].2.2)
  | [], j, hj, _, _ => absurd hj (by simp)
  | e :: r, 0, _, hk, _ => by
    simp only [List.getElem_cons_zero] at hk
    simp [mset, hk]
  | e :: r, j + 1, hj, hk, hlt => by
    have h0 := hlt 0 (by omega)
    simp only [List.getElem_cons_zero] at h0
    simp only [mset, h0, cond_false]
    rw [mset_some (l := r) j (by simpa using hj) (by simpa using hk) fun t ht => by simpa using hlt (t + 1) (by omega)]
    simp
theorem MapOk.push {kt et : TypeId} {l : List (V × V × Nat)} {cl : Nat} {es : List MapEntry} {c' : Ctx} {k y : V} {vk vv : Value} {ki ei : TyI} (hM : MapOk ty c kt et l cl es) (hki : tyAt ty kt = some ki) (hei : tyAt ty et = some ei) (hok : okV ty .frz ki k = true) (hy : okV ty .frz ei y = true)
    (S : ∀ v x, VR ty c v x → VR ty c' v x) (hv : VR ty c' y vv) (hk : VR ty c' k vk) : MapOk ty c' kt et (l ++ [(k, y, cl)]) (cl + 1) (es ++ [{ key := vk, val := vv, born := cl }]) where
  kt := by
    obtain ⟨ki', k1, k2, k3⟩ := hM.kt
    rw [hki] at k1; cases k1
    refine ⟨ki, hki, k2, fun e he => ?_⟩
    rcases List.mem_append.1 he with he | he
    · exact k3 e he
    · simp at he; subst he; exact hok
  et := by
    obtain ⟨ei', e1, e2⟩ := hM.et
    rw [hei] at e1; cases e1
    refine ⟨ei, hei, fun e he => ?_⟩
    rcases List.mem_append.1 he with he | he
    · exact e2 e he
    · simp at he; subst he; exact hy
  len := by simp [hM.len]
  at_ := fun t ht ht' => by
    have hlen := hM.len
    by_cases hlt : t < l.length
    · obtain ⟨a1, a2, a3⟩ := hM.at_ t hlt (by omega)
      simp only [List.getElem_append_left hlt, List.getElem_append_left (show t < es.length by omega)]
      exact ⟨S _ _ a1, S _ _ a2, a3⟩
    · have e1 : t = l.length := by simp at ht; omega
      subst e1
      simp only [List.getElem_append_right (Nat.le_refl _), List.getElem_append_right (show es.length ≤ l.length by omega)]
      simp [hlen]
      exact ⟨hk, hv⟩
  lt := fun e he => by
    rcases List.mem_append.1 he with he | he
    · exact Nat.lt_succ_of_lt (hM.lt e he)
    · simp at he; subst he; exact Nat.lt_succ_self _
  up := by
    rw [List.pairwise_append]
    refine ⟨hM.up, by simp, fun a ha b hb => ?_⟩
    simp at hb; subst hb
    exact hM.lt a ha
end
end Go.Vm
end
section
namespace Go.Vm
open Go.RowKit
section
variable {P : Program} {ty : Tys} {c : Ctx}
theorem put_sound (hT : TyOk P ty) {st : St} (H : HeapOk ty c st.h st.fz) (hf : ∀ id, st.nx ≤ id → c.μ id = none) {t : TypeId} {m k v : V} {vm vk vv : Value} {b : Bk} (hr : mapPut ty st t m k v = some b)
    (hm : VR ty c m vm) (hk : VR ty c k vk) (hv : VR ty c v vv) : ∃ c', (Instr.mapUpdate t vm vk vv).run P c.w = .ok () c'.w ∧ BkOk ty c c' st b.st := by
  unfold mapPut at hr
  split at hr
  case h_2 => simp at hr
  rename_i id
  split at hr
  case h_2 => simp at hr
  rename_i kt et l cl hg
  split at hr
  case h_2 => simp at hr
  rename_i ki ei y g hki hei hfx
  cases hall : okV ty .frz ki k && keyTy ki && okV ty .frz ei y && mapIs ty t kt et with
  | false => rw [hall] at hr; simp at hr
  | true =>
    rw [hall] at hr
    simp at hr; subst hr
    simp only [Bool.and_eq_true] at hall
    obtain ⟨⟨⟨hok, hkt⟩, hoy⟩, hmi⟩ := hall
    simp only [VR] at hm
    obtain ⟨i, hi, hon, rfl⟩ := hm
    have hu := mapTy_und hT hmi
    have hF := fixV_FzOk hfx
    have H1 := heap_frz H hF
    have hext1 := frz_ext H hF
    have hv1 := fixV_ok H hF hfx (fun _ h => h) hv
    have hk1 := hk.mono hext1
    obtain ⟨_, hbase, es, hes, hM⟩ := H1.hp id _ i hg hi
    obtain ⟨ki', q1, _, hoks⟩ := hM.kt
    rw [hki] at q1; cases q1
    have hes1 : (frzCtx c g).w.heap[i.b]? = some (.map es cl) := hes
    have hes0 : c.w.heap[i.b]? = some (.map es cl) := hes
    have hfind := findKey_ok (P := P) hT hki hkt hok hk1 hM.len hoks fun j h h' => (hM.at_ j h h').1
    have hchk := checkKey_ok (P := P) (e := false) hT hki hkt hok hk1
    have hw : (frzCtx c g).w = c.w := rfl
    rw [hw] at hfind hchk
    have pre : ∀ (w' : World), ((do
        match ← (pure (ffind k l es.toList 0) : Sem (Option (Nat × Value))) with
        | some (i0, _) => do
          let key ← Instr.keyThatStays (((es[i0]?).map (·.key)).getD vk) vk
          setObj i.b (.map (es.modify i0 fun e => { e with key, val := vv }) cl)
        | none => setObj i.b (.map (es.push { key := vk, val := vv, born := cl }) (cl + 1))) : Sem Unit).run P c.w = .ok () w' → (Instr.mapUpdate t (.map (some i.b)) vk vv).run P c.w = .ok () w' := by
      intro w' hrun
      unfold Instr.mapUpdate
      rw [run_bind (run_underlying hu)]
      show ((getObj i.b) >>= _ : Sem Unit).run P c.w = _
      rw [run_bind (show (getObj i.b).run P c.w = .ok (.map es cl) c.w from by simp [getObj, Sem.run, hes0])]
      refine (run_bind (a := ()) (w1 := c.w) hchk).trans ?_
      refine (run_bind (a := ffind k l es.toList 0) (w1 := c.w) hfind).trans ?_
      exact hrun
    have hset : ∀ o, (setObj i.b o).run P c.w = .ok () { c.w with heap := c.w.heap.setIfInBounds i.b o } := fun o => by simp [setObj, Sem.run, hes0]
    rcases ffind_spec k l es.toList 0 hM.len with ⟨h1, h2⟩ | ⟨j, hj, hj', h1, h2, h3, h4⟩
    · have hext2 := map_ext (es' := es.push { key := vk, val := vv, born := cl }) (cl' := cl + 1) hes1 hbase
      refine ⟨mapCtx (frzCtx c g) i.b (es.push { key := vk, val := vv, born := cl }) (cl + 1), pre _ ?_, hext1.trans hext2, ?_, hf, Nat.le_refl _, rfl, rfl⟩
      · rw [h1]
        exact hset _
      · have e1 : mclock k cl l = cl + 1 := by unfold mclock mhas; rw [h2]; rfl
        rw [mset_none h2, e1]
        refine heap_map H1 hg hi hon hbase hes1 ?_
        rw [Array.toList_push]
        exact hM.push hki hei hok hoy (fun _ _ hx => hx.mono hext2) (hv1.mono hext2) (hk1.mono hext2)
    · have hext2 := map_ext (es' := es.modify j fun e => { e with key := vk, val := vv }) (cl' := cl) hes1 hbase
      have hje : j < es.size := by simpa using hj'
      have hkj := (hM.at_ j hj hj').1
      obtain ⟨_, hsb⟩ := keyEq_same (key_not_str hT hki hkt hok) h3 hk1 hkj
      have hold : ((es[j]?).map (·.key)).getD vk = es.toList[j].key := by simp [hje]
      refine ⟨mapCtx (frzCtx c g) i.b (es.modify j fun e => { e with key := vk, val := vv }) cl, pre _ ?_, hext1.trans hext2, ?_, hf, Nat.le_refl _, rfl, rfl⟩
      · rw [h1]
        show ((Instr.keyThatStays (((es[0 + j]?).map (·.key)).getD vk) vk) >>= _ : Sem Unit).run P c.w = _
        rw [Nat.zero_add, hold]
        refine (run_bind (a := vk) (w1 := c.w) ?_).trans (hset _)
        unfold Instr.keyThatStays
        rw [hsb]; rfl
      · have e1 : mclock k cl l = cl := by unfold mclock mhas; rw [h2]; rfl
        rw [mset_some j hj h3 h4, e1]
        refine heap_map H1 hg hi hon hbase hes1 ?_
        rw [Array.toList_modify]
        exact MapOk.set hj hM hei hoy (fun _ _ hx => hx.mono hext2) (hv1.mono hext2) (fun ki' hki' => by rw [hki] at hki'; cases hki'; exact hok) (hk1.mono hext2)
end
end Go.Vm
end
section
namespace Go.Vm
open Go.RowKit
section
variable {P : Program} {ty : Tys} {c : Ctx}
theorem mborn_none {k : V} {cl : Nat} : ∀ {l : List (V × V × Nat)}, mget k l = none → mborn k cl l = cl
  | [], _ => rfl
  | e :: r, hg => by
    simp only [mget] at hg
    cases hk : keyEq k e.1 with
    | true => rw [hk] at hg; simp at hg
    | false =>
      rw [hk] at hg
      simp only [mborn, hk, cond_false]
      exact mborn_none hg
theorem mborn_some {k : V} {cl : Nat} : ∀ {l : List (V × V × Nat)} (j : Nat) (hj : j < l.length), keyEq k l[j].1 = true → (∀ t (ht : t < j), keyEq k (l[t]'(by omega)).1 = false) → mborn k cl l = l[j].2.2
  | [], j, hj, _, _ => absurd hj (by simp)
  | e :: r, 0, _, hk, _ => by
    simp only [List.getElem_cons_zero] at hk
    simp [mborn, hk]
  | e :: r, j + 1, hj, hk, hlt => by
    have h0 := hlt 0 (by omega)
    simp only [List.getElem_cons_zero] at h0
    simp only [mborn, h0, cond_false]
    rw [mborn_some (l := r) j (by simpa using hj) (by simpa using hk) fun t ht => by simpa using hlt (t + 1) (by omega)]
    simp
theorem zero_VR (hT : TyOk P ty) {et : TypeId} {ei : TyI} (hei : tyAt ty et = some ei) (hn : ei.leaves ≠ []) {z : List V} (hz : zeroFixed ty ei.leaves = some z) :
    ∃ inf zz, P.info? et = some inf ∧ inf.zero = some zz ∧ (∀ c : Ctx, VR ty c (pack ei.agg z) zz) ∧ okV ty .frz ei (pack ei.agg z) = true := by
  obtain ⟨inf, hinf, hsz, _, zz, hzz, hzc⟩ := hT.info et ei hei hn
  obtain ⟨y, hy, hvr, hokz⟩ := pack_zero hT hei hn hz hzc
  refine ⟨inf, zz, hinf, hzz, fun c => ?_, hokz⟩
  have : y = zz := by
    obtain ⟨f', z', hf', hz', h1', h2'⟩ := hT.zero et ei hei hn
    rw [hinf] at hf'; cases hf'
    rw [hzz] at hz'; cases hz'
    rcases okV_cases hokz with ⟨hag, l0, hl0, _⟩ | ⟨hag, hne, _⟩
    · obtain ⟨a, rfl⟩ := h1' hag
      have := hvr c
      rw [hl0] at this
      simp only [VR] at this
      obtain ⟨xs, rfl, _⟩ := this
      simp only [Value.cells] at hy
      rw [hy]
    · have hz1 := h2' hag
      have hyc : y.cells = #[zz] := by rw [hy, hz1]
      cases y <;> first | (simp [Value.cells] at hyc; exact hyc) | skip
      rename_i cs
      obtain ⟨l0, hl0⟩ := vr_agg (hvr c)
      exact absurd hl0 (hne l0)
  rw [← this]
  exact hvr c
end
end Go.Vm
end
section
namespace Go.Vm
open Go.RowKit
section
variable {P : Program} {ty : Tys} {c : Ctx}
theorem enter_sound (hT : TyOk P ty) {st : St} (H : HeapOk ty c st.h st.fz) (hf : ∀ id, st.nx ≤ id → c.μ id = none) {t : TypeId} {m k : V} {vm vk : Value} {b : Bk} (hr : mapEnter ty st t m k = some b)
    (hm : VR ty c m vm) (hk : VR ty c k vk) : ∃ c' y, (Instr.mapEntry t vm vk).run P c.w = .ok y c'.w ∧ BkOk ty c c' st b.st ∧ VR ty c' b.v y := by
  unfold mapEnter at hr
  split at hr
  case h_2 => simp at hr
  rename_i id
  split at hr
  case h_2 => simp at hr
  rename_i kt et l cl hg
  split at hr
  case h_2 => simp at hr
  rename_i ki ei hki hei
  split at hr
  case h_2 => simp at hr
  rename_i z hz
  cases hall : okV ty .frz ki k && keyTy ki && mapIs ty t kt et && Nat.blt 0 ei.leaves.length with
  | false => rw [hall] at hr; simp at hr
  | true =>
    rw [hall] at hr
    simp at hr; subst hr
    simp only [Bool.and_eq_true] at hall
    obtain ⟨⟨⟨hok, hkt⟩, hmi⟩, hpos⟩ := hall
    have hn : ei.leaves ≠ [] := by intro e; rw [e] at hpos; simp at hpos
    simp only [VR] at hm
    obtain ⟨i, hi, hon, rfl⟩ := hm
    have hu := mapTy_und hT hmi
    obtain ⟨_, hbase, es, hes, hM⟩ := H.hp id _ i hg hi
    obtain ⟨ki', q1, _, hoks⟩ := hM.kt
    rw [hki] at q1; cases q1
    obtain ⟨ei', q2, hoke⟩ := hM.et
    rw [hei] at q2; cases q2
    obtain ⟨inf, zz, hinf, hzz, hzv, hzok⟩ := zero_VR hT hei hn hz
    have hfind := findKey_ok (P := P) hT hki hkt hok hk hM.len hoks fun j h h' => (hM.at_ j h h').1
    have hchk := checkKey_ok (P := P) (e := false) hT hki hkt hok hk
    have pre : ∀ (y : Value) (w' : World), ((do
        match ← (pure (ffind k l es.toList 0) : Sem (Option (Nat × Value))) with
        | some (i0, v) => do
          let key ← Instr.keyThatStays (((es[i0]?).map (·.key)).getD vk) vk
          setObj i.b (.map (es.modify i0 fun e => { e with key }) cl)
          pure (.tuple #[v, goInt (((es[i0]?).map (·.born)).getD 0)])
        | none => do
          let zero ← zeroValue et
          setObj i.b (.map (es.push { key := vk, val := zero, born := cl }) (cl + 1))
          pure (.tuple #[zero, goInt cl])) : Sem Value).run P c.w = .ok y w' → (Instr.mapEntry t (.map (some i.b)) vk).run P c.w = .ok y w' := by
      intro y w' hrun
      unfold Instr.mapEntry
      rw [run_bind (run_underlying hu)]
      show ((getObj i.b) >>= _ : Sem Value).run P c.w = _
      rw [run_bind (show (getObj i.b).run P c.w = .ok (.map es cl) c.w from by simp [getObj, Sem.run, hes])]
      refine (run_bind (a := ()) (w1 := c.w) hchk).trans ?_
      refine (run_bind (a := ffind k l es.toList 0) (w1 := c.w) hfind).trans ?_
      exact hrun
    have hset : ∀ o, (setObj i.b o).run P c.w = .ok () { c.w with heap := c.w.heap.setIfInBounds i.b o } := fun o => by simp [setObj, Sem.run, hes]
    rcases ffind_spec k l es.toList 0 hM.len with ⟨h1, h2⟩ | ⟨j, hj, hj', h1, h2, h3, h4⟩
    · have hext2 := map_ext (es' := es.push { key := vk, val := zz, born := cl }) (cl' := cl + 1) hes hbase
      have e0 : mgetD k l (pack ei.agg z) = pack ei.agg z := by unfold mgetD; rw [h2]; rfl
      have e1 : mclock k cl l = cl + 1 := by unfold mclock mhas; rw [h2]; rfl
      refine ⟨mapCtx c i.b (es.push { key := vk, val := zz, born := cl }) (cl + 1), .tuple #[zz, goInt cl], pre _ _ ?_, ⟨hext2, ?_, hf, Nat.le_refl _, rfl, rfl⟩, ?_⟩
      · rw [h1]
        show ((zeroValue et) >>= _ : Sem Value).run P c.w = _
        rw [run_bind (run_zeroValue hinf hzz)]
        refine (run_bind (hset _)).trans ?_
        rfl
      · show HeapOk ty _ (ins id (.map kt et (mset k (mgetD k l (pack ei.agg z)) cl l) (mclock k cl l)) st.h) st.fz
        rw [e0, mset_none h2, e1]
        refine heap_map H hg hi hon hbase hes ?_
        rw [Array.toList_push]
        exact hM.push hki hei hok hzok (fun _ _ hx => hx.mono hext2) (hzv _) (hk.mono hext2)
      · simp only [e0, okV_pack hzok, mborn_none h2, VR]
        refine ⟨_, rfl, ?_⟩
        simp only [LR, VR]
        exact ⟨zz, _, rfl, hzv _, _, _, rfl, rfl, rfl⟩
    · have hje : j < es.size := by simpa using hj'
      obtain ⟨hkj, hvj, hbj⟩ := hM.at_ j hj hj'
      have hext2 := map_ext (es' := es.modify j fun e => { e with key := vk }) (cl' := cl) hes hbase
      obtain ⟨_, hsb⟩ := keyEq_same (key_not_str hT hki hkt hok) h3 hk hkj
      have hold : ((es[j]?).map (·.key)).getD vk = es.toList[j].key := by simp [hje]
      have hborn : ((es[j]?).map fun e => (e.born : Int)).getD 0 = (l[j].2.2 : Int) := by rw [← hbj]; simp [hje]
      have e0 : mgetD k l (pack ei.agg z) = l[j].2.1 := by unfold mgetD; rw [h2]; rfl
      have e1 : mclock k cl l = cl := by unfold mclock mhas; rw [h2]; rfl
      have hoj := hoke _ (List.getElem_mem hj)
      refine ⟨mapCtx c i.b (es.modify j fun e => { e with key := vk }) cl, .tuple #[es.toList[j].val, goInt (l[j].2.2 : Nat)], pre _ _ ?_, ⟨hext2, ?_, hf, Nat.le_refl _, rfl, rfl⟩, ?_⟩
      · rw [h1]
        show ((Instr.keyThatStays (((es[0 + j]?).map (·.key)).getD vk) vk) >>= _ : Sem Value).run P c.w = _
        rw [Nat.zero_add, hold]
        refine (run_bind (a := vk) (w1 := c.w) ?_).trans ?_
        · unfold Instr.keyThatStays
          rw [hsb]; rfl
        · refine (run_bind (hset _)).trans ?_
          rw [hborn]
          rfl
      · show HeapOk ty _ (ins id (.map kt et (mset k (mgetD k l (pack ei.agg z)) cl l) (mclock k cl l)) st.h) st.fz
        rw [e0, mset_some j hj h3 h4, e1]
        refine heap_map H hg hi hon hbase hes ?_
        have := MapOk.set (c' := mapCtx c i.b (es.modify j fun e => { e with key := vk }) cl) hj (k' := vk) (vv := es.toList[j].val) hM hei hoj (fun _ _ hx => hx.mono hext2) (hvj.mono hext2) (kk := k) (fun ki' hki' => by rw [hki] at hki'; cases hki'; exact hok) (hk.mono hext2)
        have e : (es.modify j fun e => { e with key := vk }).toList = es.toList.modify j fun e => { e with key := vk, val := es.toList[j].val } := by
          apply List.ext_getElem
          · simp
          · intro a ha hb
            simp only [Array.toList_modify, List.getElem_modify]
            by_cases hja : j = a
            · subst hja; simp
            · simp [hja]
        rw [e]
        exact this
      · simp only [e0, okV_pack hoj, mborn_some j hj h3 h4, VR]
        refine ⟨_, rfl, ?_⟩
        simp only [LR, VR]
        exact ⟨_, _, rfl, hvj.mono hext2, _, _, rfl, rfl, rfl⟩
end
end Go.Vm
end
section
namespace Go.Vm
open Go.RowKit
section
variable {P : Program} {ty : Tys} {c : Ctx}
theorem zeroCells_flat {z : Value} {n : Nat} (hz : 0 < z.cells.size) : (Builtin.zeroCells z.cells n).toList = flatV (List.replicate n z) := by
  have hall : ∀ y ∈ List.replicate n z, y.cells.size = z.cells.size := fun y hy => by rw [(List.mem_replicate.1 hy).2]
  have hl := flatV_length hall
  rw [List.length_replicate] at hl
  apply List.ext_getElem
  · simp [Builtin.zeroCells, hl]
  · intro i h1 h2
    have hi : i < n * z.cells.size := by rw [← hl]; exact h2
    have hdiv : i / z.cells.size < n := (Nat.div_lt_iff_lt_mul hz).2 hi
    have hmod := Nat.mod_lt i hz
    have := flatV_get hall (i / z.cells.size) (by simpa using hdiv) (i % z.cells.size) hmod
    rw [Nat.div_add_mod' i z.cells.size, List.getElem?_eq_getElem h2] at this
    simp only [List.getElem_replicate] at this
    rw [Array.getElem?_eq_getElem hmod] at this
    have e := Option.some.inj this
    rw [e]
    simp [Builtin.zeroCells, hmod]
theorem run_clear_none {ts : Array TypeId} {t e ty0 : TypeId} {a : Option Addr} {cap : Nat} {w : World} (ht : ts[0]? = some t) (hu : P.underlying t = some (.slice e)) : (Builtin.clear_ ts ty0 #[.slice a 0 cap]).run P w = .ok (.tuple #[]) w := by
  unfold Builtin.clear_
  simp only [ht]
  show ((underlying t) >>= _ : Sem Value).run P w = _
  rw [run_bind (run_underlying hu)]
  cases a <;> rfl
theorem run_clear {ts : Array TypeId} {t e ty0 : TypeId} {inf : TypeInfo} {z : Value} {b o len cap : Nat} {cs : Array Value} {T : TypeId} {w : World} (ht : ts[0]? = some t) (hu : P.underlying t = some (.slice e)) (hi : P.info? e = some inf) (hz : inf.zero = some z)
    (hzs : 0 < z.cells.size) (hzc : ∀ x ∈ z.cells.toList, isCell x) (hh : w.heap[b]? = some (.cells cs T (0, 0))) (hle : o + (len + 1) * z.cells.size ≤ cs.size) :
    (Builtin.clear_ ts ty0 #[.slice (some ⟨b, o, none⟩) (len + 1) cap]).run P w = .ok (.tuple #[]) (setCells w b o (flatV (List.replicate (len + 1) z))) := by
  have hall : ∀ y ∈ List.replicate (len + 1) z, y.cells.size = z.cells.size := fun y hy => by rw [(List.mem_replicate.1 hy).2]
  have hl := flatV_length hall
  rw [List.length_replicate] at hl
  have hst := run_storeCells (P := P) (b := b) (o := o) (flatV (List.replicate (len + 1) z)) w 0 cs T (fun x hx => by
    unfold flatV at hx
    obtain ⟨y, hy, hxy⟩ := List.mem_flatMap.1 hx
    rw [(List.mem_replicate.1 hy).2] at hxy
    exact hzc x hxy) hh (by rw [hl]; simpa using hle)
  unfold Builtin.clear_
  simp only [ht]
  show ((underlying t) >>= _ : Sem Value).run P w = _
  rw [run_bind (run_underlying hu)]
  show ((zeroValue e) >>= fun x => ((storeCells ⟨b, o, none⟩ (Builtin.zeroCells x.cells (len + 1)).toList) >>= fun _ => (pure (.tuple #[]) : Sem Value))).run P w = _
  rw [run_bind (run_zeroValue hi hz), zeroCells_flat hzs]
  refine (run_bind (a := ()) (w1 := setCells w b o (flatV (List.replicate (len + 1) z))) (by simpa using hst)).trans ?_
  rfl
end
end Go.Vm
end
section
namespace Go.Vm
open Go.RowKit
section
variable {P : Program} {ty : Tys} {c : Ctx}
theorem flatV_part {sz : Nat} {ys zs : List Value} {off len : Nat} (hy : ∀ y ∈ ys, y.cells.size = sz) :
    (flatV (ys.take off ++ zs ++ ys.drop (off + len))) = (flatV ys).take (off * sz) ++ flatV zs ++ (flatV ys).drop ((off + len) * sz) := by
  have h1 := flatV_drop_take ys 0 off hy
  simp at h1
  have h2 := flatV_drop_take ys (off + len) (ys.length - (off + len)) hy
  have e1 : (ys.drop (off + len)).take (ys.length - (off + len)) = ys.drop (off + len) := List.take_of_length_le (by simp)
  have hfl := flatV_length hy
  have e2 : ((flatV ys).drop ((off + len) * sz)).take ((ys.length - (off + len)) * sz) = (flatV ys).drop ((off + len) * sz) := List.take_of_length_le (by simp [hfl, Nat.sub_mul])
  rw [e1, e2] at h2
  rw [← h1, ← h2]
  simp [flatV]
theorem heap_part {h : Heap} {fz : List Nat} {id off len : Nat} {i : Info} {o o' : Obj} {ys zs : List Value} (H : HeapOk ty c h fz) (hg : get id h = some o) (hi : c.μ id = some i) (hon : i.on = true) (hz : has id fz = false)
    (hE : EltsR ty c o i.sz ys) (hA : ArrOk c false i i.sz o.len) (hc : ∀ j (hj : j < (flatV ys).length), c.w.cell? ⟨i.b, i.o + j, none⟩ = some (flatV ys)[j]) (hzl : zs.length = len) (hzs : ∀ y ∈ zs, y.cells.size = i.sz) (hle : off + len ≤ i.len)
    (hlen' : o'.len = o.len) (hE' : EltsR ty (setCtx c i.b (i.o + off * i.sz) (flatV zs)) o' i.sz (ys.take off ++ zs ++ ys.drop (off + len))) :
    Ext c (setCtx c i.b (i.o + off * i.sz) (flatV zs)) ∧ HeapOk ty (setCtx c i.b (i.o + off * i.sz) (flatV zs)) (ins id o' h) fz := by
  have hil := hA.2.2.1
  have hfl := hE.flat_length
  have hzfl := flatV_length hzs
  rw [hzl] at hzfl
  have hcap : (off + len) * i.sz ≤ i.cap * i.sz := Nat.mul_le_mul_right _ (Nat.le_trans hle hA.2.2.2.1)
  have hlm : (off + len) * i.sz ≤ o.len * i.sz := Nat.mul_le_mul_right _ (by omega)
  rw [Nat.add_mul] at hcap hlm
  obtain ⟨ha, cs, T, hheap, hroom, hbase, hI⟩ := hA.2.2.2.2.2 hon
  have hext : Ext c (setCtx c i.b (i.o + off * i.sz) (flatV zs)) := set_ext hbase fun j hj => by
    rw [Nat.add_assoc]
    exact hI _ (Nat.zero_le _) (by rw [hzfl] at hj; omega)
  refine ⟨hext, heap_set H hg hi hon hext ?_⟩
  rw [hz]
  refine elts_OR hE' ⟨hA.1, hA.2.1, by rw [hlen']; exact hil, hA.2.2.2.1, hA.2.2.2.2.1, fun _ => ⟨ha, set_blk ⟨cs, T, hheap, hroom, hbase, hI⟩⟩⟩ fun j hj => ?_
  have hp := flatV_part (zs := zs) (off := off) (len := len) hE.sizes
  have hj' : j < ((flatV ys).take (off * i.sz) ++ flatV zs ++ (flatV ys).drop ((off + len) * i.sz)).length := by rw [← hp]; exact hj
  have e : (flatV (ys.take off ++ zs ++ ys.drop (off + len)))[j] = ((flatV ys).take (off * i.sz) ++ flatV zs ++ (flatV ys).drop ((off + len) * i.sz))[j] := by
    have : (flatV (ys.take off ++ zs ++ ys.drop (off + len)))[j]? = ((flatV ys).take (off * i.sz) ++ flatV zs ++ (flatV ys).drop ((off + len) * i.sz))[j]? := by rw [hp]
    rw [List.getElem?_eq_getElem hj, List.getElem?_eq_getElem hj'] at this
    exact Option.some.inj this
  rw [e, set_cell hheap (by rw [hzfl]; omega)]
  simp only [List.length_append, List.length_take, List.length_drop, Nat.add_mul] at hj'
  by_cases c1 : j < off * i.sz
  · rw [dif_neg (by omega), hc j (by omega)]
    rw [List.getElem_append_left (by simp; omega), List.getElem_append_left (by simp; omega)]
    simp
  · by_cases c2 : j < off * i.sz + len * i.sz
    · rw [dif_pos ⟨by omega, by omega⟩]
      rw [List.getElem_append_left (by simp; omega), List.getElem_append_right (by simp; omega)]
      congr 2
      simp; omega
    · rw [dif_neg (by omega), hc j (by omega)]
      rw [List.getElem_append_right (by simp; omega)]
      congr 1
      simp only [List.getElem_drop, List.length_append, List.length_take, Nat.add_mul]
      congr 1
      omega
end
end Go.Vm
end
section
namespace Go.Vm
open Go.RowKit
section
variable {P : Program} {ty : Tys} {c c' : Ctx}
def zeroPart (off L : Nat) (zv : V) : Obj → Option Obj
  | .ints k l => some (.ints k (l.take off ++ List.replicate L 0 ++ l.drop (off + L)))
  | .bools l => some (.bools (l.take off ++ List.replicate L false ++ l.drop (off + L)))
  | .vals e l => some (.vals e (l.take off ++ List.replicate L zv ++ l.drop (off + L)))
  | _ => none
def zeroIs (ty : Tys) (c' : Ctx) (z : Value) (zv : V) : Obj → Prop
  | .ints k _ => z = .int k 0
  | .bools _ => z = .bool false
  | .vals e _ => ∀ ei, tyAt ty e = some ei → okV ty .frz ei zv = true ∧ VR ty c' zv z
  | _ => False
theorem EltsR.zero {o o' : Obj} {sz off L : Nat} {ys : List Value} {z : Value} {zv : V} (hE : EltsR ty c o sz ys) (hext : Ext c c') (ho : zeroPart off L zv o = some o') (hle : off + L ≤ o.len)
    (hzc : z.cells.size = sz ∧ ∀ x ∈ z.cells.toList, isCell x) (hz : zeroIs ty c' z zv o) : EltsR ty c' o' sz (ys.take off ++ List.replicate L z ++ ys.drop (off + L)) ∧ o'.len = o.len := by
  obtain ⟨h1, h2, h3, h4⟩ := hE.mono hext
  have hall : ∀ y ∈ ys.take off ++ List.replicate L z ++ ys.drop (off + L), y.cells.size = sz ∧ ∀ x ∈ y.cells.toList, isCell x := by
    intro y hy
    simp only [List.mem_append] at hy
    rcases hy with (hy | hy) | hy
    · exact h2 y (List.mem_of_mem_take hy)
    · rw [(List.mem_replicate.1 hy).2]; exact hzc
    · exact h2 y (List.mem_of_mem_drop hy)
  cases o with
  | ints k l =>
    simp only [zeroPart, Option.some.injEq] at ho; subst ho
    obtain ⟨e1, rfl⟩ := h4
    simp only [Obj.len] at hle
    simp only [zeroIs] at hz
    subst hz
    exact ⟨⟨by simp [Obj.len], hall, h3, e1, by simp [List.map_take, List.map_drop]⟩, by simp [Obj.len]; omega⟩
  | bools l =>
    simp only [zeroPart, Option.some.injEq] at ho; subst ho
    obtain ⟨e1, rfl⟩ := h4
    simp only [Obj.len] at hle
    simp only [zeroIs] at hz
    subst hz
    exact ⟨⟨by simp [Obj.len], hall, h3, e1, by simp [List.map_take, List.map_drop]⟩, by simp [Obj.len]; omega⟩
  | vals e l =>
    simp only [zeroPart, Option.some.injEq] at ho; subst ho
    obtain ⟨ei, p1, p2, p3, p4, p5⟩ := h4
    simp only [Obj.len] at hle h1
    obtain ⟨hz1, hz2⟩ := hz ei p1
    refine ⟨⟨by simp [Obj.len, h1], hall, h3, ei, p1, p2, p3, fun v hv => ?_, fun j hj hj' => ?_⟩, by simp [Obj.len]; omega⟩
    · simp only [List.mem_append] at hv
      rcases hv with (hv | hv) | hv
      · exact p4 v (List.mem_of_mem_take hv)
      · rw [(List.mem_replicate.1 hv).2]; exact hz1
      · exact p4 v (List.mem_of_mem_drop hv)
    · simp only [List.getElem_append, List.length_take, List.length_append, List.length_replicate, List.getElem_take, List.getElem_replicate, List.getElem_drop]
      have e1 : min off l.length = off := by omega
      have e2 : min off ys.length = off := by omega
      simp only [e1, e2]
      by_cases g1 : j < off + L
      · rw [dif_pos g1, dif_pos g1]
        by_cases g2 : j < off
        · rw [dif_pos g2, dif_pos g2]; exact p5 _ _ _
        · rw [dif_neg g2, dif_neg g2]; exact hz2
      · rw [dif_neg g1, dif_neg g1]; exact p5 _ _ _
  | cells l => exact h4.elim
  | map _ _ _ _ => exact h4.elim
theorem HeapOk.same {h h' : Heap} {fz : List Nat} (H : HeapOk ty c h fz) (he : ∀ id, get id h' = get id h) : HeapOk ty c h' fz :=
  ⟨fun id o i hg hi => H.hp id o i (he id ▸ hg) hi, fun id id' o o' i i' hg hg' hi hi' => H.sep id id' o o' i i' (he id ▸ hg) (he id' ▸ hg') hi hi', H.ib⟩
theorem clear_zero (hT : TyOk P ty) {e : TypeId} {o : Obj} (hf : fitE ty e o = true) {zv : V} (hzv : ∀ e' l, o = .vals e' l → ∃ ei zs, tyAt ty e' = some ei ∧ zeroFixed ty ei.leaves = some zs ∧ zv = pack ei.agg zs) : ∃ inf z, P.info? e = some inf ∧ inf.zero = some z ∧ (∀ x ∈ z.cells.toList, isCell x) ∧ 0 < z.cells.size ∧
      (∀ (c : Ctx) sz ys, EltsR ty c o sz ys → z.cells.size = sz) ∧ ∀ c' : Ctx, zeroIs ty c' z zv o := by
  unfold fitE at hf
  split at hf
  · rename_i k k' l hs
    obtain rfl := same_eq hf
    obtain ⟨ei, hei, hag, h1, hlv, _⟩ := shOf_one hs (by simp)
    have hl := hlv k rfl
    obtain ⟨inf, hinf, hsz, _, z, hz, hzc⟩ := hT.info e ei hei (by rw [hl]; simp)
    obtain ⟨f', z', hf', hz', _, h2'⟩ := hT.zero e ei hei (by rw [hl]; simp)
    rw [hinf] at hf'; cases hf'
    rw [hz] at hz'; cases hz'
    have hzz := h2' hag
    rw [hl] at hzc
    rw [hzz] at hzc
    simp [zeroVal] at hzc
    subst hzc
    refine ⟨inf, _, hinf, hz, by simp [Value.cells, isCell], by simp [Value.cells], fun c sz ys hE => ?_, fun _ => rfl⟩
    rw [hE.2.2.2.1]; rfl
  · rename_i l hs
    obtain ⟨ei, hei, hag, h1, _, hlv⟩ := shOf_one hs (by simp)
    have hl := hlv rfl
    obtain ⟨inf, hinf, hsz, _, z, hz, hzc⟩ := hT.info e ei hei (by rw [hl]; simp)
    obtain ⟨f', z', hf', hz', _, h2'⟩ := hT.zero e ei hei (by rw [hl]; simp)
    rw [hinf] at hf'; cases hf'
    rw [hz] at hz'; cases hz'
    have hzz := h2' hag
    rw [hl] at hzc
    rw [hzz] at hzc
    simp [zeroVal] at hzc
    subst hzc
    refine ⟨inf, _, hinf, hz, by simp [Value.cells, isCell], by simp [Value.cells], fun c sz ys hE => ?_, fun _ => rfl⟩
    rw [hE.2.2.2.1]; rfl
  · rename_i e' l hs
    obtain rfl := beq_true.1 hf
    obtain ⟨ei, zs, hei, hzs, rfl⟩ := hzv _ _ rfl
    obtain ⟨ei', hei', hn⟩ := shOf_ty hs
    rw [hei] at hei'; cases hei'
    obtain ⟨inf, z, hinf, hz, hvr, hok⟩ := zero_VR hT hei hn hzs
    obtain ⟨inf', hinf', hsz, _, z', hz', hzc⟩ := hT.info _ ei hei hn
    rw [hinf] at hinf'; cases hinf'
    rw [hz] at hz'; cases hz'
    have hsize : z.cells.size = ei.leaves.length := by rw [← Array.length_toList, hzc]; simp
    refine ⟨inf, z, hinf, hz, okV_isCell (c := ⟨default, 0, fun _ => False, fun _ _ => False, fun _ => none⟩) hok (hvr _), by rw [hsize]; exact List.length_pos_iff.2 hn, fun c sz ys hE => ?_, fun c' ei' he' => ?_⟩
    · obtain ⟨_, _, _, ei2, q1, _, q3, _⟩ := hE
      rw [hei] at q1; cases q1
      rw [q3, hsize]
    · rw [hei] at he'; cases he'
      exact ⟨hok, hvr c'⟩
  · simp at hf
end
end Go.Vm
end
