/-
  A part of the proof that FabricPads answers true at every input. No condition.
-/
import Derived.Test.YtnjjhhbogdiceaaGreatV1
section
namespace Go.Vm
open Go.RowKit
section
variable {P : Program} {ty : Tys} {c : Ctx} {nx : Nat} {h : Heap} {fz : List Nat} {ρ : Operand → Option V} {ρ' : Operand → Value}
theorem mapTy_und (hT : TyOk P ty) {t k e : TypeId} (h : mapIs ty t k e = true) : P.underlying t = some (.map k e) := by
  unfold mapIs mapTy at h
  cases ht : tyAt ty t with
  | none => rw [ht] at h; simp at h
  | some ti =>
    rw [ht] at h
    simp only [] at h
    split at h
    · rename_i p hp
      split at hp
      · rename_i k' e' hag hlv hfl
        simp at hp
        subst hp
        simp only [Bool.and_eq_true] at h
        rw [← beq_true.1 h.1, ← beq_true.1 h.2]
        exact hT.mp t ti k' e' ht hag hlv hfl
      · simp at hp
    · simp at h
theorem checkKey_leaf {e : Bool} {n : Nat} {t : TypeId} {l : Leaf} {x : Value} {w : World} (h : PlainLeaf P t l) : (Instr.checkKey e (n + 1) t x).run P w = .ok () w := by
  unfold Instr.checkKey
  cases l with
  | int k => simp only [PlainLeaf] at h; rw [run_bind (run_underlying h)]; rfl
  | bool => simp only [PlainLeaf] at h; rw [run_bind (run_underlying h)]; rfl
  | _ => exact h.elim
theorem checkKey_struct {e : Bool} {n : Nat} {t : TypeId} {xs : Array Value} {w : World} (ht : P.underlying t = some (.struct (P.fieldsOf t)))
    (hf : ∀ f ∈ (P.fieldsOf t).toList, ∃ l x, PlainLeaf P f.type l ∧ xs[f.offset]? = some x) : (Instr.checkKey e (n + 2) t (.agg xs)).run P w = .ok () w := by
  unfold Instr.checkKey
  rw [run_bind (run_underlying ht)]
  simp only []
  rw [← Array.forIn_toList]
  generalize (P.fieldsOf t).toList = fs at hf
  have : ((forIn fs PUnit.unit fun f _ => do
      if f.name ≠ "_" then do
        let x ← part f.type xs f.offset
        Instr.checkKey e (n + 1) f.type x
        pure (ForInStep.yield PUnit.unit)
      else pure (ForInStep.yield PUnit.unit)) : Sem PUnit).run P w = .ok PUnit.unit w := by
    clear ht
    induction fs with
    | nil => rfl
    | cons f fs ih =>
      obtain ⟨l, x, hp, hx⟩ := hf f (by simp)
      rw [List.forIn_cons]
      have h1 : ((if f.name ≠ "_" then do
        let x ← part f.type xs f.offset
        Instr.checkKey e (n + 1) f.type x
        pure (ForInStep.yield PUnit.unit)
      else pure (ForInStep.yield PUnit.unit)) : Sem (ForInStep PUnit)).run P w = .ok (ForInStep.yield PUnit.unit) w := by
        split
        · rw [run_bind (run_part_cell (plain_isAgg hp) hx), run_bind (checkKey_leaf hp)]; rfl
        · rfl
      rw [run_bind h1]
      exact ih fun g hg => hf g (by simp [hg])
  rw [run_bind this]; rfl
theorem key_plain (hT : TyOk P ty) {t : TypeId} {i : TyI} (ht : tyAt ty t = some i) (hk : keyTy i = true) :
    (i.agg = false ∧ ∃ l, i.leaves = [l] ∧ PlainLeaf P t l) ∨
    (i.agg = true ∧ P.underlying t = some (.struct (P.fieldsOf t)) ∧ (P.fieldsOf t).size = i.leaves.length ∧
      ∀ (j : Nat) (f : Field) (l : Leaf), (P.fieldsOf t)[j]? = some f → i.leaves[j]? = some l → f.name ≠ "_" ∧ f.offset = j ∧ PlainLeaf P f.type l) := by
  unfold keyTy at hk
  simp only [Bool.and_eq_true] at hk
  rcases hT.plain t i ht hk.1 with ⟨hag, _, ⟨_, hu, _, hsz, hf⟩ | ⟨e, l, inf, hfl, _⟩⟩ | ⟨hag, l, hl, hp⟩
  · exact .inr ⟨hag, hu, hsz, hf⟩
  · rw [hag, hfl] at hk; simp at hk
  · exact .inl ⟨hag, l, hl, hp⟩
theorem checkKey_ok (hT : TyOk P ty) {t : TypeId} {i : TyI} {e : Bool} {kv : V} {x : Value} (ht : tyAt ty t = some i) (hk : keyTy i = true) (hok : okV ty .frz i kv = true) (hv : VR ty c kv x) :
    (Instr.checkKey e 10000 t x).run P c.w = .ok () c.w := by
  rcases key_plain hT ht hk with ⟨_, l, _, hp⟩ | ⟨hag, hu, hsz, hf⟩
  · exact checkKey_leaf (n := 9999) hp
  · rcases okV_cases hok with ⟨_, l, rfl, hl⟩ | ⟨hx, _⟩
    · simp only [VR] at hv
      obtain ⟨xs, rfl, hxs⟩ := hv
      refine checkKey_struct (n := 9998) hu fun f hmem => ?_
      obtain ⟨j, hj, rfl⟩ := List.mem_iff_getElem.1 hmem
      have hj' : j < i.leaves.length := by simp at hj; omega
      obtain ⟨_, ho, hp⟩ := hf j (P.fieldsOf t).toList[j] i.leaves[j] (by simp at hj ⊢) (by simp [hj'])
      have hlen := hxs.len
      have hll := leavesOk_len hl
      have hjx : j < xs.size := by simp at hlen; omega
      exact ⟨i.leaves[j], xs[j], hp, by rw [ho]; simp [hjx]⟩
    · rw [hag] at hx; cases hx
theorem eqCells_keys : ∀ (ls : List Leaf) (a b : List V), leavesOk ty .frz ls a = true → leavesOk ty .frz ls b = true → (∀ l ∈ ls, (∃ k, l = .int k) ∨ l = .bool) → binV.eqCells ls a b = some (keyEqL a b)
  | [], [], [], _, _, _ => rfl
  | [], _ :: _, _, h, _, _ => by simp [leavesOk] at h
  | [], [], _ :: _, _, h, _ => by simp [leavesOk] at h
  | _ :: _, [], _, h, _, _ => by simp [leavesOk] at h
  | _ :: _, _ :: _, [], _, h, _ => by simp [leavesOk] at h
  | l :: ls, v :: a, v' :: b, h, h', hl => by
    simp only [leavesOk, Bool.and_eq_true] at h h'
    have ih := eqCells_keys ls a b h.2 h'.2 fun x hx => hl x (by simp [hx])
    rcases hl l (by simp) with ⟨k, rfl⟩ | rfl
    · cases v <;> simp [leafOk] at h
      cases v' <;> simp [leafOk] at h'
      rename_i k1 n1 k2 n2
      obtain rfl := same_eq h.1
      obtain rfl := same_eq h'.1
      simp [binV.eqCells, same_refl, ih, keyEqL]
    · cases v <;> simp [leafOk] at h
      cases v' <;> simp [leafOk] at h'
      simp [binV.eqCells, ih, keyEqL]
theorem equal_key (hT : TyOk P ty) {t : TypeId} {i : TyI} {kv kv' : V} {x y : Value} (ht : tyAt ty t = some i) (hk : keyTy i = true) (hok : okV ty .frz i kv = true) (hok' : okV ty .frz i kv' = true)
    (hv : VR ty c kv x) (hv' : VR ty c kv' y) : (Op.equal t x y).run P c.w = .ok (keyEq kv kv') c.w := by
  have hplain : PlainTy P t i := hT.plain t i ht (by unfold keyTy at hk; simp only [Bool.and_eq_true] at hk; exact hk.1)
  rcases key_plain hT ht hk with ⟨hag, l, hl, hp⟩ | ⟨hag, hu, hsz, hf⟩
  · rcases okV_cases hok with ⟨hx, _⟩ | ⟨_, _, h1⟩
    · rw [hag] at hx; cases hx
    rcases okV_cases hok' with ⟨hx, _⟩ | ⟨_, _, h2⟩
    · rw [hag] at hx; cases hx
    rw [hl] at h1 h2
    simp only [leavesOk, Bool.and_true] at h1 h2
    cases l with
    | int k =>
      simp only [PlainLeaf] at hp
      cases kv <;> simp [leafOk] at h1
      cases kv' <;> simp [leafOk] at h2
      obtain rfl := same_eq h1
      obtain rfl := same_eq h2
      rw [vr_int] at hv hv'
      rw [hv, hv']
      simp only [keyEq, same_refl, Bool.true_and]
      exact run_equalIn_int c.w 9999 t k k _ _ hp
    | bool =>
      simp only [PlainLeaf] at hp
      cases kv <;> simp [leafOk] at h1
      cases kv' <;> simp [leafOk] at h2
      rw [vr_bool] at hv hv'
      rw [hv, hv']
      exact run_equalIn_bool' c.w 9999 t _ _ hp
    | _ => exact hp.elim
  · rcases okV_cases hok with ⟨_, a, rfl, h1⟩ | ⟨hx, _⟩
    · rcases okV_cases hok' with ⟨_, b, rfl, h2⟩ | ⟨hx, _⟩
      · simp only [VR] at hv hv'
        obtain ⟨xs, rfl, hxs⟩ := hv
        obtain ⟨ys, rfl, hys⟩ := hv'
        simp only [keyEq]
        refine equal_agg hplain hag (eqCells_keys _ _ _ h1 h2 fun l hl => ?_) hxs hys
        obtain ⟨j, hj, rfl⟩ := List.mem_iff_getElem.1 hl
        obtain ⟨_, _, hp⟩ := hf j ((P.fieldsOf t)[j]'(by omega)) i.leaves[j] (by simp) (by simp [hj])
        cases hlj : i.leaves[j] <;> rw [hlj] at hp <;> first | exact hp.elim | exact .inl ⟨_, rfl⟩ | exact .inr rfl
      · rw [hag] at hx; cases hx
    · rw [hag] at hx; cases hx
def ffind (kv : V) : List (V × V × Nat) → List MapEntry → Nat → Option (Nat × Value)
  | e :: r, m :: ms, i => bif keyEq kv e.1 then some (i, m.val) else ffind kv r ms (i + 1)
  | _, _, _ => none
theorem findAsking_ok (hT : TyOk P ty) {t : TypeId} {i : TyI} {kv : V} {x : Value} (ht : tyAt ty t = some i) (hk : keyTy i = true) (hok : okV ty .frz i kv = true) (hv : VR ty c kv x) :
    ∀ (l : List (V × V × Nat)) (es : List MapEntry) (n : Nat), es.length = l.length → (∀ e ∈ l, okV ty .frz i e.1 = true) → (∀ j (h : j < l.length) (h' : j < es.length), VR ty c l[j].1 es[j].key) →
      (Instr.findAsking t x es n).run P c.w = .ok (ffind kv l es n) c.w
  | [], [], n, _, _, _ => rfl
  | [], _ :: _, _, hl, _, _ => by simp at hl
  | _ :: _, [], _, hl, _, _ => by simp at hl
  | e :: l, m :: es, n, hl, hoks, hvr => by
    have h0 := hvr 0 (by simp) (by simp)
    simp only [List.getElem_cons_zero] at h0
    have heq := equal_key hT ht hk hok (hoks e (by simp)) hv h0
    have ih := findAsking_ok hT ht hk hok hv l es (n + 1) (by simpa using hl) (fun e he => hoks e (by simp [he])) fun j h h' => by
      have := hvr (j + 1) (by simpa using h) (by simpa using h')
      simpa using this
    simp only [Instr.findAsking, ffind]
    rw [run_bind heq]
    cases keyEq kv e.1
    · simpa using ih
    · rfl
theorem findNow_ok (hT : TyOk P ty) {t : TypeId} {i : TyI} {kv : V} {x : Value} {d : TypeDesc} (ht : tyAt ty t = some i) (hk : keyTy i = true) (hok : okV ty .frz i kv = true) (hv : VR ty c kv x) (hd : P.underlying t = some d) :
    ∀ (l : List (V × V × Nat)) (es : List MapEntry) (n : Nat), es.length = l.length → (∀ e ∈ l, okV ty .frz i e.1 = true) → (∀ j (h : j < l.length) (h' : j < es.length), VR ty c l[j].1 es[j].key) →
      Instr.findNow d x es n = some (ffind kv l es n) ∨ Instr.findNow d x es n = none
  | [], [], n, _, _, _ => .inl rfl
  | [], _ :: _, _, hl, _, _ => by simp at hl
  | _ :: _, [], _, hl, _, _ => by simp at hl
  | e :: l, m :: es, n, hl, hoks, hvr => by
    have h0 := hvr 0 (by simp) (by simp)
    simp only [List.getElem_cons_zero] at h0
    have ih := findNow_ok hT ht hk hok hv hd l es (n + 1) (by simpa using hl) (fun e he => hoks e (by simp [he])) fun j h h' => by
      have := hvr (j + 1) (by simpa using h) (by simpa using h')
      simpa using this
    have hh : ∀ q : Bool, (match (some q : Option Bool) with | some true => some (some (n, m.val)) | some false => Instr.findNow d x es (n + 1) | none => none) = some (bif q then some (n, m.val) else ffind kv l es (n + 1)) ∨
        (match (some q : Option Bool) with | some true => some (some (n, m.val)) | some false => Instr.findNow d x es (n + 1) | none => none) = none := by
      intro q
      cases q
      · simpa using ih
      · simp
    simp only [Instr.findNow, ffind]
    rcases key_plain hT ht hk with ⟨hag, lf, hlf, hp⟩ | ⟨hag, hu, hsz, hf⟩
    · rcases okV_cases hok with ⟨hx, _⟩ | ⟨_, _, h1⟩
      · rw [hag] at hx; cases hx
      rcases okV_cases (hoks e (by simp)) with ⟨hx, _⟩ | ⟨_, _, h2⟩
      · rw [hag] at hx; cases hx
      rw [hlf] at h1 h2
      simp only [leavesOk, Bool.and_true] at h1 h2
      cases lf with
      | int k =>
        simp only [PlainLeaf] at hp
        rw [hd] at hp; cases hp
        cases kv <;> simp [leafOk] at h1
        obtain ⟨e1, e2⟩ := e
        simp only at h0 h2
        cases e1 <;> simp [leafOk] at h2
        obtain rfl := same_eq h1
        obtain rfl := same_eq h2
        rw [vr_int] at hv h0
        subst hv
        rw [h0]
        simp only [Instr.sameNow, if_true, keyEq, same_refl, Bool.true_and, eqI]
        exact hh _
      | bool =>
        simp only [PlainLeaf] at hp
        rw [hd] at hp; cases hp
        cases kv <;> simp [leafOk] at h1
        obtain ⟨e1, e2⟩ := e
        simp only at h0 h2
        cases e1 <;> simp [leafOk] at h2
        rw [vr_bool] at hv h0
        subst hv
        rw [h0]
        simp only [Instr.sameNow, keyEq, eqB]
        exact hh _
      | _ => exact hp.elim
    · rw [hd] at hu; cases hu
      exact .inr rfl
theorem findKey_ok (hT : TyOk P ty) {t : TypeId} {i : TyI} {kv : V} {x : Value} (ht : tyAt ty t = some i) (hk : keyTy i = true) (hok : okV ty .frz i kv = true) (hv : VR ty c kv x)
    {l : List (V × V × Nat)} {es : List MapEntry} (hl : es.length = l.length) (hoks : ∀ e ∈ l, okV ty .frz i e.1 = true) (hvr : ∀ j (h : j < l.length) (h' : j < es.length), VR ty c l[j].1 es[j].key) :
    (Instr.findKey t x es).run P c.w = .ok (ffind kv l es 0) c.w := by
  have hd : ∃ d, P.underlying t = some d := by
    rcases key_plain hT ht hk with ⟨_, lf, _, hp⟩ | ⟨_, hu, _⟩
    · cases lf with
      | int k => exact ⟨_, hp⟩
      | bool => exact ⟨_, hp⟩
      | _ => exact hp.elim
    · exact ⟨_, hu⟩
  obtain ⟨d, hd⟩ := hd
  unfold Instr.findKey
  rw [run_bind (run_underlying hd)]
  rcases findNow_ok hT ht hk hok hv hd l es 0 hl hoks hvr with h | h
  · rw [h]; rfl
  · rw [h]
    exact findAsking_ok hT ht hk hok hv l es 0 hl hoks hvr
theorem ffind_spec (kv : V) : ∀ (l : List (V × V × Nat)) (es : List MapEntry) (n : Nat), es.length = l.length →
    (ffind kv l es n = none ∧ mget kv l = none) ∨
    ∃ j, ∃ (h : j < l.length) (h' : j < es.length), ffind kv l es n = some (n + j, es[j].val) ∧ mget kv l = some l[j].2.1 ∧ keyEq kv l[j].1 = true ∧ (∀ t (ht : t < j), keyEq kv (l[t]'(by omega)).1 = false)
  | [], [], n, _ => .inl ⟨rfl, rfl⟩
  | [], _ :: _, _, hl => by simp at hl
  | _ :: _, [], _, hl => by simp at hl
  | e :: l, m :: es, n, hl => by
    simp only [ffind, mget]
    cases hk : keyEq kv e.1
    · simp only [cond_false]
      rcases ffind_spec kv l es (n + 1) (by simpa using hl) with ⟨h1, h2⟩ | ⟨j, h, h', h1, h2, h3, h4⟩
      · exact .inl ⟨h1, h2⟩
      · refine .inr ⟨j + 1, by simpa using h, by simpa using h', by rw [h1]; simp; omega, by simpa using h2, by simpa using h3, fun t ht => ?_⟩
        cases t with
        | zero => exact hk
        | succ t => simpa using h4 t (by omega)
    · exact .inr ⟨0, by simp, by simp, rfl, rfl, hk, fun t ht => absurd ht (by omega)⟩
theorem vr_agg {v : V} {a : Array Value} (h : VR ty c v (.agg a)) : ∃ l, v = .agg l := by
  cases v <;> simp [VR, undef] at h ⊢
theorem lookup_sound (hT : TyOk P ty) (H : HeapOk ty c h fz) (hρ : ∀ o v, ρ o = some v → VR ty c v (ρ' o)) {t rty : TypeId} {m k : Operand} {ok : Bool} {r : Res}
    (hr : front ty h nx ρ rty (.lookup t m k ok) = some r) : ∃ x, (Instr.lookup t (ρ' m) (ρ' k) ok).run P c.w = .ok x c.w ∧ VR ty c r.v x ∧ r.objs = [] ∧ r.ok = true := by
  simp only [front] at hr
  split at hr
  case h_2 => simp at hr
  rename_i id kv hm hk
  split at hr
  case h_2 => simp at hr
  rename_i kt et l clock hg
  split at hr
  case h_2 => simp at hr
  rename_i ki ei hki hei
  split at hr
  case h_2 => simp at hr
  rename_i z hz
  cases hc : (okV ty .frz ki kv && keyTy ki && mapIs ty t kt et && Nat.blt 0 ei.leaves.length)
  · rw [hc] at hr; simp at hr
  rw [hc] at hr
  simp only [cond_true] at hr
  simp only [Bool.and_eq_true] at hc
  obtain ⟨⟨⟨hok, hkt⟩, hmi⟩, hpos⟩ := hc
  have hn : ei.leaves ≠ [] := by intro e; rw [e] at hpos; simp at hpos
  have hu := mapTy_und hT hmi
  have hmv := hρ _ _ hm
  simp only [VR] at hmv
  obtain ⟨i, hi, hon, hmx⟩ := hmv
  obtain ⟨_, _, es, hes, hM⟩ := H.hp id _ i hg hi
  obtain ⟨ki', hki', _, hoks⟩ := hM.kt
  rw [hki] at hki'; cases hki'
  obtain ⟨ei', hei', hoke⟩ := hM.et
  rw [hei] at hei'; cases hei'
  have hkv := hρ _ _ hk
  have hfind := findKey_ok hT hki hkt hok hkv hM.len hoks fun j h h' => (hM.at_ j h h').1
  obtain ⟨inf, hinf, hsz, _, zz, hzz, hzc⟩ := hT.info et ei hei hn
  have main : (ffind kv l es.toList 0 = none ∧ VR ty c (proj ty .frz ei (mgetD kv l (pack ei.agg z))) zz ∧ mhas kv l = false) ∨
      ∃ j v, ffind kv l es.toList 0 = some (j, v) ∧ VR ty c (proj ty .frz ei (mgetD kv l (pack ei.agg z))) v ∧ mhas kv l = true := by
    rcases ffind_spec kv l es.toList 0 hM.len with ⟨h1, h2⟩ | ⟨j, h, h', h1, h2, _, _⟩
    · refine .inl ⟨h1, ?_, by unfold mhas; rw [h2]; rfl⟩
      obtain ⟨y, hy, hvr, hokz⟩ := pack_zero hT hei hn hz hzc
      have hd : mgetD kv l (pack ei.agg z) = pack ei.agg z := by unfold mgetD; rw [h2]; rfl
      rw [hd, okV_pack hokz]
      have : y = zz := by
        obtain ⟨f', z', hf', hz', h1', h2'⟩ := hT.zero et ei hei hn
        rw [hinf] at hf'; cases hf'
        rw [hzz] at hz'; cases hz'
        rcases okV_cases hokz with ⟨hag, l0, hl0, _⟩ | ⟨hag, hne, _⟩
        · obtain ⟨a, rfl⟩ := h1' hag
          have := hvr c
          rw [hl0] at this
          simp only [VR] at this
          obtain ⟨xs, rfl, _⟩ := this
          simp only [Value.cells] at hy
          rw [hy]
        · have hz1 := h2' hag
          have hfl := (hvr c).flat (okV_plain hokz).1 (okV_plain hokz).2
          rw [(flat_one hne).1] at hfl
          simp only [CR] at hfl
          obtain ⟨w, ws, e1, e2, e3, e4⟩ := hfl
          rw [hy, hz1] at e1
          simp at e1
          have hyc : y.cells = #[zz] := by rw [hy, hz1]
          cases y <;> first | (simp [Value.cells] at hyc; exact hyc) | skip
          rename_i cs
          obtain ⟨l0, hl0⟩ := vr_agg (hvr c)
          exact absurd hl0 (hne l0)
      rw [← this]
      exact hvr c
    · refine .inr ⟨_, es.toList[j].val, h1, ?_, by unfold mhas; rw [h2]; rfl⟩
      have hd : mgetD kv l (pack ei.agg z) = l[j].2.1 := by unfold mgetD; rw [h2]; rfl
      rw [hd, okV_pack (hoke _ (List.getElem_mem h))]
      exact (hM.at_ j h h').2.1
  have hL : ∃ y, (Instr.lookup t (ρ' m) (ρ' k) ok).run P c.w = .ok (if ok then .tuple #[y, .bool (mhas kv l)] else y) c.w ∧ VR ty c (proj ty .frz ei (mgetD kv l (pack ei.agg z))) y := by
    unfold Instr.lookup
    rw [run_bind (run_underlying hu)]
    simp only [hmx]
    rw [run_bind (show (getObj i.b).run P c.w = .ok (.map es clock) c.w from by simp [getObj, Sem.run, hes])]
    simp only []
    rw [run_bind run_pure, run_bind (checkKey_ok hT hki hkt hok hkv), run_bind hfind]
    rcases main with ⟨h1, h2, h3⟩ | ⟨j, v, h1, h2, h3⟩
    · rw [h1, h3]
      simp only []
      exact ⟨zz, by rw [run_bind (run_zeroValue hinf hzz), run_bind run_pure]; rfl, h2⟩
    · rw [h1, h3]
      simp only []
      exact ⟨v, by rw [run_bind run_pure]; rfl, h2⟩
  obtain ⟨y, hL, hvy⟩ := hL
  cases ok
  · simp only [cond_false] at hr
    obtain ⟨hv, ho, _⟩ := res_eq hr
    refine ⟨_, hL, by rw [hv]; simpa using hvy, ho, ?_⟩
    unfold res at hr; cases hr; rfl
  · simp only [cond_true] at hr
    obtain ⟨hv, ho, _⟩ := res_eq hr
    refine ⟨_, hL, ?_, ho, ?_⟩
    · rw [hv]
      simp only [VR, if_true]
      exact ⟨_, rfl, by simp only [LR]; exact ⟨_, _, rfl, hvy, _, _, rfl, by simp only [VR], rfl⟩⟩
    · unfold res at hr; cases hr; rfl
end
end Go.Vm
end
section
namespace Go.Vm
open Go.RowKit
section
variable {P : Program} {ty : Tys} {c : Ctx} {nx : Nat} {h : Heap} {fz : List Nat} {ρ : Operand → Option V} {ρ' : Operand → Value}
theorem binOp_sound (hT : TyOk P ty) (hρ : ∀ o v, ρ o = some v → VR ty c v (ρ' o)) {op : BinOp} {xt yt rty : TypeId} {x y : Operand} {r : Res}
    (hr : front ty h nx ρ rty (.binOp op xt x y yt) = some r) (hok : r.ok = true) :
    ∃ v, ((do eqGuard op xt x y (ρ' x) (ρ' y); binOp op xt (ρ' x) (ρ' y)) : Sem Value).run P c.w = .ok v c.w ∧ VR ty c r.v v ∧ r.objs = [] := by
  simp only [front] at hr
  split at hr
  case h_2 => simp at hr
  rename_i a b ha hb
  have hav := hρ _ _ ha
  have hbv := hρ _ _ hb
  cases a <;> cases b <;> try (simp [binV] at hr; done)
  · rename_i p q
    obtain ⟨v, h1, h2, h3⟩ := bin_bool (c := c) (w := c.w) hT hr
    rw [vr_bool] at hav hbv
    refine ⟨v, ?_, h2, h3⟩
    rw [hav, hbv, run_bind (eqGuard_ok (by simp) (by simp))]
    exact h1
  · rename_i k n k' n'
    obtain ⟨v, h1, h2, h3⟩ := bin_int (P := P) (c := c) (w := c.w) hr hok
    rw [vr_int] at hav hbv
    refine ⟨v, ?_, h2, h3⟩
    rw [hav, hbv, run_bind (eqGuard_ok (by simp) (by simp))]
    exact h1
  · obtain ⟨v, h1, h2, h3, _⟩ := bin_agg (x := x) (y := y) hT hr hav hbv
    exact ⟨v, h1, h2, h3⟩
theorem front_sound (hT : TyOk P ty) (H : HeapOk ty c h fz) (hρ : ∀ o v, ρ o = some v → VR ty c v (ρ' o)) {r : Res} (hf : Fr c.μ nx r.objs.length) (hb : Room c)
    {o : Oper} (hr : front ty h nx ρ o.type o.op = some r) (hok : r.ok = true) : FrontGoal P ty c h nx (execOp ρ' o) r := by
  obtain ⟨dst, op, type, pos, after, guard⟩ := o
  simp only at hr
  have ib := H.ib
  have val : ∀ (s : Sem Value), (∃ v, s.run P c.w = .ok v c.w ∧ VR ty c r.v v ∧ r.objs = []) → FrontGoal P ty c h nx (do pure (.value (← s))) r :=
    fun s ⟨v, h1, h2, h3⟩ => goal_value h1 h2 h3
  cases op with
  | move x => exact move_sound hρ hf hr
  | assign x => exact move_sound hρ hf hr
  | pick x a b => exact pick_sound hρ hr hok
  | alloc t => exact alloc_sound hT hf hb ib hr
  | box t x => exact box_sound hρ hf hb ib hr
  | build t parts => exact build_sound hT hρ hf hr
  | buildSlice t len parts => exact (buildSlice_sound hT H hρ hf hb hr).1
  | load t a =>
    obtain ⟨v, h1, h2, h3, _⟩ := load_sound hT H hρ hr
    exact val _ ⟨v, h1, h2, h3⟩
  | nilCheck x => exact nilCheck_sound hρ rfl hr
  | binOp op xt x y yt => exact val _ (binOp_sound hT hρ hr hok)
  | unOp op t x => exact val _ (unOp_sound hρ hr)
  | convert s d x => exact val _ (convert_sound hT hρ hr)
  | makeFunc f a b => exact val _ (makeFunc_sound hρ hr)
  | makeSlice t a b => exact makeSlice_sound hT hρ hf hb ib hr hok
  | makeMap t x => exact makeMap_sound hT hρ hf hb ib hr
  | slice t x lo hi mx =>
    cases mx with
    | none =>
      obtain ⟨v, h1, h2, h3, _⟩ := slice_sound hT H hρ hr hok
      exact val _ ⟨v, h1, h2, h3⟩
    | some m => simp [front] at hr
  | fieldAddr s x f =>
    obtain ⟨v, h1, h2, h3, _⟩ := fieldAddr_sound hT hρ hr
    exact val _ ⟨v, h1, h2, h3⟩
  | field s x f => exact val _ (field_sound hT hρ hr)
  | indexAddr t x i =>
    obtain ⟨v, h1, h2, h3, _⟩ := indexAddr_sound hT H hρ hr hok
    exact val _ ⟨v, h1, h2, h3⟩
  | index t x i => exact val _ (index_sound hT hρ hr hok)
  | lookup t m k ok =>
    obtain ⟨v, h1, h2, h3, _⟩ := lookup_sound hT H hρ hr
    exact val _ ⟨v, h1, h2, h3⟩
  | extract x i => exact val _ (extract_sound hρ hr)
  | _ => simp [front] at hr
theorem BlkOk.keep {c c' : Ctx} {i : Info} {n z z' : Nat} (hext : Ext c c') (hold : c'.w.heap[i.b]? = c.w.heap[i.b]?) (hz : z ≤ z')
    (hI : ∀ j, z' ≤ j → j < n → c'.I i.b (i.o + j) → c.I i.b (i.o + j)) (h : BlkOk c i n z) : BlkOk c' i n z' := by
  obtain ⟨cs, T, h1, h2, h3, h4⟩ := h
  exact ⟨cs, T, hold.trans h1, h2, hext.mine h3, fun j hj hn hi => h4 j (by omega) hn (hI j hj hn hi)⟩
theorem cell_of_heap {w w' : World} {b : Nat} (h : w'.heap[b]? = w.heap[b]?) (o : Nat) : w'.cell? ⟨b, o, none⟩ = w.cell? ⟨b, o, none⟩ := World.cell?_of_block h
theorem ArrOk.keep {c c' : Ctx} {f f' : Bool} {i : Info} {sz len : Nat} (hext : Ext c c') (hold : i.on = true → c'.w.heap[i.b]? = c.w.heap[i.b]?) (hff : f = true → f' = true)
    (hI : i.on = true → ∀ off, c'.I i.b off → c.I i.b off ∨ (f' = true ∧ i.o ≤ off ∧ off < i.o + i.len * i.sz)) (h : ArrOk c f i sz len) : ArrOk c' f' i sz len := by
  obtain ⟨h1, h2, h3, h4, h5, h6⟩ := h
  refine ⟨h1, h2, h3, h4, h5, fun hon => ⟨(h6 hon).1, (h6 hon).2.keep hext (hold hon) ?_ ?_⟩⟩
  · unfold fzn
    cases f <;> cases f' <;> simp at hff ⊢
  · intro j hj _ hi
    rcases hI hon _ hi with hi | ⟨hf, _, hlt⟩
    · exact hi
    · unfold fzn at hj
      rw [hf] at hj
      simp at hj
      omega
theorem OR.keep {c c' : Ctx} {f f' : Bool} {i : Info} {o : Obj} (hext : Ext c c') (hold : i.on = true → c'.w.heap[i.b]? = c.w.heap[i.b]?) (hff : f = true → f' = true)
    (hI : i.on = true → ∀ off, c'.I i.b off → c.I i.b off ∨ (f' = true ∧ (∃ v, o.fixed .frz = some v) ∧ i.o ≤ off ∧ off < i.o + i.len * i.sz)) (h : OR ty c f i o) : OR ty c' f' i o := by
  have hI' : i.on = true → ∀ off, c'.I i.b off → c.I i.b off ∨ (f' = true ∧ i.o ≤ off ∧ off < i.o + i.len * i.sz) :=
    fun hon off hi => (hI hon off hi).imp id fun ⟨h1, _, h3⟩ => ⟨h1, h3⟩
  cases o with
  | cells l =>
    obtain ⟨h1, h2, h3, h4, xs, h5, h6⟩ := h
    refine ⟨h1, h2, h3, h4.keep hext (hold h1) (Nat.le_refl _) ?_, xs, h5.mono hext, fun j hj => by rw [cell_of_heap (hold h1)]; exact h6 j hj⟩
    intro j _ _ hi
    rcases hI h1 _ hi with hi | ⟨_, ⟨v, hv⟩, _⟩
    · exact hi
    · simp [Obj.fixed] at hv
  | ints k l =>
    obtain ⟨h1, h2⟩ := h
    refine ⟨h1.keep hext hold hff hI', fun j hj => ?_⟩
    have hon : i.on = true := by
      cases hh : i.on with
      | true => rfl
      | false => have := h1.2.2.2.2.1 hh; have := h1.2.2.1; have := h1.2.2.2.1; omega
    rw [cell_of_heap (hold hon)]; exact h2 j hj
  | bools l =>
    obtain ⟨h1, h2⟩ := h
    refine ⟨h1.keep hext hold hff hI', fun j hj => ?_⟩
    have hon : i.on = true := by
      cases hh : i.on with
      | true => rfl
      | false => have := h1.2.2.2.2.1 hh; have := h1.2.2.1; have := h1.2.2.2.1; omega
    rw [cell_of_heap (hold hon)]; exact h2 j hj
  | vals e l =>
    obtain ⟨ei, g1, g2, g3, h1, h2⟩ := h
    refine ⟨ei, g1, g2, g3, h1.keep hext hold hff hI', fun j hj => ?_⟩
    have hon : i.on = true := by
      cases hh : i.on with
      | true => rfl
      | false => have := h1.2.2.2.2.1 hh; have := h1.2.2.1; have := h1.2.2.2.1; omega
    obtain ⟨y, hy, hs, ht⟩ := h2 j hj
    exact ⟨y, hy.mono hext, hs, fun t hlt => by rw [cell_of_heap (hold hon)]; exact ht t hlt⟩
  | map kt et l clock =>
    obtain ⟨h1, h2, es, h3, hM⟩ := h
    refine ⟨h1, hext.mine h2, es, (hold h1).trans h3, ⟨hM.kt, hM.et, hM.len, fun j hj hj' => ?_, hM.lt, hM.up⟩⟩
    obtain ⟨g1, g2, g3⟩ := hM.at_ j hj hj'
    exact ⟨g1.mono hext, g2.mono hext, g3⟩
theorem OR.weaken {f' : Bool} {i : Info} {o : Obj} (h : OR ty c false i o) : OR ty c f' i o :=
  h.keep (Ext.refl c) (fun _ => rfl) (fun h => by cases h) (fun _ _ hi => .inl hi)
theorem OR.block {f : Bool} {i : Info} {o : Obj} (h : OR ty c f i o) (hon : i.on = true) : i.b < c.w.heap.size := by
  have key : ∀ ob, c.w.heap[i.b]? = some ob → i.b < c.w.heap.size := by
    intro ob hb
    rcases Nat.lt_or_ge i.b c.w.heap.size with g | g
    · exact g
    · rw [Array.getElem?_eq_none g] at hb; cases hb
  cases o with
  | cells l => obtain ⟨_, _, _, ⟨cs, T, hb, _⟩, _⟩ := h; exact key _ hb
  | ints k l => obtain ⟨cs, T, hb, _⟩ := (h.1.2.2.2.2.2 hon).2; exact key _ hb
  | bools l => obtain ⟨cs, T, hb, _⟩ := (h.1.2.2.2.2.2 hon).2; exact key _ hb
  | vals e l => obtain ⟨_, _, _, _, ha, _⟩ := h; obtain ⟨cs, T, hb, _⟩ := (ha.2.2.2.2.2 hon).2; exact key _ hb
  | map _ _ _ _ => obtain ⟨_, _, es, hb, _⟩ := h; exact key _ hb
theorem get_addObjs : ∀ (os : List Obj) (nx : Nat) (h : Heap) (id : Nat), get id (addObjs nx os h) = if nx ≤ id ∧ id - nx < os.length then os[id - nx]? else get id h
  | [], nx, h, id => by simp [addObjs]
  | o :: r, nx, h, id => by
    simp only [addObjs]
    rw [get_addObjs r (nx + 1) _ id]
    by_cases h1 : nx + 1 ≤ id
    · by_cases h2 : id - (nx + 1) < r.length
      · rw [if_pos ⟨h1, h2⟩, if_pos ⟨by omega, by simp; omega⟩]
        rw [show id - nx = (id - (nx + 1)) + 1 from by omega]; rfl
      · rw [if_neg (by omega), if_neg (by simp; omega), get_ins_other _ (by omega)]
    · rw [if_neg (by omega)]
      by_cases h2 : id = nx
      · subst h2
        rw [get_ins_same, if_pos ⟨by omega, by simp⟩]; simp
      · rw [get_ins_other _ h2, if_neg (by simp; omega)]
structure FOk (ty : Tys) (c : Ctx) (h : Heap) (nx : Nat) (objs : List Obj) (F : List Nat) (c' : Ctx) : Prop where
  ext : Ext c c'
  infos : ∃ is : List Info, is.length = objs.length ∧ c'.μ = updM c.μ nx is ∧
    (∀ k (h : k < is.length) (h' : k < objs.length), OR ty c' false is[k] objs[k]) ∧
    (∀ i ∈ is, i.on = true → c.w.heap.size ≤ i.b) ∧ is.Pairwise (fun i j => i.on = true → j.on = true → i.b ≠ j.b)
  hI : ∀ b o, c'.I b o → c.I b o ∨ c.w.heap.size ≤ b ∨ ∃ id i, id ∈ F ∧ (∃ ob v, get id h = some ob ∧ ob.fixed .frz = some v) ∧ c.μ id = some i ∧ i.on = true ∧ b = i.b ∧ i.o ≤ o ∧ o < i.o + i.len * i.sz
  ib : ∀ b o, c'.I b o → b < c'.w.heap.size
  old : ∀ b, b < c.w.heap.size → c'.w.heap[b]? = c.w.heap[b]?
theorem FrontOk.fok {r : Res} {c' : Ctx} {x : Value} (H : HeapOk ty c h fz) (hF : FrontOk ty c h nx r c' x) : FOk ty c h nx r.objs r.fz c' where
  ext := hF.ext
  infos := hF.infos
  hI := fun b o hI => (hF.hI b o hI).imp id .inr
  ib := fun b o hI => by
    rcases hF.hI b o hI with hI | ⟨id, i, _, ⟨ob, v, hg, hv⟩, hi, hon, rfl, _⟩
    · exact Nat.lt_of_lt_of_le (H.ib b o hI) hF.ext.below.size
    · exact Nat.lt_of_lt_of_le ((H.hp id ob i hg hi).block hon) hF.ext.below.size
  old := hF.old
theorem heap_F {h2 : Heap} {fz2 : List Nat} {objs : List Obj} {F : List Nat} {c' : Ctx}
    (H : HeapOk ty c h2 fz2) (hsub : ∀ id o i, c.μ id = some i → get id h = some o → get id h2 = some o) (hF : FOk ty c h nx objs F c')
    {h3 : Heap} (h3new : ∀ k (hk : k < objs.length), get (nx + k) h3 = some objs[k]) (h3old : ∀ id, ¬ (nx ≤ id ∧ id < nx + objs.length) → get id h3 = get id h2)
    {fz3 : List Nat} (hfz : ∀ id, id ∈ F ∨ id ∈ fz2 → id ∈ fz3) : HeapOk ty c' h3 fz3 := by
  obtain ⟨is, hlen, hμ, hO, hblk, hpw⟩ := hF.infos
  have old : ∀ id i, c'.μ id = some i → (¬ (nx ≤ id ∧ id < nx + objs.length) ∧ c.μ id = some i) ∨ ∃ k, ∃ (hk : k < is.length), id = nx + k ∧ i = is[k] := by
    intro id i hi
    rw [hμ] at hi
    unfold updM at hi
    split at hi
    · rename_i hge
      obtain ⟨hk, rfl⟩ := List.getElem?_eq_some_iff.1 hi
      exact .inr ⟨id - nx, hk, by omega, rfl⟩
    · rename_i hge
      exact .inl ⟨by rw [← hlen]; exact hge, hi⟩
  have keepOld : ∀ id o i, c.μ id = some i → get id h2 = some o → OR ty c' (has id fz3) i o ∧ (i.on = true → i.b < c.w.heap.size) := by
    intro id o i hi hg
    have hOR := H.hp id o i hg hi
    refine ⟨hOR.keep hF.ext (fun hon => hF.old _ (hOR.block hon)) (fun hh => ?_) (fun hon off hI => ?_), fun hon => hOR.block hon⟩
    · exact has_mem.2 (hfz id (.inr (has_mem.1 hh)))
    · rcases hF.hI _ _ hI with hI | hI | ⟨id', i', hm, ⟨ob, v, hg', hv⟩, hi', hon', hb, h1, h2⟩
      · exact .inl hI
      · exact absurd (hOR.block hon) (by omega)
      · by_cases hid : id' = id
        · subst hid
          rw [hi] at hi'; cases hi'
          rw [hsub _ _ _ hi hg'] at hg; cases hg
          exact .inr ⟨has_mem.2 (hfz _ (.inl hm)), ⟨v, hv⟩, h1, h2⟩
        · exact absurd hb (H.sep id id' o ob i i' hg (hsub _ _ _ hi' hg') hi hi' (Ne.symm hid) hon hon')
  refine ⟨?_, ?_, hF.ib⟩
  · intro id o i hg hi
    rcases old id i hi with ⟨hlt, hi⟩ | ⟨k, hk, rfl, rfl⟩
    · rw [h3old id hlt] at hg
      exact (keepOld id o i hi hg).1
    · rw [h3new k (by omega)] at hg
      cases hg
      exact (hO k hk (by omega)).weaken
  · intro id id' o o' i i' hg hg' hi hi' hne hon hon'
    rcases old id i hi with ⟨hlt, hi⟩ | ⟨k, hk, rfl, rfl⟩ <;> rcases old id' i' hi' with ⟨hlt', hi'⟩ | ⟨k', hk', rfl, rfl⟩
    · rw [h3old id hlt] at hg
      rw [h3old id' hlt'] at hg'
      exact H.sep id id' o o' i i' hg hg' hi hi' hne hon hon'
    · rw [h3old id hlt] at hg
      have h1 := (keepOld id o i hi hg).2 hon
      have h2 := hblk _ (List.getElem_mem hk') hon'
      omega
    · rw [h3old id' hlt'] at hg'
      have h1 := (keepOld id' o' i' hi' hg').2 hon'
      have h2 := hblk _ (List.getElem_mem hk) hon
      omega
    · have hkk : k ≠ k' := fun e => hne (by rw [e])
      rcases Nat.lt_or_gt_of_ne hkk with hlt | hlt
      · exact List.pairwise_iff_getElem.1 hpw k k' hk hk' hlt hon hon'
      · exact fun e => List.pairwise_iff_getElem.1 hpw k' k hk' hk hlt hon' hon e.symm
theorem heap_front {h2 : Heap} {fz2 : List Nat} {r : Res} {c' : Ctx} {x : Value}
    (H : HeapOk ty c h2 fz2) (hsub : ∀ id o, get id h = some o → get id h2 = some o) (hF : FrontOk ty c h nx r c' x)
    {h3 : Heap} (h3new : ∀ k (hk : k < r.objs.length), get (nx + k) h3 = some r.objs[k]) (h3old : ∀ id, ¬ (nx ≤ id ∧ id < nx + r.objs.length) → get id h3 = get id h2)
    {fz3 : List Nat} (hfz : ∀ id, id ∈ r.fz ∨ id ∈ fz2 → id ∈ fz3) : HeapOk ty c' h3 fz3 :=
  heap_F H (fun id o _ _ => hsub id o) (hF.fok (h := h) ⟨fun id o i hg hi => H.hp id o i (hsub _ _ hg) hi, fun id id' o o' i i' hg hg' hi hi' => H.sep id id' o o' i i' (hsub _ _ hg) (hsub _ _ hg') hi hi', H.ib⟩) h3new h3old hfz
end
end Go.Vm
end
section
namespace Go.Vm
open Go.RowKit
section
variable {P : Program} {ty : Tys} {c : Ctx} {nx : Nat} {h : Heap} {fz : List Nat}
def setCtx (c : Ctx) (b o : Nat) (xs : List Value) : Ctx := { w := setCells c.w b o xs, base := c.base, F := c.F, I := c.I, μ := c.μ }
theorem set_ext {b o : Nat} {xs : List Value} (hb : Mine c b) (hI : ∀ j, j < xs.length → ¬ c.I b (o + j)) : Ext c (setCtx c b o xs) where
  base := rfl
  fr := rfl
  below := setCells_below xs c.w b o hb.1
  keeps := fun k _ hF => setCells_heap_other xs c.w b o k fun e => hb.2 (e ▸ hF)
  hI := fun _ _ h => h
  hnew := fun _ _ h => .inl h
  hcell := fun b' o' h => by
    refine setCells_cell_other xs c.w b o b' o' ?_
    by_cases hbb : b' = b
    · subst hbb
      right
      rcases Nat.lt_or_ge o' o with g | g
      · exact .inl g
      · rcases Nat.lt_or_ge o' (o + xs.length) with g' | g'
        · have := hI (o' - o) (by omega)
          rw [show o + (o' - o) = o' from by omega] at this
          exact absurd h this
        · exact .inr g'
    · exact .inl hbb
  hμ := fun _ _ h => h
theorem heap_frz {F : List Nat} (H : HeapOk ty c h fz) (hF : FzOk h F) : HeapOk ty (frzCtx c F) h (F ++ fz) where
  hp := fun id o i hg hi0 => by
    have hi : c.μ id = some i := hi0
    refine (H.hp id o i hg hi).keep (frz_ext H hF) (fun _ => rfl) (fun hh => has_mem.2 (List.mem_append.2 (.inr (has_mem.1 hh)))) (fun hon off hI => ?_)
    rcases hI with hI | ⟨id', i', hm, hi', hon', hb, h1, h2⟩
    · exact .inl hI
    · obtain ⟨ob, v, hg', hv⟩ := hF id' hm
      by_cases hid : id' = id
      · subst hid
        rw [hi] at hi'; cases hi'
        rw [hg'] at hg; cases hg
        exact .inr ⟨has_mem.2 (List.mem_append.2 (.inl hm)), ⟨v, hv⟩, h1, h2⟩
      · exact absurd hb (H.sep id id' o ob i i' hg hg' hi hi' (Ne.symm hid) hon hon')
  sep := H.sep
  ib := frz_ib H hF
theorem fixArgs_ok {F : List Nat} (H : HeapOk ty c h fz) (hF : FzOk h F) : ∀ {l xs : List V} {g : List Nat} {ys : List Value}, fixArgs h l = some (xs, g) → (∀ id ∈ g, id ∈ F) → LR ty c l ys → LR ty (frzCtx c F) xs ys
  | [], xs, g, ys, hx, _, hl => by
    simp [fixArgs] at hx
    obtain ⟨rfl, rfl⟩ := hx
    simpa only [LR] using hl
  | v :: r, xs, g, ys, hx, hg, hl => by
    simp only [fixArgs] at hx
    split at hx
    · rename_i x f xs' g' h1 h2
      simp at hx
      obtain ⟨rfl, rfl⟩ := hx
      simp only [LR] at hl ⊢
      obtain ⟨y, ys', rfl, hv, hr⟩ := hl
      exact ⟨y, ys', rfl, fixV_ok H hF h1 (fun id hid => hg id (by simp [hid])) hv, fixArgs_ok H hF h2 (fun id hid => hg id (by simp [hid])) hr⟩
    · simp at hx
theorem fixArgs_FzOk : ∀ {l : List V} {p : List V × List Nat}, fixArgs h l = some p → FzOk h p.2
  | [], p, hx => by
    simp [fixArgs] at hx
    subst hx
    intro id hid; simp at hid
  | v :: r, p, hx => by
    simp only [fixArgs] at hx
    split at hx
    · rename_i x f xs' g' h1 h2
      simp at hx
      subst hx
      intro id hid
      rcases List.mem_append.1 hid with hid | hid
      · exact fixV_FzOk h1 id hid
      · exact fixArgs_FzOk h2 id hid
    · simp at hx
theorem heap_set {id o0 : Nat} {i : Info} {ob ob' : Obj} {xs : List Value} (H : HeapOk ty c h fz) (hg : get id h = some ob) (hi : c.μ id = some i) (hon : i.on = true)
    (hext : Ext c (setCtx c i.b o0 xs)) (hO : OR ty (setCtx c i.b o0 xs) (has id fz) i ob') : HeapOk ty (setCtx c i.b o0 xs) (ins id ob' h) fz where
  hp := fun id' o' i' hg' hi' => by
    by_cases hid : id' = id
    · subst hid
      rw [get_ins_same] at hg'; cases hg'
      have : i = i' := by have h2 : c.μ id' = some i' := hi'; rw [hi] at h2; exact Option.some.inj h2
      subst this
      exact hO
    · rw [get_ins_other _ hid] at hg'
      refine (H.hp id' o' i' hg' hi').keep hext (fun hon' => ?_) (fun hh => hh) (fun _ _ hI => .inl hI)
      exact setCells_heap_other xs c.w i.b o0 i'.b (H.sep id' id o' ob i' i hg' hg hi' hi hid hon' hon)
  sep := fun id1 id2 o1 o2 i1 i2 h1 h2 m1 m2 hne a b => by
    have e : ∀ k o, get k (ins id ob' h) = some o → ∃ o', get k h = some o' := by
      intro k o hk
      by_cases hkid : k = id
      · exact ⟨ob, hkid ▸ hg⟩
      · rw [get_ins_other _ hkid] at hk; exact ⟨o, hk⟩
    obtain ⟨o1', g1⟩ := e _ _ h1
    obtain ⟨o2', g2⟩ := e _ _ h2
    exact H.sep id1 id2 o1' o2' i1 i2 g1 g2 m1 m2 hne a b
  ib := fun b o hI => Nat.lt_of_lt_of_le (H.ib b o hI) hext.below.size
theorem set_blk {i : Info} {n z o0 : Nat} {xs : List Value} (h : BlkOk c i n z) : BlkOk (setCtx c i.b o0 xs) i n z := by
  obtain ⟨cs, T, h1, h2, h3, h4⟩ := h
  obtain ⟨cs', h1', hs⟩ := setCells_heap_same xs c.w i.b o0 cs T (0, 0) h1
  exact ⟨cs', T, h1', by omega, h3, h4⟩
theorem set_cell {b o0 o : Nat} {xs : List Value} {cs : Array Value} {T : TypeId} (h : c.w.heap[b]? = some (.cells cs T (0, 0))) (hle : o0 + xs.length ≤ cs.size) :
    (setCtx c b o0 xs).w.cell? ⟨b, o, none⟩ = if hh : o0 ≤ o ∧ o - o0 < xs.length then some xs[o - o0] else c.w.cell? ⟨b, o, none⟩ := by
  show (setCells c.w b o0 xs).cell? _ = _
  by_cases hh : o0 ≤ o ∧ o - o0 < xs.length
  · rw [dif_pos hh]
    have := setCells_cell_in xs c.w b o0 (o - o0) hh.2 (fun i hi => ⟨_, cell_of h (by omega)⟩)
    rw [show o0 + (o - o0) = o from by omega] at this
    exact this
  · rw [dif_neg hh]
    refine setCells_cell_other xs c.w b o0 b o (.inr ?_)
    omega
theorem run_storeAt {t : TypeId} {inf : TypeInfo} {b o : Nat} {x : Value} {w : World} {cs : Array Value} {T : TypeId} (hi : P.info? t = some inf) (hsz : x.cells.size = inf.size)
    (hx : ∀ y ∈ x.cells.toList, isCell y) (hh : w.heap[b]? = some (.cells cs T (0, 0))) (hle : o + x.cells.size ≤ cs.size) :
    (Instr.storeAt t (.pointer (some ⟨b, o, none⟩)) x).run P w = .ok () (setCells w b o x.cells.toList) := by
  unfold Instr.storeAt
  rw [run_bind run_sureAddr]
  unfold storeVar
  rw [run_bind (run_sizeOf hi), if_neg (by simp [hsz])]
  have := run_storeCells (P := P) (b := b) (o := o) x.cells.toList w 0 cs T hx hh (by simpa using hle)
  simpa using this
structure BkOk (ty : Tys) (c c' : Ctx) (st st' : St) : Prop where
  ext : Ext c c'
  hp : HeapOk ty c' st'.h st'.fz
  fresh : ∀ id, st'.nx ≤ id → c'.μ id = none
  nx : st.nx ≤ st'.nx
  t : st'.t = st.t
  lo : st'.lo = st.lo
theorem store_sound (hT : TyOk P ty) {st : St} (H : HeapOk ty c st.h st.fz) (hf : ∀ id, st.nx ≤ id → c.μ id = none) {t : TypeId} {a x : V} {va vx : Value} {b : Bk}
    (hr : storeV ty st t a x = some b) (ha : VR ty c a va) (hx : VR ty c x vx) : ∃ c', (Instr.storeAt t va vx).run P c.w = .ok () c'.w ∧ BkOk ty c c' st b.st := by
  unfold storeV at hr
  split at hr
  ·
    rename_i ti id off ht
    split at hr
    case h_2 => simp at hr
    rename_i l hg
    simp only [VR] at ha
    obtain ⟨i, hi, hon, rfl⟩ := ha
    obtain ⟨_, hsz, hlen, hblk, xs, hCR, hcell⟩ := H.hp id _ i hg hi
    obtain ⟨cs, T, hheap, hroom, hbase, hI⟩ := hblk
    have hxl := hCR.len
    have core : ∀ (vs : List V) (ys : Array Value) (hys : vx.cells = ys) (inf : TypeInfo), P.info? t = some inf → inf.size = ys.size → vs.length = ys.size → off + vs.length ≤ l.length →
        ∀ (c1 : Ctx) (h1 : Heap), Ext c c1 → c1.w = c.w → c1.I = c.I → HeapOk ty c1 h1 st.fz → get id h1 = some (.cells l) → CR ty c1 vs ys.toList →
        ∃ c', (Instr.storeAt t (.pointer (some ⟨i.b, i.o + off, none⟩)) vx).run P c.w = .ok () c'.w ∧ Ext c c' ∧ c'.μ = c1.μ ∧ HeapOk ty c' (ins id (.cells (setAt l off vs)) h1) st.fz := by
      intro vs ys hys inf hinf hsize hvl hfit c1 h1 hext1 hw1 hI1 H1 hg1 hvs
      have hmu1 := hext1.hμ id i hi
      have hnI : ∀ j, j < ys.toList.length → ¬ c1.I i.b (i.o + off + j) := by
        intro j hj hh
        rw [hI1] at hh
        simp at hj
        exact hI (off + j) (by omega) (by omega) (by rw [← Nat.add_assoc]; exact hh)
      have hext2 : Ext c1 (setCtx c1 i.b (i.o + off) ys.toList) := set_ext (hext1.mine hbase) hnI
      refine ⟨setCtx c1 i.b (i.o + off) ys.toList, ?_, hext1.trans hext2, rfl, ?_⟩
      · rw [run_storeAt hinf (by rw [hys, hsize]) (by rw [hys]; exact fun y hy => hvs.cell hy) hheap (by rw [hys]; omega), hys]
        simp only [setCtx, hw1]
      · refine heap_set H1 hg1 hmu1 hon hext2 ⟨hon, hsz, by rw [setAt_length]; exact hlen, ?_, Vm.setAt xs off ys.toList, (hCR.mono (hext1.trans hext2)).setAt (hvs.mono hext2) off, fun j hj => ?_⟩
        · rw [setAt_length]
          exact set_blk ⟨cs, T, by rw [hw1]; exact hheap, hroom, hext1.mine hbase, by rw [hI1]; exact hI⟩
        · rw [setAt_length] at hj
          have hset := set_cell (c := c1) (b := i.b) (o0 := i.o + off) (o := i.o + j) (xs := ys.toList) (by rw [hw1]; exact hheap) (by simp; omega)
          rw [hset, setAt_get _ _ _ _ (by rw [setAt_length]; exact hj) hj]
          by_cases hc : off ≤ j ∧ j - off < ys.toList.length
          · rw [dif_pos ⟨by omega, by omega⟩, dif_pos hc]
            congr 1
            simp only [show i.o + j - (i.o + off) = j - off from by omega]
          · rw [dif_neg (by omega), dif_neg hc, hw1]
            exact hcell j hj
    split at hr
    ·
      cases he : slElem ty t with
      | none => rw [he] at hr; simp at hr
      | some e =>
        rw [he] at hr
        simp only [Option.bind_some] at hr
        cases ho : emptyObj ty e with
        | none => rw [ho] at hr; simp at hr
        | some o =>
          rw [ho] at hr
          simp only [Option.bind_some] at hr
          cases hfit : (fits l off 1 && Nat.beq ti.leaves.length 1)
          · rw [hfit] at hr; simp at hr
          rw [hfit] at hr
          simp only [cond_true, Option.some.injEq] at hr
          subst hr
          simp only [Bool.and_eq_true] at hfit
          have hl1 := beq_true.1 hfit.2
          have hfit1 := fits_iff.1 hfit.1
          have hn : ti.leaves ≠ [] := by intro e; rw [e] at hl1; simp at hl1
          obtain ⟨inf, hinf, hsize, _⟩ := hT.info t ti ht hn
          simp only [VR] at hx
          obtain ⟨sz, hOe⟩ := emptyObj_OR ho
          have hext1 : Ext c (newCtx c st.nx c.w [nilInfo sz]) := newCtx_ext_same (fun id h _ => hf id h)
          have hFr : FrontOk ty c st.h st.nx { v := .own st.nx, objs := [o] } (newCtx c st.nx c.w [nilInfo sz]) vx := by
            refine FrontOk.nils (fun id h _ => hf id h) rfl (fun i hi => ⟨sz, by simpa using hi⟩) ?_ ?_
            · intro c k hk hk'
              have : k = 0 := by simp at hk; omega
              subst this
              exact hOe c
            · simp only [VR]
              exact ⟨nilInfo sz, by simp [newCtx, updM], hx⟩
          have hidlt : id ≠ st.nx := by
            rintro rfl
            rw [hf _ (Nat.le_refl _)] at hi; cases hi
          have H1 : HeapOk ty (newCtx c st.nx c.w [nilInfo sz]) (ins st.nx o st.h) st.fz := by
            refine heap_front (h2 := st.h) (fz2 := st.fz) H (fun _ _ h => h) hFr (fun k hk => ?_) (fun id' hid => get_ins_other _ (by simp at hid; omega) _) (fun id' hh => by simpa using hh)
            have : k = 0 := by simp at hk; omega
            subst this
            simp [get_ins_same]
          obtain ⟨c', hrun, hext, hμ, hH⟩ := core [.own st.nx] vx.cells rfl inf hinf (by rw [hsize, hl1, hx]; rfl) (by rw [hx]; rfl) (by simpa using hfit1) _ _ hext1 rfl rfl H1 (by rw [get_ins_other _ hidlt]; exact hg)
            (by rw [hx]; simp only [Value.cells, CR]; exact ⟨_, _, rfl, by simp only [VR]; exact ⟨nilInfo sz, by simp [newCtx, updM], rfl⟩, trivial, rfl⟩)
          refine ⟨c', hrun, ⟨hext, hH, fun id' hid => ?_, by simp, rfl, rfl⟩⟩
          rw [hμ]
          simp only at hid
          simp only [newCtx, updM]
          rw [if_neg (by simp; omega)]
          exact hf id' (by omega)
    · rename_i hne
      cases hc : (Nat.beq x.flat.length ti.leaves.length && fits l off ti.leaves.length && Nat.blt 0 ti.leaves.length && partOk x)
      · rw [hc] at hr; simp at hr
      rw [hc] at hr
      simp only [cond_true, Option.some.injEq] at hr
      subst hr
      simp only [Bool.and_eq_true] at hc
      obtain ⟨⟨⟨hc1, hc2⟩, hc3⟩, hc4⟩ := hc
      have hl1 := beq_true.1 hc1
      have hfit1 := fits_iff.1 hc2
      have hn : ti.leaves ≠ [] := by intro e; rw [e] at hc3; simp at hc3
      obtain ⟨inf, hinf, hsize, _⟩ := hT.info t ti ht hn
      have hflat := hx.flat (by rintro rfl; simp [partOk] at hc4) (by rintro l rfl; simp [partOk] at hc4)
      have hfl := hflat.len
      simp at hfl
      obtain ⟨c', hrun, hext, hμ, hH⟩ := core x.flat vx.cells rfl inf hinf (by omega) (by omega) (by omega) c st.h (Ext.refl c) rfl rfl H hg hflat
      exact ⟨c', hrun, ⟨hext, hH, fun id' hid => by rw [hμ]; exact hf id' hid, Nat.le_refl _, rfl, rfl⟩⟩
  ·
    rename_i ti id idx off ht
    cases hfzc : has id st.fz
    case true => rw [hfzc] at hr; simp at hr
    rw [hfzc] at hr
    simp only [cond_false] at hr
    simp only [VR] at ha
    obtain ⟨i, hi, hon, hidx, rfl⟩ := ha
    split at hr
    · rename_i k l hg
      split at hr
      case h_2 => simp at hr
      rename_i k' n
      cases hc : (IntKind.same k k' && Nat.beq ti.leaves.length 1)
      · rw [hc] at hr; simp at hr
      rw [hc] at hr
      simp only [cond_true, Option.some.injEq] at hr
      subst hr
      simp only [Bool.and_eq_true] at hc
      obtain rfl := same_eq hc.1
      have hl1 := beq_true.1 hc.2
      have hn : ti.leaves ≠ [] := by intro e; rw [e] at hl1; simp at hl1
      obtain ⟨inf, hinf, hsize, _⟩ := hT.info t ti ht hn
      rw [vr_int] at hx
      obtain ⟨harr, hcell⟩ := H.hp id _ i hg hi
      obtain ⟨hs1, hs2, hs3, hs4, hoff, hon'⟩ := harr
      obtain ⟨haa, cs, T, hheap, hroom, hbase, hI⟩ := hon' hon
      rw [hfzc] at hI
      rw [hs1] at hroom hI ⊢
      have hlt : idx < l.length := by omega
      have hext : Ext c (setCtx c i.b (i.o + idx * 1 + 0) [.int k n]) := set_ext hbase (fun j hj hh => by
        simp at hj; subst hj
        exact hI idx (by simp [fzn]) (by omega) (by rw [show i.o + idx = i.o + idx * 1 + 0 + 0 from by omega]; exact hh))
      refine ⟨setCtx c i.b (i.o + idx * 1 + 0) [.int k n], ?_, ⟨hext, heap_set H hg hi hon hext ?_, hf, Nat.le_refl _, rfl, rfl⟩⟩
      · rw [hx, run_storeAt hinf (by rw [hsize, hl1]; rfl) (by simp [Value.cells, isCell]) hheap (by simp [Value.cells]; omega)]
        rfl
      · refine ⟨⟨hs1, hs2, by simpa using hs3, hs4, hoff, fun hh => ⟨haa, ?_⟩⟩, fun j hj => ?_⟩
        · rw [hfzc, hs1]
          exact set_blk ⟨cs, T, hheap, hroom, hbase, hI⟩
        · simp at hj
          rw [set_cell hheap (by simp; omega)]
          by_cases hji : j = idx
          · subst hji
            rw [dif_pos (by simp)]
            simp
          · rw [dif_neg (by simp; omega), hcell j hj]
            rw [List.getElem_set_ne (Ne.symm hji)]
    · rename_i l hg
      split at hr
      case h_2 => simp at hr
      rename_i n
      cases hc : Nat.beq ti.leaves.length 1
      · rw [hc] at hr; simp at hr
      rw [hc] at hr
      simp only [cond_true, Option.some.injEq] at hr
      subst hr
      have hl1 := beq_true.1 hc
      have hn : ti.leaves ≠ [] := by intro e; rw [e] at hl1; simp at hl1
      obtain ⟨inf, hinf, hsize, _⟩ := hT.info t ti ht hn
      rw [vr_bool] at hx
      obtain ⟨harr, hcell⟩ := H.hp id _ i hg hi
      obtain ⟨hs1, hs2, hs3, hs4, hoff, hon'⟩ := harr
      obtain ⟨haa, cs, T, hheap, hroom, hbase, hI⟩ := hon' hon
      rw [hfzc] at hI
      rw [hs1] at hroom hI ⊢
      have hlt : idx < l.length := by omega
      have hext : Ext c (setCtx c i.b (i.o + idx * 1 + 0) [.bool n]) := set_ext hbase (fun j hj hh => by
        simp at hj; subst hj
        exact hI idx (by simp [fzn]) (by omega) (by rw [show i.o + idx = i.o + idx * 1 + 0 + 0 from by omega]; exact hh))
      refine ⟨setCtx c i.b (i.o + idx * 1 + 0) [.bool n], ?_, ⟨hext, heap_set H hg hi hon hext ?_, hf, Nat.le_refl _, rfl, rfl⟩⟩
      · rw [hx, run_storeAt hinf (by rw [hsize, hl1]; rfl) (by simp [Value.cells, isCell]) hheap (by simp [Value.cells]; omega)]
        rfl
      · refine ⟨⟨hs1, hs2, by simpa using hs3, hs4, hoff, fun hh => ⟨haa, ?_⟩⟩, fun j hj => ?_⟩
        · rw [hfzc, hs1]
          exact set_blk ⟨cs, T, hheap, hroom, hbase, hI⟩
        · simp at hj
          rw [set_cell hheap (by simp; omega)]
          by_cases hji : j = idx
          · subst hji
            rw [dif_pos (by simp)]
            simp
          · rw [dif_neg (by simp; omega), hcell j hj]
            rw [List.getElem_set_ne (Ne.symm hji)]
    · rename_i e l hg
      split at hr
      case h_2 => simp at hr
      rename_i ei y g hei hfix
      cases hig : has id g
      case true => rw [hig] at hr; simp at hr
      rw [hig] at hr
      simp only [cond_false] at hr
      split at hr
      case h_2 => simp at hr
      rename_i cs hcs
      cases hc : (Nat.beq y.flat.length ti.leaves.length && fits cs off ti.leaves.length && okV ty .frz ei (pack ei.agg (setAt cs off y.flat)) && Nat.blt 0 ti.leaves.length && partOk y)
      · rw [hc] at hr; simp at hr
      rw [hc] at hr
      simp only [cond_true, Option.some.injEq] at hr
      subst hr
      simp only [Bool.and_eq_true] at hc
      obtain ⟨⟨⟨⟨hc1, hc2⟩, hc3⟩, hc4⟩, hc5⟩ := hc
      have hl1 := beq_true.1 hc1
      have hfit1 := fits_iff.1 hc2
      have hn : ti.leaves ≠ [] := by intro e; rw [e] at hc4; simp at hc4
      obtain ⟨inf, hinf, hsize, _⟩ := hT.info t ti ht hn
      have hF := fixV_FzOk hfix
      have hext1 := frz_ext H hF
      have H1 := heap_frz H hF
      have hfz1 : has id (g ++ st.fz) = false := by
        rw [← Bool.not_eq_true, has_mem, List.mem_append]
        rintro (hh | hh)
        · rw [has_mem.2 hh] at hig; cases hig
        · rw [has_mem.2 hh] at hfzc; cases hfzc
      have hyv := fixV_ok H hF hfix (fun _ h => h) hx
      have hyflat := hyv.flat (by rintro rfl; simp [partOk] at hc5) (by rintro l rfl; simp [partOk] at hc5)
      have hyl := hyflat.len
      simp at hyl
      have hO1 := H1.hp id _ i hg hi
      rw [hfz1] at hO1
      have hlt : idx < l.length := by obtain ⟨_, _, _, _, ha, _⟩ := hO1; have := ha.2.2.1; omega
      obtain ⟨xs, hCRc, hcellc⟩ := elem_cells hO1 hlt hcs
      obtain ⟨ei', hei', hsh, hokl, harr, hel⟩ := hO1
      rw [hei] at hei'; cases hei'
      obtain ⟨hs1, hs2, hs3, hs4, hoff, hon'⟩ := harr
      obtain ⟨haa, hcsA, T, hheap, hroom, hbase, hI⟩ := hon' hon
      have hcl : cs.length = ei.leaves.length := by
        unfold elCells at hcs
        rw [hei] at hcs
        simp at hcs
        rw [← hcs]
        have : ∀ (ls : List Leaf) (n : Nat) (v : V), (projL ty .frz ls n v).length = ls.length := by
          intro ls
          induction ls with
          | nil => intro n v; rfl
          | cons a r ih => intro n v; simp [projL, ih]
        exact this _ _ _
      have hxl := hCRc.len
      have hrow : (idx + 1) * i.sz ≤ i.cap * i.sz := Nat.mul_le_mul_right _ (by omega)
      rw [Nat.succ_mul] at hrow
      have hext2 : Ext (frzCtx c g) (setCtx (frzCtx c g) i.b (i.o + idx * i.sz + off) vx.cells.toList) := set_ext hbase (fun j hj hh => by
        simp at hj
        exact hI (idx * i.sz + off + j) (by simp [fzn]) (by omega) (by rw [show i.o + (idx * i.sz + off + j) = i.o + idx * i.sz + off + j from by omega]; exact hh))
      refine ⟨setCtx (frzCtx c g) i.b (i.o + idx * i.sz + off) vx.cells.toList, ?_, ⟨hext1.trans hext2, ?_, hf, Nat.le_refl _, rfl, rfl⟩⟩
      · exact run_storeAt (w := c.w) hinf (by omega) (fun y hy => hyflat.cell hy) hheap (by omega)
      · refine heap_set (ob := .vals e l) H1 hg hi hon hext2 ⟨ei, hei, hsh, fun v hv => ?_, ⟨hs1, hs2, by simpa using hs3, hs4, hoff, fun _ => ⟨haa, by rw [hfz1]; exact set_blk ⟨hcsA, T, hheap, hroom, hbase, hI⟩⟩⟩, fun j hj => ?_⟩
        · rcases List.mem_or_eq_of_mem_set hv with hv | rfl
          · exact hokl v hv
          · exact hc3
        · simp at hj
          by_cases hji : j = idx
          · subst hji
            simp only [List.getElem_set_self]
            have hnew := (hCRc.mono hext2).setAt (hyflat.mono hext2) off
            have hval : ∃ w : Value, VR ty (setCtx (frzCtx c g) i.b (i.o + j * i.sz + off) vx.cells.toList) (pack ei.agg (setAt cs off y.flat)) w ∧ w.cells.toList = Vm.setAt xs off vx.cells.toList := by
              rcases okV_cases hc3 with ⟨hag, l', hl', _⟩ | ⟨hag, hne, hlv⟩
              · rw [hag]
                refine ⟨.agg (Vm.setAt xs off vx.cells.toList).toArray, ?_, rfl⟩
                simp only [pack, cond_true, VR]
                exact ⟨_, rfl, by simpa using hnew⟩
              · have hn1 := hT.one e ei hei (by intro e; rw [e] at hs2; simp at hs2) hag
                have hlen1 : (setAt cs off y.flat).length = 1 := by rw [setAt_length]; omega
                rw [hag]
                simp only [pack, cond_false]
                match hm : setAt cs off y.flat, hlen1 with
                | [v0], _ =>
                  rw [hm] at hnew
                  simp only [CR] at hnew
                  obtain ⟨w0, ws, e0, hv0, hc0, hws⟩ := hnew
                  refine ⟨w0, hv0, ?_⟩
                  rw [e0, hws]
                  cases w0 <;> first | rfl | exact hc0.elim
            obtain ⟨w, hw1, hw2⟩ := hval
            refine ⟨w, hw1, ?_, fun t ht => ?_⟩
            · rw [← Array.length_toList, hw2, setAt_length]; omega
            · rw [← hs1]
              rw [set_cell hheap (by simp; omega)]
              have hlw : t < (Vm.setAt xs off vx.cells.toList).length := by rw [setAt_length]; omega
              have hwt : w.cells[t]? = some (Vm.setAt xs off vx.cells.toList)[t] := by
                have : w.cells.toList[t]? = some (Vm.setAt xs off vx.cells.toList)[t] := by rw [hw2]; simp [hlw]
                simpa using this
              rw [hwt, setAt_get _ _ _ _ hlw (by omega)]
              by_cases hin : off ≤ t ∧ t - off < vx.cells.toList.length
              · rw [dif_pos (by omega), dif_pos hin]
                congr 1
                simp only [show i.o + j * i.sz + t - (i.o + j * i.sz + off) = t - off from by omega]
              · rw [dif_neg (by omega), dif_neg hin]
                exact hcellc t (by omega)
          · rw [List.getElem_set_ne (Ne.symm hji)]
            obtain ⟨w, hw1, hw2, hw3⟩ := hel j hj
            refine ⟨w, hw1.mono hext2, hw2, fun t ht => ?_⟩
            rw [set_cell hheap (by simp; omega), dif_neg, hw3 t ht]
            simp only [Array.length_toList]
            rw [← hs1] at ht ⊢
            rcases Nat.lt_or_gt_of_ne hji with hlt' | hlt'
            · have : (j + 1) * i.sz ≤ idx * i.sz := Nat.mul_le_mul_right _ hlt'
              rw [Nat.succ_mul] at this
              omega
            · have : (idx + 1) * i.sz ≤ j * i.sz := Nat.mul_le_mul_right _ hlt'
              rw [Nat.succ_mul] at this
              omega
    · simp at hr
  · simp at hr
end
end Go.Vm
end
section
namespace Go.Vm
open Go.RowKit
section
variable {P : Program} {ty : Tys} {c : Ctx} {nx : Nat} {h : Heap} {fz : List Nat}
def EltsR (ty : Tys) (c : Ctx) (o : Obj) (sz : Nat) (ys : List Value) : Prop :=
  ys.length = o.len ∧ (∀ y ∈ ys, y.cells.size = sz ∧ ∀ z ∈ y.cells.toList, isCell z) ∧ 0 < sz ∧
  match o with
  | .ints k l => sz = 1 ∧ ys = l.map (Value.int k)
  | .bools l => sz = 1 ∧ ys = l.map Value.bool
  | .vals e l => ∃ ei, tyAt ty e = some ei ∧ shOf ty e = some .vals ∧ sz = ei.leaves.length ∧ (∀ v ∈ l, okV ty .frz ei v = true) ∧ ∀ j (h : j < l.length) (h' : j < ys.length), VR ty c l[j] ys[j]
  | _ => False
theorem EltsR.sizes {o : Obj} {sz : Nat} {ys : List Value} (h : EltsR ty c o sz ys) : ∀ y ∈ ys, y.cells.size = sz := fun y hy => (h.2.1 y hy).1
theorem EltsR.cells {o : Obj} {sz : Nat} {ys : List Value} (h : EltsR ty c o sz ys) : ∀ z ∈ flatV ys, isCell z := by
  intro z hz
  unfold flatV at hz
  obtain ⟨y, hy, hzy⟩ := List.mem_flatMap.1 hz
  exact (h.2.1 y hy).2 z hzy
theorem EltsR.flat_length {o : Obj} {sz : Nat} {ys : List Value} (h : EltsR ty c o sz ys) : (flatV ys).length = o.len * sz := by rw [flatV_length h.sizes, h.1]
theorem EltsR.mono {c' : Ctx} {o : Obj} {sz : Nat} {ys : List Value} (hext : Ext c c') (h : EltsR ty c o sz ys) : EltsR ty c' o sz ys := by
  obtain ⟨h1, h2, h3, h4⟩ := h
  refine ⟨h1, h2, h3, ?_⟩
  cases o with
  | vals e l =>
    obtain ⟨ei, g1, g2, g3, g4, g5⟩ := h4
    exact ⟨ei, g1, g2, g3, g4, fun j hj hj' => (g5 j hj hj').mono hext⟩
  | _ => exact h4
theorem okV_isCell {ei : TyI} {v : V} {y : Value} (hok : okV ty .frz ei v = true) (hv : VR ty c v y) : ∀ z ∈ y.cells.toList, isCell z := fun _ hz => (hv.flat (okV_plain hok).1 (okV_plain hok).2).cell hz
theorem OR_elts {f : Bool} {i : Info} {o : Obj} {v : V} {t : Tag} (hv : o.fixed t = some v) (h : OR ty c f i o) : ∃ ys, EltsR ty c o i.sz ys ∧ ArrOk c f i i.sz o.len ∧
    ∀ j (hj : j < (flatV ys).length), c.w.cell? ⟨i.b, i.o + j, none⟩ = some (flatV ys)[j] := by
  cases o with
  | ints k l =>
    obtain ⟨ha, hc⟩ := h
    have hall : ∀ y ∈ l.map (Value.int k), y.cells.size = 1 ∧ ∀ z ∈ y.cells.toList, isCell z := by
      intro y hy
      obtain ⟨n, _, rfl⟩ := List.mem_map.1 hy
      exact ⟨rfl, by simp [Value.cells, isCell]⟩
    refine ⟨l.map (Value.int k), ⟨by simp [Obj.len], by rw [ha.1]; exact hall, by rw [ha.1]; omega, ha.1, rfl⟩, by rw [ha.1]; exact ha, fun j hj => ?_⟩
    have hlen := flatV_length fun y hy => (hall y hy).1
    simp at hlen
    rw [hc j (by omega)]
    have := flatV_get (fun y hy => (hall y hy).1) j (by simp; omega) 0 (by omega)
    rw [Nat.mul_one, Nat.add_zero, List.getElem?_eq_getElem hj] at this
    simp only [List.getElem_map] at this
    exact this.symm
  | bools l =>
    obtain ⟨ha, hc⟩ := h
    have hall : ∀ y ∈ l.map Value.bool, y.cells.size = 1 ∧ ∀ z ∈ y.cells.toList, isCell z := by
      intro y hy
      obtain ⟨n, _, rfl⟩ := List.mem_map.1 hy
      exact ⟨rfl, by simp [Value.cells, isCell]⟩
    refine ⟨l.map Value.bool, ⟨by simp [Obj.len], by rw [ha.1]; exact hall, by rw [ha.1]; omega, ha.1, rfl⟩, by rw [ha.1]; exact ha, fun j hj => ?_⟩
    have hlen := flatV_length fun y hy => (hall y hy).1
    simp at hlen
    rw [hc j (by omega)]
    have := flatV_get (fun y hy => (hall y hy).1) j (by simp; omega) 0 (by omega)
    rw [Nat.mul_one, Nat.add_zero, List.getElem?_eq_getElem hj] at this
    simp only [List.getElem_map] at this
    exact this.symm
  | vals e l =>
    obtain ⟨ei, g1, g2, g3, ha, hel⟩ := h
    have hex : ∃ ys : List Value, ys.length = l.length ∧ ∀ j (hj : j < l.length) (hj' : j < ys.length), VR ty c l[j] ys[j] ∧ ys[j].cells.size = ei.leaves.length ∧
        ∀ t, t < ei.leaves.length → c.w.cell? ⟨i.b, i.o + j * ei.leaves.length + t, none⟩ = ys[j].cells[t]? := by
      refine ⟨List.ofFn fun j : Fin l.length => Classical.choose (hel j.1 j.2), by simp, fun j hj hj' => ?_⟩
      simp only [List.getElem_ofFn]
      exact Classical.choose_spec (hel j hj)
    obtain ⟨ys, hlen, hys⟩ := hex
    have hsz : ∀ y ∈ ys, y.cells.size = i.sz ∧ ∀ z ∈ y.cells.toList, isCell z := by
      intro y hy
      obtain ⟨j, hj, rfl⟩ := List.mem_iff_getElem.1 hy
      have := hys j (by omega) hj
      exact ⟨by rw [ha.1]; exact this.2.1, okV_isCell (g3 _ (List.getElem_mem (by omega))) this.1⟩
    refine ⟨ys, ⟨hlen, hsz, by rw [ha.1]; exact ha.2.1, ei, g1, g2, ha.1, g3, fun j hj hj' => (hys j hj hj').1⟩, by rw [ha.1]; exact ha, fun j hj => ?_⟩
    have hfl := flatV_length fun y hy => (hsz y hy).1
    have hp := ha.2.1
    rw [ha.1] at hfl
    have hdiv : j / ei.leaves.length < ys.length := by rw [hfl] at hj; exact (Nat.div_lt_iff_lt_mul hp).2 hj
    have hmod := Nat.mod_lt j hp
    have h1 := (hys _ (by omega) hdiv).2.2 _ hmod
    have h2 := flatV_get (fun y hy => (hsz y hy).1) _ hdiv (j % ei.leaves.length) (by rw [ha.1]; exact hmod)
    rw [ha.1, Nat.div_add_mod' j ei.leaves.length, List.getElem?_eq_getElem hj] at h2
    rw [Nat.add_assoc, Nat.div_add_mod' j ei.leaves.length, ← h2] at h1
    exact h1
  | cells l => simp [Obj.fixed] at hv
  | map _ _ _ _ => simp [Obj.fixed] at hv
theorem elts_OR {f : Bool} {i : Info} {o : Obj} {ys : List Value} {sz : Nat} (hE : EltsR ty c o sz ys) (ha : ArrOk c f i sz o.len) (hc : ∀ j (hj : j < (flatV ys).length), c.w.cell? ⟨i.b, i.o + j, none⟩ = some (flatV ys)[j]) :
    OR ty c f i o := by
  have hfl := hE.flat_length
  have hall := hE.sizes
  obtain ⟨h1, h2, h3, h4⟩ := hE
  cases o with
  | ints k l =>
    obtain ⟨rfl, rfl⟩ := h4
    refine ⟨ha, fun j hj => ?_⟩
    simp only [Obj.len] at hfl
    rw [hc j (by omega)]
    have := flatV_get hall j (by simpa using hj) 0 (by omega)
    rw [Nat.mul_one, Nat.add_zero, List.getElem?_eq_getElem (by omega)] at this
    simp only [List.getElem_map] at this
    exact this
  | bools l =>
    obtain ⟨rfl, rfl⟩ := h4
    refine ⟨ha, fun j hj => ?_⟩
    simp only [Obj.len] at hfl
    rw [hc j (by omega)]
    have := flatV_get hall j (by simpa using hj) 0 (by omega)
    rw [Nat.mul_one, Nat.add_zero, List.getElem?_eq_getElem (by omega)] at this
    simp only [List.getElem_map] at this
    exact this
  | vals e l =>
    obtain ⟨ei, g1, g2, rfl, g4, g5⟩ := h4
    simp only [Obj.len] at hfl h1
    refine ⟨ei, g1, g2, g4, ha, fun j hj => ⟨ys[j], g5 j hj (by omega), hall _ (List.getElem_mem _), fun t ht => ?_⟩⟩
    have hlt : j * ei.leaves.length + t < (flatV ys).length := by
      have : (j + 1) * ei.leaves.length ≤ l.length * ei.leaves.length := Nat.mul_le_mul_right _ hj
      rw [Nat.succ_mul] at this; omega
    have h2 := flatV_get hall j (by omega) t ht
    rw [Nat.add_assoc, hc _ hlt, ← h2]; simp
  | cells l => exact h4.elim
  | map _ _ _ _ => exact h4.elim
theorem EltsR.join {o o' j : Obj} {sz sz' : Nat} {ys ys' : List Value} (h : EltsR ty c o sz ys) (h' : EltsR ty c o' sz' ys') (hj : joinObj o o' = some j) : sz = sz' ∧ EltsR ty c j sz (ys ++ ys') ∧ j.len = o.len + o'.len := by
  obtain ⟨h1, h2, h3, h4⟩ := h
  obtain ⟨g1, g2, g3, g4⟩ := h'
  have hall : ∀ {s}, sz = s → sz' = s → ∀ y ∈ ys ++ ys', y.cells.size = s ∧ ∀ z ∈ y.cells.toList, isCell z := by
    intro s e1 e2 y hy
    subst e1
    rcases List.mem_append.1 hy with hy | hy
    · exact h2 y hy
    · rw [← e2]; exact g2 y hy
  cases o <;> cases o' <;> simp [joinObj] at hj
  · rename_i k l k' l'
    cases hk : IntKind.same k k'
    · rw [hk] at hj; simp at hj
    rw [hk] at hj
    obtain rfl := same_eq hk
    simp at hj; subst hj
    obtain ⟨e1, rfl⟩ := h4
    obtain ⟨e2, rfl⟩ := g4
    exact ⟨by omega, ⟨by simp [Obj.len], hall rfl (by omega), h3, e1, by simp⟩, by simp [Obj.len]⟩
  · rename_i l l'
    subst hj
    obtain ⟨e1, rfl⟩ := h4
    obtain ⟨e2, rfl⟩ := g4
    exact ⟨by omega, ⟨by simp [Obj.len], hall rfl (by omega), h3, e1, by simp⟩, by simp [Obj.len]⟩
  · rename_i e l e' l'
    cases hk : Nat.beq e e'
    · rw [hk] at hj; simp at hj
    rw [hk] at hj
    obtain rfl := beq_true.1 hk
    simp at hj; subst hj
    obtain ⟨ei, p1, p2, p3, p4, p5⟩ := h4
    obtain ⟨ei', q1, q2, q3, q4, q5⟩ := g4
    rw [p1] at q1; cases q1
    simp only [Obj.len] at h1 g1
    refine ⟨by omega, ⟨by simp [Obj.len, h1, g1], hall rfl (by omega), h3, ei, p1, p2, p3, ?_, ?_⟩, by simp [Obj.len]⟩
    · intro v hv
      rcases List.mem_append.1 hv with hv | hv
      · exact p4 v hv
      · exact q4 v hv
    · intro j hj hj'
      simp only [List.getElem_append]
      by_cases hlt : j < l.length
      · rw [dif_pos hlt, dif_pos (by omega)]
        exact p5 j hlt (by omega)
      · rw [dif_neg hlt, dif_neg (by omega)]
        have := q5 (j - l.length) (by simp at hj; omega) (by simp at hj; omega)
        simp only [h1]
        exact this
theorem EltsR.part {o o' : Obj} {sz : Nat} {ys : List Value} {off len : Nat} (h : EltsR ty c o sz ys) (hle : off + len ≤ o.len)
    (ho : (match o with
      | .ints k l => some (Obj.ints k ((l.drop off).take len))
      | .bools l => some (.bools ((l.drop off).take len))
      | .vals e l => some (.vals e ((l.drop off).take len))
      | _ => none) = some o') : EltsR ty c o' sz ((ys.drop off).take len) ∧ o'.len = len := by
  obtain ⟨h1, h2, h3, h4⟩ := h
  have hall : ∀ y ∈ (ys.drop off).take len, y.cells.size = sz ∧ ∀ z ∈ y.cells.toList, isCell z := fun y hy => h2 y (List.mem_of_mem_drop (List.mem_of_mem_take hy))
  cases o with
  | ints k l =>
    simp at ho; subst ho
    obtain ⟨e1, rfl⟩ := h4
    simp only [Obj.len] at hle
    exact ⟨⟨by simp [Obj.len], hall, h3, e1, by simp [List.map_take, List.map_drop]⟩, by simp [Obj.len]; omega⟩
  | bools l =>
    simp at ho; subst ho
    obtain ⟨e1, rfl⟩ := h4
    simp only [Obj.len] at hle
    exact ⟨⟨by simp [Obj.len], hall, h3, e1, by simp [List.map_take, List.map_drop]⟩, by simp [Obj.len]; omega⟩
  | vals e l =>
    simp at ho; subst ho
    obtain ⟨ei, p1, p2, p3, p4, p5⟩ := h4
    simp only [Obj.len] at hle h1
    refine ⟨⟨by simp [Obj.len, h1], hall, h3, ei, p1, p2, p3, fun v hv => p4 v (List.mem_of_mem_drop (List.mem_of_mem_take hv)), fun j hj hj' => ?_⟩, by simp [Obj.len]; omega⟩
    simp only [List.getElem_take, List.getElem_drop]
    exact p5 _ _ _
  | cells l => simp at ho
  | map _ _ _ _ => simp at ho
theorem flatV_drop_take {sz : Nat} : ∀ (ys : List Value) (off len : Nat), (∀ y ∈ ys, y.cells.size = sz) → flatV ((ys.drop off).take len) = ((flatV ys).drop (off * sz)).take (len * sz) := by
  have hdrop : ∀ (ys : List Value) (off : Nat), (∀ y ∈ ys, y.cells.size = sz) → flatV (ys.drop off) = (flatV ys).drop (off * sz) := by
    intro ys
    induction ys with
    | nil => intro off _; simp [flatV]
    | cons y r ih =>
      intro off hall
      cases off with
      | zero => simp
      | succ off =>
        have := ih off fun z hz => hall z (by simp [hz])
        simp only [List.drop_succ_cons, this]
        unfold flatV
        simp only [List.flatMap_cons]
        rw [show (off + 1) * sz = y.cells.toList.length + off * sz from by rw [Nat.succ_mul]; simp [hall y (by simp)]; omega, List.drop_append]
        simp
  have htake : ∀ (ys : List Value) (len : Nat), (∀ y ∈ ys, y.cells.size = sz) → flatV (ys.take len) = (flatV ys).take (len * sz) := by
    intro ys
    induction ys with
    | nil => intro len _; simp [flatV]
    | cons y r ih =>
      intro len hall
      cases len with
      | zero => simp [flatV]
      | succ len =>
        have := ih len fun z hz => hall z (by simp [hz])
        unfold flatV at this ⊢
        simp only [List.take_succ_cons, List.flatMap_cons, this]
        rw [show (len + 1) * sz = y.cells.toList.length + len * sz from by rw [Nat.succ_mul]; simp [hall y (by simp)]; omega, List.take_append]
        simp [List.take_of_length_le]
  intro ys off len hall
  rw [htake _ _ fun y hy => hall y (List.mem_of_mem_drop hy), hdrop _ _ hall]
theorem contents_cells (H : HeapOk ty c h fz) {x : V} {vx : Value} {o : Obj} (hx : VR ty c x vx) (ho : slContents h x = some o) {v : V} (hv : o.fixed .frz = some v) :
    ∃ a cap sz ys, vx = .slice a o.len cap ∧ EltsR ty c o sz ys ∧ (o.len = 0 ∨ ∃ b off, a = some ⟨b, off, none⟩ ∧ ∀ j (hj : j < (flatV ys).length), c.w.cell? ⟨b, off + j, none⟩ = some (flatV ys)[j]) := by
  cases x with
  | ints t k l =>
    simp [slContents] at ho; subst ho
    simp only [VR] at hx
    obtain ⟨a, cap, rfl, hcap, hl⟩ := hx
    have hall : ∀ y ∈ l.map (Value.int k), y.cells.size = 1 ∧ ∀ z ∈ y.cells.toList, isCell z := by
      intro y hy
      obtain ⟨n, _, rfl⟩ := List.mem_map.1 hy
      exact ⟨rfl, by simp [Value.cells, isCell]⟩
    refine ⟨a, cap, 1, l.map (Value.int k), rfl, ⟨by simp [Obj.len], hall, by omega, rfl, rfl⟩, hl.imp (fun e => by simp [Obj.len, e]) ?_⟩
    rintro ⟨b, off, rfl, hc⟩
    refine ⟨b, off, rfl, fun j hj => ?_⟩
    have hlen := flatV_length fun y hy => (hall y hy).1
    simp at hlen
    rw [(hc j (by omega)).2]
    have := flatV_get (fun y hy => (hall y hy).1) j (by simp; omega) 0 (by omega)
    rw [Nat.mul_one, Nat.add_zero, List.getElem?_eq_getElem hj] at this
    simp only [List.getElem_map] at this
    exact this.symm
  | bools t l =>
    simp [slContents] at ho; subst ho
    simp only [VR] at hx
    obtain ⟨a, cap, rfl, hcap, hl⟩ := hx
    have hall : ∀ y ∈ l.map Value.bool, y.cells.size = 1 ∧ ∀ z ∈ y.cells.toList, isCell z := by
      intro y hy
      obtain ⟨n, _, rfl⟩ := List.mem_map.1 hy
      exact ⟨rfl, by simp [Value.cells, isCell]⟩
    refine ⟨a, cap, 1, l.map Value.bool, rfl, ⟨by simp [Obj.len], hall, by omega, rfl, rfl⟩, hl.imp (fun e => by simp [Obj.len, e]) ?_⟩
    rintro ⟨b, off, rfl, hc⟩
    refine ⟨b, off, rfl, fun j hj => ?_⟩
    have hlen := flatV_length fun y hy => (hall y hy).1
    simp at hlen
    rw [(hc j (by omega)).2]
    have := flatV_get (fun y hy => (hall y hy).1) j (by simp; omega) 0 (by omega)
    rw [Nat.mul_one, Nat.add_zero, List.getElem?_eq_getElem hj] at this
    simp only [List.getElem_map] at this
    exact this.symm
  | vals t e l =>
    simp [slContents] at ho; subst ho
    simp only [VR] at hx
    obtain ⟨a, cap, ei, rfl, hcap, he, hs, hok, hl⟩ := hx
    obtain ⟨ei', he', hn⟩ := shOf_ty hs
    rw [he] at he'; cases he'
    have hp := List.length_pos_iff.2 hn
    rcases hl with rfl | ⟨b, off, rfl, hE⟩
    · exact ⟨a, cap, ei.leaves.length, [], rfl, ⟨rfl, by simp, hp, ei, he, hs, rfl, by simp, fun j hj => absurd hj (by simp)⟩, .inl rfl⟩
    have hex : ∃ ys : List Value, ys.length = l.length ∧ ∀ j (hj : j < l.length) (hj' : j < ys.length), VR ty c l[j] ys[j] ∧ ys[j].cells.size = ei.leaves.length ∧
        ∀ t, t < ei.leaves.length → c.w.cell? ⟨b, off + j * ei.leaves.length + t, none⟩ = ys[j].cells[t]? := by
      refine ⟨List.ofFn fun j : Fin l.length => Classical.choose (hE.at j.1 j.2), by simp, fun j hj hj' => ?_⟩
      simp only [List.getElem_ofFn]
      obtain ⟨g1, g2, g3⟩ := Classical.choose_spec (hE.at j hj)
      exact ⟨g1, g2, fun t ht => (g3 t ht).2⟩
    obtain ⟨ys, hlen, hys⟩ := hex
    have hsz : ∀ y ∈ ys, y.cells.size = ei.leaves.length ∧ ∀ z ∈ y.cells.toList, isCell z := by
      intro y hy
      obtain ⟨j, hj, rfl⟩ := List.mem_iff_getElem.1 hy
      have := hys j (by omega) hj
      exact ⟨this.2.1, okV_isCell (hok _ (List.getElem_mem (by omega))) this.1⟩
    refine ⟨_, cap, ei.leaves.length, ys, rfl, ⟨hlen, hsz, hp, ei, he, hs, rfl, hok, fun j hj hj' => (hys j hj hj').1⟩, .inr ⟨b, off, rfl, fun j hj => ?_⟩⟩
    have hfl := flatV_length fun y hy => (hsz y hy).1
    have hdiv : j / ei.leaves.length < ys.length := by rw [hfl] at hj; exact (Nat.div_lt_iff_lt_mul hp).2 hj
    have hmod := Nat.mod_lt j hp
    have h1 := (hys _ (by omega) hdiv).2.2 _ hmod
    have h2 := flatV_get (fun y hy => (hsz y hy).1) _ hdiv (j % ei.leaves.length) hmod
    rw [Nat.div_add_mod' j ei.leaves.length, List.getElem?_eq_getElem hj] at h2
    rw [Nat.add_assoc, Nat.div_add_mod' j ei.leaves.length, ← h2] at h1
    exact h1
  | own id =>
    simp only [slContents] at ho
    simp only [VR] at hx
    obtain ⟨i, hi, rfl⟩ := hx
    obtain ⟨ys, hE, ha, hc⟩ := OR_elts hv (H.hp id o i ho hi)
    refine ⟨i.a, i.cap, i.sz, ys, by rw [ha.2.2.1], hE, ?_⟩
    by_cases hz : o.len = 0
    · exact .inl hz
    · right
      have hon : i.on = true := by
        cases hh : i.on with
        | true => rfl
        | false => have := ha.2.2.2.2.1 hh; have := ha.2.2.1; have := ha.2.2.2.1; omega
      exact ⟨i.b, i.o, (ha.2.2.2.2.2 hon).1, hc⟩
  | owns id off len =>
    simp only [VR] at hx
    obtain ⟨i, a, cap, hi, rfl, hle, hlc, hcap, hpl⟩ := hx
    cases hg : get id h with
    | none => simp [slContents, hg] at ho
    | some ob =>
      simp only [slContents, hg] at ho
      have hob : ∃ w, ob.fixed .frz = some w := by
        cases ob <;> simp at ho <;> exact ⟨_, rfl⟩
      obtain ⟨w, hw⟩ := hob
      obtain ⟨ys, hE, ha, hc⟩ := OR_elts hw (H.hp id ob i hg hi)
      have hlen3 := ha.2.2.1
      obtain ⟨hE', hlen'⟩ := hE.part (off := off) (len := len) (by omega) (o' := o) (by cases ob <;> simp at ho ⊢ <;> exact ho)
      refine ⟨a, cap, i.sz, _, by rw [hlen'], hE', ?_⟩
      by_cases hz : len = 0
      · left; omega
      · right
        obtain ⟨hon, rfl⟩ := hpl.resolve_left (by omega)
        refine ⟨i.b, i.o + off * i.sz, rfl, fun j hj => ?_⟩
        have hft := flatV_drop_take ys off len hE.sizes
        have hj2 : j < (((flatV ys).drop (off * i.sz)).take (len * i.sz)).length := by rw [← hft]; exact hj
        have hj3 : off * i.sz + j < (flatV ys).length := by simp at hj2; omega
        have := hc (off * i.sz + j) hj3
        rw [Nat.add_assoc, this]
        congr 1
        have e : (flatV ((ys.drop off).take len))[j]? = (((flatV ys).drop (off * i.sz)).take (len * i.sz))[j]? := by rw [hft]
        rw [List.getElem?_eq_getElem hj, List.getElem?_eq_getElem hj2] at e
        simp only [Option.some.injEq] at e
        rw [e]
        simp
  | _ => simp [slContents] at ho
end
end Go.Vm
end
section
namespace Go.Vm
open Go.RowKit
section
variable {P : Program}
def drewW (w : World) : World := { w with drawn := w.drawn + 1 }
theorem growBy_le {newLen : Nat} : ∀ (r c : Nat), c ≤ newLen → Builtin.growBy newLen r c ≤ newLen + (newLen + 768) / 4
  | 0, c, h => by simp [Builtin.growBy]; omega
  | r + 1, c, h => by
    simp only [Builtin.growBy]
    split
    · omega
    · by_cases h2 : c + (c + 768) / 4 ≤ newLen
      · exact growBy_le r _ h2
      · have : ∀ r, Builtin.growBy newLen r (c + (c + 768) / 4) = c + (c + 768) / 4 := by
          intro r
          cases r with
          | zero => rfl
          | succ r => simp only [Builtin.growBy]; rw [if_pos (by omega)]
        rw [this]; omega
theorem nextcap_le {need old : Nat} (h : old < need) : Builtin.nextslicecap need old ≤ 2 * need + 200 := by
  unfold Builtin.nextslicecap
  split
  · omega
  · split
    · omega
    · have := growBy_le (newLen := need) 4 old (by omega)
      omega
theorem run_firstCells {a : Option Addr} {n len cap size : Nat} {w : World} {O : List Value} (hl : O.length = n * size)
    (h : n = 0 ∨ ∃ b o, a = some ⟨b, o, none⟩ ∧ ∀ j (hj : j < O.length), w.cell? ⟨b, o + j, none⟩ = some O[j]) :
    (Builtin.firstCells size n (.slice a len cap)).run P w = .ok O.toArray w := by
  cases a with
  | none =>
    rcases h with rfl | ⟨b, o, e, _⟩
    · have : O = [] := List.length_eq_zero_iff.1 (by simpa using hl)
      subst this; rfl
    · cases e
  | some a =>
    show (loadCells a (n * size)).run P w = _
    rcases h with rfl | ⟨b, o, e, hc⟩
    · have : O = [] := List.length_eq_zero_iff.1 (by simpa using hl)
      subst this
      rw [Nat.zero_mul]; rfl
    · cases e
      exact run_loadCells hl hc
theorem zeroCells_size {Z : Array Value} {n : Nat} : (Builtin.zeroCells Z n).size = n * Z.size := by simp [Builtin.zeroCells]
theorem run_append {t t2 e e2 ty0 : TypeId} {inf : TypeInfo} {z : Value} {w : World} {a a' : Option Addr} {len cap n cap' : Nat} {O N : List Value}
    (hu : P.underlying t = some (.slice e)) (hu2 : P.underlying t2 = some (.slice e2)) (hi : P.info? e = some inf) (hz : inf.zero = some z) (hzs : z.cells.size = inf.size) (hb : inf.bytes ≤ 16384)
    (hneed : len + n ≤ 4294967296) (hO : O.length = len * inf.size) (hN : N.length = n * inf.size) (hNc : ∀ x ∈ N, isCell x)
    (hold : len = 0 ∨ ∃ b o, a = some ⟨b, o, none⟩ ∧ ∀ j (hj : j < O.length), w.cell? ⟨b, o + j, none⟩ = some O[j])
    (hnew : n = 0 ∨ ∃ b o, a' = some ⟨b, o, none⟩ ∧ ∀ j (hj : j < N.length), w.cell? ⟨b, o + j, none⟩ = some N[j])
    (hroom : cap = 0 ∨ ∃ b o cs T, a = some ⟨b, o, none⟩ ∧ w.heap[b]? = some (.cells cs T (0, 0)) ∧ o + cap * inf.size ≤ cs.size) :
    (len + n ≤ cap ∧ ((n = 0 ∧ (Builtin.append_ #[t, t2] ty0 #[.slice a len cap, .slice a' n cap']).run P w = .ok (.slice a (len + n) cap) w) ∨
        n ≠ 0 ∧ ∃ b o, a = some ⟨b, o, none⟩ ∧ (Builtin.append_ #[t, t2] ty0 #[.slice a len cap, .slice a' n cap']).run P w = .ok (.slice a (len + n) cap) (setCells w b (o + len * inf.size) N))) ∨
    (cap < len + n ∧ ∃ newCap cs, len + n ≤ newCap ∧ (Builtin.append_ #[t, t2] ty0 #[.slice a len cap, .slice a' n cap']).run P w = .ok (.slice (some ⟨w.heap.size, 0, none⟩) (len + n) newCap) ((drewW w).alloc (.cells cs e)) ∧
      cs.size = newCap * inf.size ∧ ∃ rest, cs.toList = O ++ N ++ rest) := by
  have hzeros : ((do pure ((← underlying t2) matches .int _)) : Sem Bool).run P w = .ok false w := by
    rw [run_bind (run_underlying hu2)]; rfl
  have happ := run_firstCells (P := P) (w := w) (cap := cap') (len := n) hN hnew
  by_cases hle : len + n ≤ cap
  · left
    refine ⟨hle, ?_⟩
    by_cases hn0 : n = 0
    · left
      refine ⟨hn0, ?_⟩
      subst hn0
      have hNe : N = [] := List.length_eq_zero_iff.1 (by simpa using hN)
      subst hNe
      unfold Builtin.append_
      simp only [List.getElem?_toArray, List.getElem?_cons_zero, List.getElem?_cons_succ]
      rw [run_bind (run_underlying hu)]
      simp only []
      rw [run_bind (run_sizeOf hi), run_bind (run_underlying hu2), run_bind run_pure]
      simp only [Bool.false_eq_true, if_false, Bool.not_false, if_true]
      rw [run_bind (show (Builtin.lenOf (.slice a' 0 cap')).run P w = .ok 0 w from rfl), if_pos hle, run_bind happ]
      cases a with
      | none => rfl
      | some a =>
        simp only []
        rw [run_bind (show (storeCells (a.add (len * inf.size)) ([] : List Value).toArray.toList).run P w = .ok () w from rfl)]
        rfl
    · right
      obtain ⟨b, o, cs, T, rfl, hh, hro⟩ := hroom.resolve_left (by omega)
      refine ⟨hn0, b, o, rfl, ?_⟩
      unfold Builtin.append_
      simp only [List.getElem?_toArray, List.getElem?_cons_zero, List.getElem?_cons_succ]
      rw [run_bind (run_underlying hu)]
      simp only []
      rw [run_bind (run_sizeOf hi), run_bind (run_underlying hu2), run_bind run_pure]
      simp only [Bool.false_eq_true, if_false, Bool.not_false, if_true]
      rw [run_bind (show (Builtin.lenOf (.slice a' n cap')).run P w = .ok n w from rfl), if_pos hle, run_bind happ]
      simp only [add_none]
      have hfit : (len + n) * inf.size ≤ cap * inf.size := Nat.mul_le_mul_right _ hle
      rw [Nat.add_mul] at hfit
      have := run_storeCells (P := P) (b := b) (o := o + len * inf.size) N w 0 cs T hNc hh (by omega)
      rw [run_bind (by simpa using this)]
      rfl
  · right
    refine ⟨by omega, ?_⟩
    have hold' := run_firstCells (P := P) (w := drewW w) (cap := cap) (len := len) hO hold
    have happ' := run_firstCells (P := P) (w := drewW w) (cap := cap') (len := n) hN hnew
    have hcut := Nat.mod_lt (w.tape w.drawn (.appendCap (len + n) cap e)) (show 0 < 2 ^ 63 - (len + n) by omega)
    generalize hnc : (len + n) + (w.tape w.drawn (.appendCap (len + n) cap e)) % (2 ^ 63 - (len + n)) = newCap
    refine ⟨newCap, O.toArray ++ N.toArray ++ Builtin.zeroCells z.cells (newCap - (len + n)), by omega, ?_, ?_, ⟨(Builtin.zeroCells z.cells (newCap - (len + n))).toList, by simp⟩⟩
    · unfold Builtin.append_
      simp only [List.getElem?_toArray, List.getElem?_cons_zero, List.getElem?_cons_succ]
      rw [run_bind (run_underlying hu)]
      simp only []
      rw [run_bind (run_sizeOf hi), run_bind (run_underlying hu2), run_bind run_pure]
      simp only [Bool.false_eq_true, if_false, Bool.not_false, if_true]
      rw [run_bind (show (Builtin.lenOf (.slice a' n cap')).run P w = .ok n w from rfl), if_neg hle]
      have hcapb : Builtin.nextslicecap (len + n) cap * inf.bytes ≤ 2 ^ 48 := by
        have h1 := nextcap_le (need := len + n) (old := cap) (by omega)
        have h2 : Builtin.nextslicecap (len + n) cap * inf.bytes ≤ (2 * 4294967296 + 200) * 16384 := Nat.mul_le_mul (by omega) hb
        omega
      have hchoose : (choose (.appendCap (len + n) cap e)).run P w = .ok newCap (drewW w) := by
        show (Sem.choose _ _ : Sem Nat).run P w = _
        simp only [Sem.run, Question.forced, Bool.false_eq_true, if_false, Question.cut]
        rw [hnc]; rfl
      have hask : (askRoom (newCap * inf.bytes)).run P (drewW w) = .ok () (drewW w) := by
        unfold askRoom; split <;> rfl
      rw [run_bind (run_typeInfo hi), if_neg (by
        rintro ⟨h1, _⟩
        have : IntKind.i64.max = 9223372036854775807 := by decide
        omega), run_bind (run_typeInfo hi), if_neg (by omega), run_bind hchoose, run_bind (run_typeInfo hi), run_bind hask, run_bind hold', run_bind happ', run_bind (run_zeroValue hi hz), run_bind run_newRow]
      rfl
    · simp only [Array.size_append, List.size_toArray, zeroCells_size, hO, hN, hzs]
      rw [← Nat.add_mul, ← Nat.add_mul]
      congr 1; omega
end
end Go.Vm
end
section
namespace Go.Vm
open Go.RowKit
section
variable {P : Program} {ty : Tys} {c : Ctx} {nx : Nat} {h : Heap} {fz : List Nat}
theorem heap_replace {c' : Ctx} {id : Nat} {i1 : Info} {j : Obj} {h3 : Heap} {fz' : List Nat} (H : HeapOk ty c h fz) (hext : Ext c c') (hμ : c'.μ = updM c.μ nx [i1]) (hI : c'.I = c.I)
    (hold : ∀ b, b < c.w.heap.size → (∀ ob i, get id h = some ob → c.μ id = some i → i.on = true → b ≠ i.b) → c'.w.heap[b]? = c.w.heap[b]?)
    (hO : OR ty c' (has nx fz') i1 j) (hpar : i1.on = true → (∃ ob i, get id h = some ob ∧ c.μ id = some i ∧ i.on = true ∧ i1.b = i.b) ∨ c.w.heap.size ≤ i1.b)
    (hfz : ∀ k, has k fz = true → has k fz' = true) (hnew : get nx h3 = some j) (hrest : ∀ k o, k ≠ nx → get k h3 = some o → get k h = some o ∧ k ≠ id) : HeapOk ty c' h3 fz' := by
  have old : ∀ k i, k ≠ nx → c'.μ k = some i → c.μ k = some i := by
    intro k i hk hi
    rw [hμ] at hi
    unfold updM at hi
    split at hi
    · rename_i hge
      have : k - nx ≠ 0 := by omega
      cases hh : k - nx with
      | zero => exact absurd hh this
      | succ m => rw [hh] at hi; simp at hi
    · exact hi
  have new : ∀ i, c'.μ nx = some i → i = i1 := by
    intro i hi
    rw [hμ] at hi
    simp [updM] at hi
    exact hi.symm
  have keep : ∀ k o i, k ≠ nx → get k h3 = some o → c'.μ k = some i → OR ty c' (has k fz') i o ∧ (i.on = true → i.b < c.w.heap.size) := by
    intro k o i hk hg hi
    obtain ⟨hg, hne⟩ := hrest k o hk hg
    have hi := old k i hk hi
    have hOR := H.hp k o i hg hi
    refine ⟨hOR.keep hext (fun hon => hold _ (hOR.block hon) fun ob i' hg' hi' hon' => H.sep k id o ob i i' hg hg' hi hi' hne hon hon') (hfz k) (fun _ off hh => ?_), fun hon => hOR.block hon⟩
    rw [hI] at hh; exact .inl hh
  have apart : ∀ k o i, k ≠ nx → get k h3 = some o → c'.μ k = some i → i.on = true → i1.on = true → i.b ≠ i1.b := by
    intro k o i hk hg hi hon hon1
    have hlt := (keep k o i hk hg hi).2 hon
    obtain ⟨hg, hne⟩ := hrest k o hk hg
    rcases hpar hon1 with ⟨ob, i', hg', hi', hon', hb⟩ | hge
    · rw [hb]; exact H.sep k id o ob i i' hg hg' (old k i hk hi) hi' hne hon hon'
    · omega
  refine ⟨fun k o i hg hi => ?_, fun k k' o o' i i' hg hg' hi hi' hne hon hon' => ?_, fun b o hh => ?_⟩
  · by_cases hk : k = nx
    · subst hk
      rw [hnew] at hg; cases hg
      rw [new i hi]; exact hO
    · exact (keep k o i hk hg hi).1
  · by_cases hk : k = nx
    · subst hk
      have e := new i hi
      subst e
      exact (apart k' o' i' (Ne.symm hne) hg' hi' hon' hon).symm
    · by_cases hk' : k' = nx
      · subst hk'
        have e := new i' hi'
        subst e
        exact apart k o i hk hg hi hon hon'
      · exact H.sep k k' o o' i i' (hrest k o hk hg).1 (hrest k' o' hk' hg').1 (old k i hk hi) (old k' i' hk' hi') hne hon hon'
  · rw [hI] at hh
    exact Nat.lt_of_lt_of_le (H.ib b o hh) hext.below.size
theorem append_core (hT : TyOk P ty) (H : HeapOk ty c h fz) (hf : ∀ id, nx ≤ id → c.μ id = none) (hbase : Room c) {t t2 e e2 ty0 : TypeId} (hu : P.underlying t = some (.slice e)) (hu2 : P.underlying t2 = some (.slice e2))
    {ei : TyI} (hei : tyAt ty e = some ei) (hn : ei.leaves ≠ []) (hby : ei.bytes ≤ 16384)
    {id : Nat} {i0 : Info} {o0 ox j : Obj} {f : Bool} {ys0 ysx : List Value} {a' : Option Addr} {cap' : Nat}
    (hE0 : EltsR ty c o0 ei.leaves.length ys0) (ha0 : ArrOk c f i0 ei.leaves.length o0.len) (hc0 : ∀ k (hk : k < (flatV ys0).length), c.w.cell? ⟨i0.b, i0.o + k, none⟩ = some (flatV ys0)[k])
    (hpar : i0.on = true → ∃ ob i, get id h = some ob ∧ c.μ id = some i ∧ i.on = true ∧ i0.b = i.b)
    (hEx : EltsR ty c ox ei.leaves.length ysx) (hcx : ox.len = 0 ∨ ∃ b off, a' = some ⟨b, off, none⟩ ∧ ∀ k (hk : k < (flatV ysx).length), c.w.cell? ⟨b, off + k, none⟩ = some (flatV ysx)[k])
    (hj : joinObj o0 ox = some j) (hlim : j.len ≤ 4294967296)
    {h3 : Heap} {fz' : List Nat} (hfz : ∀ k, has k fz = true → has k fz' = true) (hff : f = true → has nx fz' = true) (hnew : get nx h3 = some j) (hrest : ∀ k o, k ≠ nx → get k h3 = some o → get k h = some o ∧ k ≠ id) :
    ∃ c' x, (Builtin.append_ #[t, t2] ty0 #[.slice i0.a i0.len i0.cap, .slice a' ox.len cap']).run P c.w = .ok x c'.w ∧ Ext c c' ∧ HeapOk ty c' h3 fz' ∧ (∀ k, nx + 1 ≤ k → c'.μ k = none) ∧ VR ty c' (.own nx) x := by
  obtain ⟨inf, hinf, hsz, hbytes, z, hz, hzc⟩ := hT.info e ei hei hn
  have hzs : z.cells.size = inf.size := by rw [← Array.length_toList, hzc, hsz]; simp
  obtain ⟨_, hEj, hjl⟩ := hE0.join hEx hj
  have hfl0 := hE0.flat_length
  have hflx := hEx.flat_length
  obtain ⟨hs1, hs2, hs3, hs4, hoff, hon'⟩ := ha0
  have hfresh : ∀ (w : World) (i1 : Info) k, nx + 1 ≤ k → updM c.μ nx [i1] k = none := by
    intro w i1 k hk
    simp only [updM]
    rw [if_neg (by simp; omega)]
    exact hf k (by omega)
  have hmul : i0.len * ei.leaves.length = o0.len * ei.leaves.length := by rw [hs3]
  have hflat : flatV (ys0 ++ ysx) = flatV ys0 ++ flatV ysx := by unfold flatV; simp
  have hrun := run_append (P := P) (w := c.w) (t := t) (t2 := t2) (ty0 := ty0) (a := i0.a) (a' := a') (len := i0.len) (cap := i0.cap) (n := ox.len) (cap' := cap') (O := flatV ys0) (N := flatV ysx)
    hu hu2 hinf hz hzs (by omega) (by omega) (by rw [hfl0, hsz, hs3]) (by rw [hflx, hsz]) hEx.cells
    (by
      by_cases hz : i0.len = 0
      · exact .inl hz
      · right
        have hon : i0.on = true := by
          cases hh : i0.on with
          | true => rfl
          | false => have := hoff hh; omega
        exact ⟨i0.b, i0.o, (hon' hon).1, hc0⟩)
    hcx
    (by
      by_cases hz : i0.cap = 0
      · exact .inl hz
      · right
        have hon : i0.on = true := by
          cases hh : i0.on with
          | true => rfl
          | false => exact absurd (hoff hh) hz
        obtain ⟨haa, cs, T, hh, hroom, _⟩ := hon' hon
        exact ⟨i0.b, i0.o, cs, T, haa, hh, by rw [hsz, ← hs1]; exact hroom⟩)
  rcases hrun with ⟨hle, hin⟩ | ⟨hgt, newCap, cs, hnc, hrun, hcs, rest, hcl⟩
  · rcases hin with ⟨hn0, hrun⟩ | ⟨hn0, b, off, haa, hrun⟩
    ·
      let i1 : Info := { i0 with len := i0.len + ox.len }
      have hext : Ext c (newCtx c nx c.w [i1]) := newCtx_ext_same (fun id h _ => hf id h)
      refine ⟨newCtx c nx c.w [i1], _, hrun, hext, heap_replace (id := id) H hext rfl rfl (fun _ _ _ => rfl) ?_ ?_ hfz hnew hrest, hfresh c.w i1, by simp only [VR]; exact ⟨i1, by simp [newCtx, updM], rfl⟩⟩
      · refine OR.keep (c := newCtx c nx c.w [i1]) (f := f) (Ext.refl _) (fun _ => rfl) hff (fun _ _ hI => .inl hI) (elts_OR (ys := ys0 ++ ysx) (sz := ei.leaves.length) (hEj.mono hext) ⟨hs1, hs2, by show i0.len + ox.len = j.len; omega, hle, hoff, fun hon => ?_⟩ fun k hk => ?_)
        · obtain ⟨g1, g2⟩ := hon' hon
          refine ⟨g1, ?_⟩
          obtain ⟨cs, T, q1, q2, q3, q4⟩ := g2
          have hlen1 : i1.len = i0.len := by show i0.len + ox.len = _; omega
          have hz1 : fzn f i1 = fzn f i0 := by unfold fzn; rw [hlen1]
          exact ⟨cs, T, q1, q2, q3, fun k hk1 hk2 => q4 k (by rw [← hz1]; exact hk1) hk2⟩
        · have hx0 : flatV ysx = [] := List.length_eq_zero_iff.1 (by rw [hflx, hn0]; simp)
          have hk' : k < (flatV ys0).length := by rw [hflat, hx0] at hk; simpa using hk
          have := hc0 k hk'
          show c.w.cell? _ = _
          rw [this]
          congr 1
          simp [hflat, hx0]
      · intro hon
        obtain ⟨ob, i, g1, g2, g3, g4⟩ := hpar hon
        exact .inl ⟨ob, i, g1, g2, g3, g4⟩
    ·
      have hon : i0.on = true := by
        cases hh : i0.on with
        | true => rfl
        | false => have := hoff hh; omega
      obtain ⟨haa', cs, T, hh, hroom, hb, hnI⟩ := hon' hon
      rw [haa'] at haa
      cases haa
      let i1 : Info := { i0 with len := i0.len + ox.len }
      have hnl : (i0.len + ox.len) * ei.leaves.length ≤ i0.cap * ei.leaves.length := Nat.mul_le_mul_right _ hle
      rw [Nat.add_mul] at hnl
      rw [hs1] at hroom hnI
      have hfzle : fzn f i0 ≤ i0.len * ei.leaves.length := by unfold fzn; rw [hs1]; split <;> omega
      have hext1 : Ext c (setCtx c i0.b (i0.o + i0.len * inf.size) (flatV ysx)) := set_ext hb (fun k hk hI => by
        rw [hsz] at hI
        exact hnI (i0.len * ei.leaves.length + k) (by omega) (by omega) (by rw [← Nat.add_assoc]; exact hI))
      have hext2 : Ext (setCtx c i0.b (i0.o + i0.len * inf.size) (flatV ysx)) (newCtx (setCtx c i0.b (i0.o + i0.len * inf.size) (flatV ysx)) nx (setCtx c i0.b (i0.o + i0.len * inf.size) (flatV ysx)).w [i1]) := newCtx_ext_same (fun id h _ => hf id h)
      have hext := hext1.trans hext2
      refine ⟨_, _, hrun, hext, heap_replace (id := id) H hext rfl rfl ?_ ?_ ?_ hfz hnew hrest, hfresh c.w i1, by simp only [VR]; exact ⟨i1, by simp [newCtx, updM, setCtx], rfl⟩⟩
      · intro b' hb' hne
        obtain ⟨ob, i, g1, g2, g3, g4⟩ := hpar hon
        exact setCells_heap_other _ _ _ _ _ (by rw [g4]; exact hne ob i g1 g2 g3)
      · refine OR.keep (f := f) (Ext.refl _) (fun _ => rfl) hff (fun _ _ hI => .inl hI) (elts_OR (ys := ys0 ++ ysx) (sz := ei.leaves.length) (hEj.mono hext) ⟨hs1, hs2, by show i0.len + ox.len = j.len; omega, hle, hoff, fun _ => ⟨haa', ?_⟩⟩ fun k hk => ?_)
        · have := set_blk (c := c) (o0 := i0.o + i0.len * inf.size) (xs := flatV ysx) (⟨cs, T, hh, hroom, hb, hnI⟩ : BlkOk c i0 (i0.cap * ei.leaves.length) (fzn f i0))
          obtain ⟨cs', T', q1, q2, q3, q4⟩ := this
          refine ⟨cs', T', q1, by show i0.o + i0.cap * i0.sz ≤ _; rw [hs1]; exact q2, q3, fun k hk1 hk2 => q4 k ?_ (by show k < _; have : k < i0.cap * i0.sz := hk2; rw [hs1] at this; exact this)⟩
          have : fzn f i0 ≤ fzn f i1 := by
            unfold fzn
            split
            · exact Nat.mul_le_mul_right _ (by show i0.len ≤ i0.len + ox.len; omega)
            · exact Nat.le_refl _
          omega
        · have hsc := set_cell (c := c) (b := i0.b) (o0 := i0.o + i0.len * inf.size) (o := i0.o + k) (xs := flatV ysx) hh (by rw [hflx, hsz]; omega)
          show (setCtx c i0.b (i0.o + i0.len * inf.size) (flatV ysx)).w.cell? ⟨i0.b, i0.o + k, none⟩ = _
          rw [hsc]
          have hk2 : k < (flatV ys0 ++ flatV ysx).length := by rw [← hflat]; exact hk
          have hke : (flatV (ys0 ++ ysx))[k] = (flatV ys0 ++ flatV ysx)[k] := by simp only [hflat]
          rw [hke, List.getElem_append]
          by_cases hlt : k < (flatV ys0).length
          · rw [dif_neg (by rw [hsz]; omega), dif_pos hlt]
            exact hc0 k hlt
          · rw [dif_pos ⟨by rw [hsz]; omega, by rw [hsz]; simp at hk2; omega⟩, dif_neg hlt]
            congr 1
            simp only [show i0.o + k - (i0.o + i0.len * inf.size) = k - (flatV ys0).length from by rw [hsz]; omega]
      · intro hon
        obtain ⟨ob, i, g1, g2, g3, g4⟩ := hpar hon
        exact .inl ⟨ob, i, g1, g2, g3, g4⟩
  ·
    let i1 : Info := { a := some ⟨c.w.heap.size, 0, none⟩, len := i0.len + ox.len, cap := newCap, on := true, b := c.w.heap.size, o := 0, sz := ei.leaves.length }
    have hext : Ext c (newCtx c nx ((drewW c.w).alloc (.cells cs e)) [i1]) := by
      have h1 : Ext c { w := drewW c.w, base := c.base, F := c.F, I := c.I, μ := c.μ } := ⟨rfl, rfl, (Below.refl _ _).drew, fun _ _ _ => rfl, fun _ _ h => h, fun _ _ h => .inl h, fun _ _ _ => rfl, fun _ _ h => h⟩
      exact h1.trans (newCtx_ext_alloc (c := { w := drewW c.w, base := c.base, F := c.F, I := c.I, μ := c.μ }) (fun id h _ => hf id h) hbase H.ib)
    have hnewcell : ∀ k (hk : k < cs.size), (newCtx c nx ((drewW c.w).alloc (.cells cs e)) [i1]).w.cell? ⟨c.w.heap.size, k, none⟩ = some cs[k] := fun k hk => cell_of (w := (drewW c.w).alloc (.cells cs e)) (alloc_new (w := drewW c.w)) hk
    refine ⟨_, _, hrun, hext, heap_replace (id := id) H hext rfl rfl (fun b hb _ => alloc_old (w := drewW c.w) hb) ?_ (fun _ => .inr (Nat.le_refl _)) hfz hnew hrest, hfresh c.w i1, by simp only [VR]; exact ⟨i1, by simp [newCtx, updM], rfl⟩⟩
    refine OR.weaken (elts_OR (ys := ys0 ++ ysx) (sz := ei.leaves.length) (hEj.mono hext) ⟨rfl, hs2, by show i0.len + ox.len = j.len; omega, hnc, fun hh => (by cases hh), fun _ => ⟨rfl, cs, e, alloc_new (w := drewW c.w), ?_, hbase.mine, fun k _ _ hI => ?_⟩⟩ fun k hk => ?_)
    · show 0 + newCap * ei.leaves.length ≤ cs.size
      rw [hcs, hsz]; omega
    · have := H.ib _ _ hI
      simp [i1] at this
    · have hk2 : k < (flatV ys0 ++ flatV ysx).length := by rw [← hflat]; exact hk
      have hkc : k < cs.size := by
        rw [← Array.length_toList, hcl]
        simp at hk2 ⊢
        omega
      have := hnewcell k hkc
      show (newCtx c nx ((drewW c.w).alloc (.cells cs e)) [i1]).w.cell? ⟨c.w.heap.size, 0 + k, none⟩ = _
      rw [Nat.zero_add, this]
      congr 1
      have e1 : cs.toList[k]? = (flatV ys0 ++ flatV ysx)[k]? := by rw [hcl, List.getElem?_append_left hk2]
      rw [List.getElem?_eq_getElem hk2, List.getElem?_eq_getElem (by simpa using hkc)] at e1
      simp only [Option.some.injEq, Array.getElem_toList] at e1
      rw [e1]
      simp only [hflat]
end
end Go.Vm
end
section
namespace Go.Vm
open Go.RowKit
section
variable {P : Program} {ty : Tys} {c : Ctx}
theorem fit_fixed {e : TypeId} {o : Obj} (h : fitE ty e o = true) (t : Tag) : ∃ v, o.fixed t = some v := by
  cases o with
  | ints k l => exact ⟨_, rfl⟩
  | bools l => exact ⟨_, rfl⟩
  | vals e l => exact ⟨_, rfl⟩
  | cells l => unfold fitE at h; split at h <;> simp_all
  | map _ _ _ _ => unfold fitE at h; split at h <;> simp_all
theorem EltsR.sz_fit {e : TypeId} {o : Obj} {sz : Nat} {ys : List Value} {ei : TyI} (hf : fitE ty e o = true) (hei : tyAt ty e = some ei) (h : EltsR ty c o sz ys) : sz = ei.leaves.length := by
  obtain ⟨_, _, _, h4⟩ := h
  cases o with
  | ints k l =>
    obtain ⟨ei', he', _, h1, _⟩ := shOf_one (fit_ints hf) (by simp)
    rw [hei] at he'; cases he'
    omega
  | bools l =>
    obtain ⟨ei', he', _, h1, _⟩ := shOf_one (fit_bools hf) (by simp)
    rw [hei] at he'; cases he'
    omega
  | vals e' l =>
    obtain ⟨_, rfl⟩ := fit_vals hf
    obtain ⟨ei', g1, _, g3, _⟩ := h4
    rw [hei] at g1; cases g1
    exact g3
  | cells l => exact h4.elim
  | map _ _ _ _ => exact h4.elim
theorem join_fit {e : TypeId} {o o' j : Obj} (hf : fitE ty e o' = true) (hj : joinObj o o' = some j) : fitE ty e o = true := by
  cases o <;> cases o' <;> simp [joinObj] at hj
  · rename_i k l k' l'
    cases hk : IntKind.same k k'
    · rw [hk] at hj; simp at hj
    · obtain rfl := same_eq hk
      unfold fitE; rw [fit_ints hf]; exact same_refl k
  · unfold fitE; rw [fit_bools hf]
  · rename_i e1 l e2 l'
    cases hk : Nat.beq e1 e2
    · rw [hk] at hj; simp at hj
    · obtain rfl := beq_true.1 hk
      obtain ⟨g1, rfl⟩ := fit_vals hf
      unfold fitE; rw [g1]; exact beq_true.2 rfl
theorem okL_iff {n : Nat} : okL n = true ↔ n ≤ 4294967296 := by unfold okL lim; simp
def nilObj : Obj → Obj
  | .ints k _ => .ints k []
  | .bools _ => .bools []
  | .vals e _ => .vals e []
  | o => o
theorem append_sound (hT : TyOk P ty) {st : St} (H : HeapOk ty c st.h st.fz) (hf : ∀ id, st.nx ≤ id → c.μ id = none) (hbase : Room c) {t t2 e2 ty0 : TypeId} (h2 : slElem ty t2 = some e2)
    {s x : V} {vs vx : Value} {b : Bk} (hr : appendV ty st t s x = some b) (hok : b.ok = true) (hs : VR ty c s vs) (hx : VR ty c x vx) :
    ∃ c' y, (Builtin.append_ #[t, t2] ty0 #[vs, vx]).run P c.w = .ok y c'.w ∧ BkOk ty c c' st b.st ∧ VR ty c' b.v y := by
  have hu2 := hT.sl t2 e2 h2
  unfold appendV at hr
  split at hr
  case h_2 => simp at hr
  rename_i e he
  have hu := hT.sl t e he
  split at hr
  case h_2 => simp at hr
  rename_i cx hck hcx
  cases hei : tyAt ty e with
  | none => rw [hei] at hck; simp at hck
  | some ei =>
  rw [hei] at hck
  simp only [Option.map_some, Option.some.injEq, Bool.and_eq_true, Nat.ble_eq] at hck
  have hn : ei.leaves ≠ [] := by intro e; rw [e] at hck; simp at hck
  cases hfit : fitE ty e cx
  · rw [hfit] at hr; simp [notB] at hr
  rw [hfit] at hr
  simp only [notB, Bool.not_true, cond_false] at hr
  obtain ⟨vfx, hvfx⟩ := fit_fixed hfit .frz
  obtain ⟨a', cap', szx, ysx, rfl, hEx, hcellx⟩ := contents_cells H hx hcx hvfx
  have hszx := hEx.sz_fit hfit hei
  subst hszx
  have core : ∀ (id : Nat) (i0 : Info) (o0 j : Obj) (f : Bool) (ys0 : List Value) (h3 : Heap) (fz' : List Nat), EltsR ty c o0 ei.leaves.length ys0 → ArrOk c f i0 ei.leaves.length o0.len →
      (∀ k (hk : k < (flatV ys0).length), c.w.cell? ⟨i0.b, i0.o + k, none⟩ = some (flatV ys0)[k]) → (i0.on = true → ∃ ob i, get id st.h = some ob ∧ c.μ id = some i ∧ i.on = true ∧ i0.b = i.b) →
      joinObj o0 cx = some j → okL j.len = true → (∀ k, has k st.fz = true → has k fz' = true) → (f = true → has st.nx fz' = true) → get st.nx h3 = some j →
      (∀ k o, k ≠ st.nx → get k h3 = some o → get k st.h = some o ∧ k ≠ id) → vs = .slice i0.a i0.len i0.cap →
      ∃ c' y, (Builtin.append_ #[t, t2] ty0 #[vs, .slice a' cx.len cap']).run P c.w = .ok y c'.w ∧ BkOk ty c c' st { st with h := h3, nx := st.nx + 1, fz := fz' } ∧ VR ty c' (.own st.nx) y := by
    intro id i0 o0 j f ys0 h3 fz' g1 g2 g3 g4 g5 g6 g7 g8 g9 g10 g11
    obtain ⟨c', y, q1, q2, q3, q4, q5⟩ := append_core (ty0 := ty0) (cap' := cap') hT H hf hbase hu hu2 hei hn hck.1 g1 g2 g3 g4 hEx hcellx g5 (okL_iff.1 g6) g7 g8 g9 g10
    rw [g11]
    exact ⟨c', y, q1, ⟨q2, q3, q4, Nat.le_succ _, rfl, rfl⟩, q5⟩
  split at hr
  ·
    rename_i id
    split at hr
    case h_2 => simp at hr
    rename_i o ho
    cases hj : joinObj o cx with
    | none => rw [hj] at hr; simp at hr
    | some j =>
      rw [hj] at hr
      simp at hr
      subst hr
      have hfit0 := join_fit hfit hj
      obtain ⟨vf0, hvf0⟩ := fit_fixed hfit0 .frz
      simp only [VR] at hs
      obtain ⟨i, hi, rfl⟩ := hs
      obtain ⟨ys0, hE0, ha0, hc0⟩ := OR_elts hvf0 (H.hp id o i ho hi)
      have hs0 := hE0.sz_fit hfit0 hei
      rw [hs0] at hE0 ha0
      have hid : id ≠ st.nx := by
        rintro rfl
        rw [hf _ (Nat.le_refl _)] at hi; cases hi
      refine core id i o j (has id st.fz) ys0 _ _ hE0 ha0 hc0 (fun hon => ⟨o, i, ho, hi, hon, rfl⟩) hj hok ?_ ?_ (get_ins_same _ _ _) ?_ rfl
      · intro k hk
        cases hh : has id st.fz
        · exact hk
        · simp only [cond_true]
          exact has_mem.2 (List.mem_cons_of_mem _ (has_mem.1 hk))
      · intro hh
        rw [hh]
        exact has_mem.2 (by simp)
      · intro k o' hk hg
        rw [get_ins_other _ hk] at hg
        by_cases hkid : k = id
        · subst hkid
          rw [get_del_same] at hg; cases hg
        · rw [get_del_other hkid] at hg
          exact ⟨hg, hkid⟩
  ·
    rename_i id off len
    cases hfz : has id st.fz
    case true => rw [hfz] at hr; simp at hr
    rw [hfz] at hr
    simp only [cond_false] at hr
    split at hr
    case h_2 => simp at hr
    rename_i o ho
    cases hj : joinObj o cx with
    | none => rw [hj] at hr; simp at hr
    | some j =>
      rw [hj] at hr
      simp at hr
      subst hr
      have hfit0 := join_fit hfit hj
      have hs' := hs
      simp only [VR] at hs
      obtain ⟨i, a, cap, hi, rfl, hle, hlc, hcap, hpl⟩ := hs
      cases hg : get id st.h with
      | none => simp [slContents, hg] at ho
      | some ob =>
        simp only [slContents, hg] at ho
        have hob : ∃ w, ob.fixed .frz = some w := by
          cases ob <;> simp at ho <;> exact ⟨_, rfl⟩
        obtain ⟨w, hw⟩ := hob
        have hOR := H.hp id ob i hg hi
        obtain ⟨ys, hE, ha, hc⟩ := OR_elts hw hOR
        have hlen3 := ha.2.2.1
        obtain ⟨hE', hlen'⟩ := hE.part (off := off) (len := len) (by omega) (o' := o) (by cases ob <;> simp at ho ⊢ <;> exact ho)
        have hs0 := hE'.sz_fit hfit0 hei
        obtain ⟨q1, q2, q3, q4, q5, q6⟩ := ha
        let i0 : Info := { a := a, len := len, cap := cap, on := (decide (cap ≠ 0)) && i.on, b := i.b, o := i.o + off * i.sz, sz := i.sz }
        rw [hs0] at hE'
        refine core id i0 o j false ((ys.drop off).take len) _ st.fz hE' ⟨hs0, by omega, hlen'.symm, hlc, fun hh => ?_, fun hh => ?_⟩ ?_ (fun hh => ?_) hj hok (fun _ h => h) (fun h => by cases h) (get_ins_same _ _ _) ?_ rfl
        · show cap = 0
          simp only [i0, Bool.and_eq_false_iff, decide_eq_false_iff_not, ne_eq, Decidable.not_not] at hh
          rcases hh with hh | hh
          · exact hh
          · rcases hpl with hpl | hpl
            · exact hpl
            · rw [hpl.1] at hh; cases hh
        · simp only [i0, Bool.and_eq_true, decide_eq_true_eq] at hh
          obtain ⟨_, haa⟩ := hpl.resolve_left hh.1
          obtain ⟨_, cs, T, p1, p2, p3, p4⟩ := q6 hh.2
          rw [hfz] at p4
          have hmul : off * i.sz + cap * i.sz = i.cap * i.sz := by rw [← Nat.add_mul, hcap]
          exact ⟨haa, cs, T, p1, by show i.o + off * i.sz + cap * i.sz ≤ _; omega, p3, fun k _ hk hI => p4 (off * i.sz + k) (by simp [fzn]) (by have : k < cap * i.sz := hk; omega) (by rw [← Nat.add_assoc]; exact hI)⟩
        · intro k hk
          have hft := flatV_drop_take ys off len hE.sizes
          have hk2 : k < (((flatV ys).drop (off * i.sz)).take (len * i.sz)).length := by rw [← hft]; exact hk
          have hk3 : off * i.sz + k < (flatV ys).length := by simp at hk2; omega
          show c.w.cell? ⟨i.b, i.o + off * i.sz + k, none⟩ = _
          rw [Nat.add_assoc, hc _ hk3]
          congr 1
          have e : (flatV ((ys.drop off).take len))[k]? = (((flatV ys).drop (off * i.sz)).take (len * i.sz))[k]? := by rw [hft]
          rw [List.getElem?_eq_getElem hk, List.getElem?_eq_getElem hk2] at e
          simp only [Option.some.injEq] at e
          rw [e]; simp
        · simp only [i0, Bool.and_eq_true, decide_eq_true_eq] at hh
          exact ⟨ob, i, hg, hi, hh.2, rfl⟩
        · intro k o' hk hg'
          rw [get_ins_other _ hk] at hg'
          by_cases hkid : k = id
          · subst hkid
            rw [get_del_same] at hg'; cases hg'
          · rw [get_del_other hkid] at hg'
            exact ⟨hg', hkid⟩
  ·
    simp at hr
    subst hr
    simp only [VR] at hs
    have hnil : joinObj (nilObj cx) cx = some cx ∧ (nilObj cx).len = 0 ∧ EltsR ty c (nilObj cx) ei.leaves.length [] := by
      have h3 := hEx.2.2.1
      cases cx with
      | ints k l => exact ⟨by simp [nilObj, joinObj, same_refl], rfl, rfl, by simp, h3, hEx.2.2.2.1, rfl⟩
      | bools l => exact ⟨by simp [nilObj, joinObj], rfl, rfl, by simp, h3, hEx.2.2.2.1, rfl⟩
      | vals e' l =>
        obtain ⟨ei', g1, g2, g3, g4, g5⟩ := hEx.2.2.2
        exact ⟨by simp [nilObj, joinObj], rfl, rfl, by simp, h3, ei', g1, g2, g3, by simp [], fun j hj => absurd hj (by simp)⟩
      | cells l => simp [Obj.fixed] at hvfx
      | map _ _ _ _ => simp [Obj.fixed] at hvfx
    obtain ⟨n1, n2, n3⟩ := hnil
    refine core st.nx (nilInfo ei.leaves.length) (nilObj cx) cx false [] _ st.fz n3 ⟨rfl, List.length_pos_iff.2 hn, n2.symm, by simp [nilInfo], fun _ => rfl, fun hh => by simp [nilInfo] at hh⟩ (fun k hk => by simp [flatV] at hk) (fun hh => by simp [nilInfo] at hh)
      n1 hok (fun _ h => h) (fun h => by cases h) (get_ins_same _ _ _) (fun k o hk hg => ⟨by rw [get_ins_other _ hk] at hg; exact hg, hk⟩) hs
  · simp at hr
end
end Go.Vm
end
section
namespace Go.Vm
open Go.RowKit
structure Rel (ty : Tys) (n : Nat) (c : Ctx) (st : St) (a : Act) : Prop where
  tm : ∀ t v, get t st.t = some v → ∃ x, a.tmps[t]? = some x ∧ VR ty c v x
  hp : HeapOk ty c st.h st.fz
  fresh : ∀ id, st.nx ≤ id → c.μ id = none
  lo : st.lo ≤ st.nx
  defers : a.defers = []
  size : a.tmps.size = n
  base : Room c
def tupX : List Value → Value
  | [x] => x
  | l => .tuple l.toArray
structure PureOk (ty : Tys) (c0 c1 : Ctx) (xs : List Value) (r : List V) : Prop where
  ext : Ext c0 c1
  ex : ∃ h fz vs, HeapOk ty c1 h fz ∧ LR ty c1 vs xs ∧ expRes h fz vs = some r ∧ once (ownIds (vs.flatMap V.flat)) = true
structure CallsOk (P : Program) (E : Env) (C : Calls) : Prop where
  pure : ∀ (R : Type) f as (k : List V → Option R) r0, C.pure R f as k = some r0 → ∃ r, k r = some r0 ∧ ∀ (w : World) (I : Nat → Nat → Prop) (vs : List Value), (∀ b o, I b o → b < w.heap.size) →
    LR E.ty { w, base := w.heap.size, F := fun _ => False, I, μ := fun _ => none } as vs →
    Go.Calls P f vs.toArray w fun e w' => ∃ c1 xs, e = .returned (tupX xs) ∧ c1.w = w' ∧ PureOk E.ty { w, base := w.heap.size, F := fun _ => False, I, μ := fun _ => none } c1 xs r
  inl : ∀ (R : Type) f as st (k : List V → St → Option R) r, C.inl R f as st k = some r → ∀ (c : Ctx) (vs : List Value), HeapOk E.ty c st.h st.fz → (∀ id, st.nx ≤ id → c.μ id = none) → Room c → st.lo ≤ st.nx →
    LR E.ty c as vs → Go.Calls P f vs.toArray c.w fun e w' => ∃ c' st' ws xs, e = .returned (tupX xs) ∧ c'.w = w' ∧ Ext c c' ∧ HeapOk E.ty c' st'.h st'.fz ∧ (∀ id, st'.nx ≤ id → c'.μ id = none) ∧ st'.t = st.t ∧ st'.lo = st.lo ∧ st.nx ≤ st'.nx ∧
      LR E.ty c' ws xs ∧ k ws st' = some r
  fn : ∀ f fn, E.fn f = some fn → P.funcs[f]? = some fn ∧ (fn.name == "runtime.NumGoroutine") = false ∧ fn.body.isNone = false
  pureFn : ∀ (R : Type) f as (k : List V → Option R) r, C.pure R f as k = some r → ∃ fn, E.fn f = some fn
  inlFn : ∀ (R : Type) f as st (k : List V → St → Option R) r, C.inl R f as st k = some r → ∃ fn, E.fn f = some fn
section
variable {P : Program} {ty : Tys} {c : Ctx} {n : Nat} {st : St} {a : Act}
theorem ofConst_ok {x : Value} {v : V} (h : ofConst x = some v) : VR ty c v x := by
  unfold ofConst at h
  split at h <;> simp at h <;> subst h <;> simp only [VR]
theorem Rel.eval (R : Rel ty n c st a) : ∀ o v, evalO st.t o = some v → VR ty c v (a.eval o) := by
  intro o v h
  cases o with
  | tmp t =>
    obtain ⟨x, hx, hv⟩ := R.tm t v h
    show VR ty c v (a.tmps.getD t Go.undef)
    rw [Array.getD_eq_getD_getElem?, hx]
    exact hv
  | const x => exact ofConst_ok h
  | global g => simp [evalO] at h
  | func f =>
    simp [evalO] at h
    subst h
    simp only [VR]
    exact ⟨#[], #[], rfl, by simp [LR], by simp [LR]⟩
theorem Rel.evalAll (R : Rel ty n c st a) : ∀ (os : List Operand) (l : List V), evalAll st.t os = some l → LR ty c l (os.map a.eval)
  | [], l, h => by simp [Vm.evalAll] at h; subst h; simp [LR]
  | o :: r, l, h => by
    simp only [Vm.evalAll] at h
    split at h
    · rename_i v s hv hs
      simp at h; subst h
      simp only [List.map_cons, LR]
      exact ⟨_, _, rfl, R.eval o v hv, Rel.evalAll R r s hs⟩
    · simp at h
theorem Rel.step (R : Rel ty n c st a) {c' : Ctx} {st' : St} {dst : Option Nat} {v : V} {x : Value} (hext : Ext c c') (hp : HeapOk ty c' st'.h st'.fz) (hf : ∀ id, st'.nx ≤ id → c'.μ id = none) (hnx : st.nx ≤ st'.nx)
    (hlo : st'.lo = st.lo) (ht : st'.t = setT dst v st.t) (hv : VR ty c' v x) (hd : ∀ d, dst = some d → d < n) : Rel ty n c' st' (a.put dst x) where
  tm := by
    intro t u hu
    rw [ht] at hu
    cases dst with
    | none =>
      obtain ⟨y, hy, hyv⟩ := R.tm t u hu
      exact ⟨y, hy, hyv.mono hext⟩
    | some d =>
      simp only [setT] at hu
      by_cases htd : t = d
      · subst htd
        rw [get_ins_same] at hu; cases hu
        refine ⟨x, ?_, hv⟩
        simp only [Act.put, Array.getElem?_setIfInBounds_self, R.size]
        rw [if_pos (hd t rfl)]
      · rw [get_ins_other _ htd] at hu
        obtain ⟨y, hy, hyv⟩ := R.tm t u hu
        refine ⟨y, ?_, hyv.mono hext⟩
        simp only [Act.put, Array.getElem?_setIfInBounds_ne (Ne.symm htd)]
        exact hy
  hp := hp
  fresh := hf
  lo := by rw [hlo]; exact Nat.le_trans R.lo hnx
  defers := by cases dst <;> exact R.defers
  size := by cases dst <;> simp [Act.put, R.size]
  base := R.base.mono hext
theorem Rel.front (R : Rel ty n c st a) {r : Res} {c' : Ctx} {x : Value} {dst : Option Nat} (hF : FrontOk ty c st.h st.nx r c' x) (hd : ∀ d, dst = some d → d < n) : Rel ty n c' (withRes dst r st) (a.put dst x) := by
  obtain ⟨is, hlen, hμ, _⟩ := hF.infos
  refine R.step (dst := dst) hF.ext ?_ ?_ (Nat.le_add_right _ _) rfl rfl hF.vr hd
  · refine heap_front (h2 := st.h) (fz2 := st.fz) R.hp (fun _ _ h => h) hF (fun k hk => ?_) (fun id hid => ?_) (fun id hid => List.mem_append.2 hid)
    · show get _ (addObjs _ _ _) = _
      rw [get_addObjs, if_pos ⟨by omega, by omega⟩]
      simp [hk]
    · show get _ (addObjs _ _ _) = _
      rw [get_addObjs, if_neg (by omega)]
  · intro id hid
    have hid' : st.nx + r.objs.length ≤ id := hid
    rw [hμ]
    simp only [updM]
    rw [if_neg (by omega)]
    exact R.fresh id (by omega)
theorem Rel.back (R : Rel ty n c st a) {st' : St} {c' : Ctx} {v : V} {x : Value} {dst : Option Nat} (hB : BkOk ty c c' st st') (hv : VR ty c' v x) (hd : ∀ d, dst = some d → d < n) :
    Rel ty n c' { st' with t := setT dst v st'.t } (a.put dst x) :=
  R.step (dst := dst) hB.ext hB.hp hB.fresh hB.nx hB.lo (by rw [hB.t]) hv hd
theorem upon_value {o : Oper} {s : Sem Next} {w w' : World} {x : Value} {next : Act → World → Prop} {Q : Exit → Act → World → Prop} (hs : execOp a.eval o = s) (h : s.run P w = .ok (.value x) w') (hn : next (a.put o.dst x) w') :
    o.wp P a w next Q := by
  unfold Oper.wp
  rw [hs, h]
  exact hn
theorem upon_skip {o : Oper} {s : Sem Next} {w w' : World} {next : Act → World → Prop} {Q : Exit → Act → World → Prop} (hs : execOp a.eval o = s) (h : s.run P w = .ok .skip w') (hn : next (a.put o.dst Go.undef) w') :
    o.wp P a w next Q := by
  unfold Oper.wp
  rw [hs, h]
  exact hn
end
end Go.Vm
end
section
namespace Go.Vm
open Go.RowKit
section
variable {P : Program} {ty : Tys} {c c' : Ctx} {T : Tag → Prop}
mutual
def NI (T : Tag → Prop) : V → Prop
  | .own _ => False
  | .owns _ _ _ => False
  | .ptr _ _ => False
  | .elem _ _ _ => False
  | .mp _ => False
  | .ints t _ _ => T t
  | .bools t _ => T t
  | .vals t _ _ => T t
  | .agg l => NIL T l
  | .tup l => NIL T l
  | .ro l => NIL T l ∧ T .bor
  | .fn _ p q => NIL T p ∧ NIL T q
  | _ => True
def NIL (T : Tag → Prop) : List V → Prop
  | [] => True
  | v :: r => NI T v ∧ NIL T r
end
theorem NIL.of_all : ∀ {l : List V}, (∀ v ∈ l, NI T v) → NIL T l
  | [], _ => by simp only [NIL]
  | v :: r, h => by simp only [NIL]; exact ⟨h v (by simp), NIL.of_all fun u hu => h u (by simp [hu])⟩
theorem tag_same {a b : Tag} (h : a.same b = true) : a = b := by cases a <;> cases b <;> first | rfl | cases h
theorem slOk_NI {tag : Tag} {e : TypeId} {v : V} (ht : T tag) (h : slOk ty tag e v = true) : NI T v := by
  unfold slOk at h
  split at h
  · simp only [Bool.and_eq_true] at h
    obtain rfl := tag_same h.1; simpa only [NI] using ht
  · obtain rfl := tag_same h; simpa only [NI] using ht
  · simp only [Bool.and_eq_true] at h
    obtain rfl := tag_same h.1; simpa only [NI] using ht
  · simp at h
theorem leafOk_NI {tag : Tag} {l : Leaf} {v : V} (ht : T tag) (h : leafOk ty tag l v = true) : NI T v := by
  unfold leafOk at h
  split at h <;> first | (simp only [NI]; done) | exact slOk_NI ht h | simp at h
theorem leavesOk_NI {tag : Tag} (ht : T tag) : ∀ {ls : List Leaf} {vs : List V}, leavesOk ty tag ls vs = true → ∀ v ∈ vs, NI T v
  | [], [], _ => by simp
  | [], _ :: _, h => by simp [leavesOk] at h
  | _ :: _, [], h => by simp [leavesOk] at h
  | l :: ls, x :: vs, h => by
    simp only [leavesOk, Bool.and_eq_true] at h
    intro v hv
    rcases List.mem_cons.1 hv with rfl | hv
    · exact leafOk_NI ht h.1
    · exact leavesOk_NI ht h.2 v hv
theorem okV_NI {tag : Tag} {i : TyI} {v : V} (ht : T tag) (h : okV ty tag i v = true) : NI T v := by
  rcases okV_cases h with ⟨_, l, rfl, hl⟩ | ⟨_, _, hl⟩
  · simp only [NI]; exact NIL.of_all (leavesOk_NI ht hl)
  · exact leavesOk_NI ht hl v (by simp)
def Seen (T : Tag → Prop) (c c' : Ctx) : Prop := ∀ t b o, T t → Imm c t b o → Imm c' t b o ∧ c'.w.cell? ⟨b, o, none⟩ = c.w.cell? ⟨b, o, none⟩
mutual
theorem VR.seen (hf : T .frz) (h : Seen T c c') : ∀ {v : V} {x : Value}, NI T v → VR ty c v x → VR ty c' v x
  | .undef, _, _, hv => by simpa only [VR] using hv
  | .bool _, _, _, hv => by simpa only [VR] using hv
  | .int _ _, _, _, hv => by simpa only [VR] using hv
  | .str _, _, _, hv => by simpa only [VR] using hv
  | .ints _ _ _, _, hn, hv => by
    simp only [NI] at hn
    simp only [VR] at hv ⊢
    obtain ⟨a, cap, e, hc, hl⟩ := hv
    refine ⟨a, cap, e, hc, hl.imp id ?_⟩
    rintro ⟨b, o, ha, hj⟩
    exact ⟨b, o, ha, fun j hlt => ⟨(h _ _ _ hn (hj j hlt).1).1, (h _ _ _ hn (hj j hlt).1).2.trans (hj j hlt).2⟩⟩
  | .bools _ _, _, hn, hv => by
    simp only [NI] at hn
    simp only [VR] at hv ⊢
    obtain ⟨a, cap, e, hc, hl⟩ := hv
    refine ⟨a, cap, e, hc, hl.imp id ?_⟩
    rintro ⟨b, o, ha, hj⟩
    exact ⟨b, o, ha, fun j hlt => ⟨(h _ _ _ hn (hj j hlt).1).1, (h _ _ _ hn (hj j hlt).1).2.trans (hj j hlt).2⟩⟩
  | .vals _ _ l, _, hn, hv => by
    simp only [NI] at hn
    simp only [VR] at hv ⊢
    obtain ⟨a, cap, ei, e, hc, ht, hs, ho, hl⟩ := hv
    refine ⟨a, cap, ei, e, hc, ht, hs, ho, hl.imp id ?_⟩
    rintro ⟨b, o, ha, hj⟩
    exact ⟨b, o, ha, ER.seen hf h hn (NIL.of_all fun v hv => okV_NI hf (ho v hv)) hj⟩
  | .own _, _, hn, _ => by simp only [NI] at hn
  | .owns _ _ _, _, hn, _ => by simp only [NI] at hn
  | .ptr _ _, _, hn, _ => by simp only [NI] at hn
  | .elem _ _ _, _, hn, _ => by simp only [NI] at hn
  | .ro l, _, hn, hv => by
    simp only [NI] at hn
    simp only [VR] at hv ⊢
    obtain ⟨b, o, e, hl⟩ := hv
    exact ⟨b, o, e, MR.seen hf h hn.2 hn.1 hl⟩
  | .nilp, _, _, hv => by simpa only [VR] using hv
  | .agg l, _, hn, hv => by
    simp only [NI] at hn
    simp only [VR] at hv ⊢
    obtain ⟨xs, e, hl⟩ := hv
    exact ⟨xs, e, CR.seen hf h hn hl⟩
  | .tup l, _, hn, hv => by
    simp only [NI] at hn
    simp only [VR] at hv ⊢
    obtain ⟨xs, e, hl⟩ := hv
    exact ⟨xs, e, LR.seen hf h hn hl⟩
  | .fn _ p q, _, hn, hv => by
    simp only [NI] at hn
    simp only [VR] at hv ⊢
    obtain ⟨ps, qs, e, hp, hq⟩ := hv
    exact ⟨ps, qs, e, LR.seen hf h hn.1 hp, LR.seen hf h hn.2 hq⟩
  | .nilfn, _, _, hv => by simpa only [VR] using hv
  | .nils, _, _, hv => by simpa only [VR] using hv
  | .mp _, _, hn, _ => by simp only [NI] at hn
  | .nilmp, _, _, hv => by simpa only [VR] using hv
theorem CR.seen (hf : T .frz) (h : Seen T c c') : ∀ {l : List V} {xs : List Value}, NIL T l → CR ty c l xs → CR ty c' l xs
  | [], _, _, hl => by simpa only [CR] using hl
  | v :: r, _, hn, hl => by
    simp only [NIL] at hn
    simp only [CR] at hl ⊢
    obtain ⟨y, ys, e, hv, hc, hr⟩ := hl
    exact ⟨y, ys, e, VR.seen hf h hn.1 hv, hc, CR.seen hf h hn.2 hr⟩
theorem LR.seen (hf : T .frz) (h : Seen T c c') : ∀ {l : List V} {xs : List Value}, NIL T l → LR ty c l xs → LR ty c' l xs
  | [], _, _, hl => by simpa only [LR] using hl
  | v :: r, _, hn, hl => by
    simp only [NIL] at hn
    simp only [LR] at hl ⊢
    obtain ⟨y, ys, e, hv, hr⟩ := hl
    exact ⟨y, ys, e, VR.seen hf h hn.1 hv, LR.seen hf h hn.2 hr⟩
theorem ER.seen (hf : T .frz) (h : Seen T c c') {t : Tag} {sz : Nat} (ht : T t) : ∀ {l : List V} {b o : Nat}, NIL T l → ER ty c t sz l b o → ER ty c' t sz l b o
  | [], _, _, _, _ => by simp only [ER]
  | v :: r, b, o, hn, hl => by
    simp only [NIL] at hn
    simp only [ER] at hl ⊢
    obtain ⟨⟨y, hv, hs, hj⟩, hr⟩ := hl
    exact ⟨⟨y, VR.seen hf h hn.1 hv, hs, fun j hlt => ⟨(h _ _ _ ht (hj j hlt).1).1, (h _ _ _ ht (hj j hlt).1).2.trans (hj j hlt).2⟩⟩, ER.seen hf h ht hn.2 hr⟩
theorem MR.seen (hf : T .frz) (h : Seen T c c') (ht : T .bor) : ∀ {l : List V} {b o : Nat}, NIL T l → MR ty c l b o → MR ty c' l b o
  | [], _, _, _, _ => by simp only [MR]
  | v :: r, b, o, hn, hl => by
    simp only [NIL] at hn
    simp only [MR] at hl ⊢
    obtain ⟨⟨y, hv, hs, hi, hj⟩, hr⟩ := hl
    exact ⟨⟨y, VR.seen hf h hn.1 hv, hs, (h _ _ _ ht hi).1, (h _ _ _ ht hi).2.trans hj⟩, MR.seen hf h ht hn.2 hr⟩
end
theorem EltsR.seen (hf : T .frz) (h : Seen T c c') {o : Obj} {sz : Nat} {ys : List Value} (hE : EltsR ty c o sz ys) : EltsR ty c' o sz ys := by
  obtain ⟨h1, h2, h3, h4⟩ := hE
  refine ⟨h1, h2, h3, ?_⟩
  cases o with
  | vals e l =>
    obtain ⟨ei, g1, g2, g3, g4, g5⟩ := h4
    exact ⟨ei, g1, g2, g3, g4, fun j hj hj' => (g5 j hj hj').seen hf h (okV_NI hf (g4 _ (List.getElem_mem _)))⟩
  | _ => exact h4
theorem elts_VR {o : Obj} {sz : Nat} {ys : List Value} {t : Tag} {v : V} {a : Option Addr} {cap : Nat} (hE : EltsR ty c o sz ys) (hv : o.fixed t = some v) (hcap : o.len ≤ cap)
    (ha : o.len = 0 ∨ ∃ b off, a = some ⟨b, off, none⟩ ∧ ∀ j (hj : j < (flatV ys).length), Imm c t b (off + j) ∧ c.w.cell? ⟨b, off + j, none⟩ = some (flatV ys)[j]) : VR ty c v (.slice a o.len cap) := by
  have hfl := hE.flat_length
  have hall := hE.sizes
  obtain ⟨h1, h2, h3, h4⟩ := hE
  cases o with
  | ints k l =>
    simp [Obj.fixed] at hv; subst hv
    obtain ⟨rfl, rfl⟩ := h4
    simp only [VR]
    refine ⟨a, cap, rfl, hcap, ?_⟩
    rcases ha with ha | ⟨b, off, ha, hc⟩
    · exact .inl (List.length_eq_zero_iff.1 ha)
    · refine .inr ⟨b, off, ha, fun j hj => ?_⟩
      simp only [Obj.len] at hfl
      have hc1 := hc j (by omega)
      refine ⟨hc1.1, hc1.2.trans ?_⟩
      have := flatV_get hall j (by simpa using hj) 0 (by omega)
      rw [Nat.mul_one, Nat.add_zero, List.getElem?_eq_getElem (by omega)] at this
      simp only [List.getElem_map] at this
      exact this
  | bools l =>
    simp [Obj.fixed] at hv; subst hv
    obtain ⟨rfl, rfl⟩ := h4
    simp only [VR]
    refine ⟨a, cap, rfl, hcap, ?_⟩
    rcases ha with ha | ⟨b, off, ha, hc⟩
    · exact .inl (List.length_eq_zero_iff.1 ha)
    · refine .inr ⟨b, off, ha, fun j hj => ?_⟩
      simp only [Obj.len] at hfl
      have hc1 := hc j (by omega)
      refine ⟨hc1.1, hc1.2.trans ?_⟩
      have := flatV_get hall j (by simpa using hj) 0 (by omega)
      rw [Nat.mul_one, Nat.add_zero, List.getElem?_eq_getElem (by omega)] at this
      simp only [List.getElem_map] at this
      exact this
  | vals e l =>
    simp [Obj.fixed] at hv; subst hv
    obtain ⟨ei, g1, g2, rfl, g4, g5⟩ := h4
    simp only [VR]
    refine ⟨a, cap, ei, rfl, hcap, g1, g2, g4, ?_⟩
    rcases ha with ha | ⟨b, off, ha, hc⟩
    · exact .inl (List.length_eq_zero_iff.1 ha)
    · refine .inr ⟨b, off, ha, ER.of_at fun m hm => ?_⟩
      simp only [Obj.len] at hfl h1
      refine ⟨ys[m], g5 m hm (by omega), hall _ (List.getElem_mem _), fun j hj => ?_⟩
      have hlt : m * ei.leaves.length + j < (flatV ys).length := by
        have : (m + 1) * ei.leaves.length ≤ l.length * ei.leaves.length := Nat.mul_le_mul_right _ hm
        rw [Nat.succ_mul] at this; omega
      have hc1 := hc _ hlt
      have h2' := flatV_get hall m (by omega) j hj
      rw [← Nat.add_assoc] at hc1
      refine ⟨hc1.1, hc1.2.trans ?_⟩
      rw [← h2']; simp
  | cells l => simp [Obj.fixed] at hv
  | map _ _ _ _ => simp [Obj.fixed] at hv
def snapCtx (c : Ctx) : Ctx := { w := c.w, base := c.w.heap.size, F := fun _ => False, I := c.I, μ := fun _ => none }
theorem seen_snap : Seen (fun _ => True) c (snapCtx c) := by
  intro t b o _ hi
  refine ⟨?_, rfl⟩
  cases t with
  | bor =>
    rcases hi with hi | hi
    · exact .inl ⟨hi.2, hi.2⟩
    · exact .inr hi
  | frz => exact hi
  | new => exact hi.elim
theorem cell_lt {w : World} {b o : Nat} {x : Value} (h : w.cell? ⟨b, o, none⟩ = some x) : b < w.heap.size := by
  rcases Nat.lt_or_ge b w.heap.size with g | g
  · exact g
  · unfold World.cell? at h
    simp [Array.getElem?_eq_none g] at h
theorem imm_snap {b o : Nat} {x : Value} (h : c.w.cell? ⟨b, o, none⟩ = some x) : Imm (snapCtx c) .bor b o := .inl ⟨cell_lt h, cell_lt h⟩
def partObj (off len : Nat) : Obj → Option Obj
  | .ints k l => some (Obj.ints k ((l.drop off).take len))
  | .bools l => some (.bools ((l.drop off).take len))
  | .vals e l => some (.vals e ((l.drop off).take len))
  | _ => none
theorem fixedPart_fixed {t : Tag} {off len : Nat} {o : Obj} {v : V} (h : o.fixedPart t off len = some v) : ∃ o' u, o'.fixed t = some v ∧ o.fixed t = some u ∧ partObj off len o = some o' := by
  cases o <;> simp [Obj.fixedPart] at h
  · subst h; exact ⟨.ints _ _, _, rfl, rfl, rfl⟩
  · subst h; exact ⟨.bools _, _, rfl, rfl, rfl⟩
  · subst h; exact ⟨.vals _ _, _, rfl, rfl, rfl⟩
theorem elts_part {o o' : Obj} {sz : Nat} {ys : List Value} {off len : Nat} (hE : EltsR ty c o sz ys) (hle : off + len ≤ o.len) (ho : partObj off len o = some o') : EltsR ty c o' sz ((ys.drop off).take len) ∧ o'.len = len := by
  cases o with
  | ints k l => exact hE.part hle ho
  | bools l => exact hE.part hle ho
  | vals e l => exact hE.part hle ho
  | cells l => simp [partObj] at ho
  | map _ _ _ _ => simp [partObj] at ho
variable {h : Heap} {fz : List Nat}
theorem on_of_cap {f : Bool} {i : Info} {sz n : Nat} (ha : ArrOk c f i sz n) (hn : 0 < i.cap) : i.on = true := by
  cases hh : i.on with
  | true => rfl
  | false => have := ha.2.2.2.2.1 hh; omega
theorem idFree_NI {v : V} (h : idFree v = true) : NI (fun _ => True) v := by
  unfold idFree at h
  split at h <;> simp_all [NI, NIL]
theorem idFreeL_NI : ∀ {l : List V}, idFreeL l = true → NIL (fun _ => True) l
  | [], _ => by simp only [NIL]
  | v :: r, h => by
    simp only [idFreeL, Bool.and_eq_true] at h
    simp only [NIL]
    exact ⟨idFree_NI h.1, idFreeL_NI h.2⟩
theorem snapLeaf_ok (H : HeapOk ty c h fz) {v x : V} {y : Value} (hx : snapLeaf h v = some x) (hv : VR ty c v y) : VR ty (snapCtx c) x y := by
  have S := seen_snap (c := c)
  have part : ∀ (o o' : Obj) (i : Info) (f : Bool) (u : V) (off len cap : Nat) (a : Option Addr), OR ty c f i o → o.fixed .bor = some u → o'.fixed .bor = some x → off + len ≤ i.len → len ≤ cap → off + cap = i.cap →
      (cap = 0 ∨ (i.on = true ∧ a = some ⟨i.b, i.o + off * i.sz, none⟩)) → partObj off len o = some o' → VR ty (snapCtx c) x (.slice a len cap) := by
    intro o o' i f u off len cap a hO hu hx' hle hlc hcap ha ho
    obtain ⟨ys, hE, hA, hc⟩ := OR_elts hu hO
    obtain ⟨hE', hlen⟩ := elts_part hE (by rw [← hA.2.2.1]; exact hle) ho
    have := elts_VR (a := a) (cap := cap) (hE'.seen trivial S) hx' (by omega) ?_
    · rw [hlen] at this; exact this
    · by_cases hl : len = 0
      · exact .inl (by omega)
      · right
        rcases ha with ha | ⟨_, ha⟩
        · omega
        · refine ⟨i.b, i.o + off * i.sz, ha, fun k hk => ?_⟩
          have hft := flatV_drop_take ys off len hE.sizes
          have hk2 : k < (((flatV ys).drop (off * i.sz)).take (len * i.sz)).length := by rw [← hft]; exact hk
          have hk3 : off * i.sz + k < (flatV ys).length := by simp at hk2; omega
          have hcell : c.w.cell? ⟨i.b, i.o + off * i.sz + k, none⟩ = some (flatV ((ys.drop off).take len))[k] := by
            rw [Nat.add_assoc, hc _ hk3]
            congr 1
            have e : (flatV ((ys.drop off).take len))[k]? = (((flatV ys).drop (off * i.sz)).take (len * i.sz))[k]? := by rw [hft]
            rw [List.getElem?_eq_getElem hk, List.getElem?_eq_getElem hk2] at e
            simp only [Option.some.injEq] at e
            rw [e]; simp
          exact ⟨imm_snap hcell, hcell⟩
  unfold snapLeaf at hx
  split at hx
  ·
    rename_i id
    simp only [VR] at hv
    obtain ⟨i, hi, rfl⟩ := hv
    split at hx
    case h_2 => simp at hx
    rename_i o hg
    have hO := H.hp id o i hg hi
    obtain ⟨ys, hE, hA, hc⟩ := OR_elts hx hO
    have := elts_VR (a := i.a) (cap := i.cap) (hE.seen trivial S) hx (by rw [← hA.2.2.1]; exact hA.2.2.2.1) ?_
    · rw [← hA.2.2.1] at this; exact this
    · by_cases hl : o.len = 0
      · exact .inl hl
      · right
        have hon := on_of_cap hA (by have := hA.2.2.1; have := hA.2.2.2.1; omega)
        exact ⟨i.b, i.o, (hA.2.2.2.2.2 hon).1, fun j hj => ⟨imm_snap (hc j hj), hc j hj⟩⟩
  ·
    rename_i id off len
    simp only [VR] at hv
    obtain ⟨i, a, cap, hi, rfl, h1, h2, h3, h4⟩ := hv
    split at hx
    case h_2 => simp at hx
    rename_i o hg
    obtain ⟨o', u, g1, g2, g3⟩ := fixedPart_fixed hx
    exact part o o' i _ u off len cap a (H.hp id o i hg hi) g2 g1 h1 h2 h3 h4 g3
  case h_12 =>
    rename_i l
    cases hc : idFreeL l with
    | false => rw [hc] at hx; simp at hx
    | true =>
      rw [hc] at hx; simp at hx; subst hx
      exact hv.seen trivial S (by simp only [NI]; exact ⟨idFreeL_NI hc, trivial⟩)
  case h_13 => simp at hx
  all_goals (simp at hx; subst hx; exact hv.seen trivial S (by simp [NI, NIL]))
theorem snapAll_ok (H : HeapOk ty c h fz) : ∀ {l xs : List V} {ys : List Value}, snapAll h l = some xs → CR ty c l ys → CR ty (snapCtx c) xs ys
  | [], _, _, hx, hl => by
    simp [snapAll] at hx; subst hx
    simpa only [CR] using hl
  | v :: r, _, _, hx, hl => by
    simp only [snapAll] at hx
    split at hx
    · rename_i x xs h1 h2
      simp at hx; subst hx
      simp only [CR] at hl ⊢
      obtain ⟨y, ys, rfl, hv, hc, hr⟩ := hl
      exact ⟨y, ys, rfl, snapLeaf_ok H h1 hv, hc, snapAll_ok H h2 hr⟩
    · simp at hx
theorem snapV_ok (H : HeapOk ty c h fz) {v x : V} {y : Value} (hx : snapV h v = some x) (hv : VR ty c v y) : VR ty (snapCtx c) x y := by
  unfold snapV at hx
  split at hx
  · rename_i l
    cases hl : snapAll h l with
    | none => rw [hl] at hx; simp at hx
    | some xs =>
      rw [hl] at hx; simp at hx; subst hx
      simp only [VR] at hv ⊢
      obtain ⟨ys, e, hC⟩ := hv
      exact ⟨ys, e, snapAll_ok H hl hC⟩
  · rename_i id off
    split at hx
    · rename_i l hg
      cases hl : snapAll h (l.drop off) with
      | none => rw [hl] at hx; simp at hx
      | some xs =>
        rw [hl] at hx; simp at hx; subst hx
        simp only [VR] at hv ⊢
        obtain ⟨i, hi, hon, rfl⟩ := hv
        obtain ⟨_, _, _, _, zs, hC, hz⟩ := H.hp id _ i hg hi
        refine ⟨i.b, i.o + off, rfl, MR.of_CR (snapAll_ok H hl (hC.drop off)) fun j hj => ?_⟩
        have hj2 : off + j < zs.length := by simp at hj; omega
        have hcell := hz (off + j) hj2
        rw [← Nat.add_assoc] at hcell
        refine ⟨imm_snap hcell, ?_⟩
        simp only [List.getElem_drop]
        exact hcell
    · simp at hx
  · exact snapLeaf_ok H hx hv
theorem snapArgs_ok (H : HeapOk ty c h fz) : ∀ {l xs : List V} {ys : List Value}, snapArgs h l = some xs → LR ty c l ys → LR ty (snapCtx c) xs ys
  | [], _, _, hx, hl => by
    simp [snapArgs] at hx; subst hx
    simpa only [LR] using hl
  | v :: r, _, _, hx, hl => by
    simp only [snapArgs] at hx
    split at hx
    · rename_i x xs h1 h2
      simp at hx; subst hx
      simp only [LR] at hl ⊢
      obtain ⟨y, ys, rfl, hv, hr⟩ := hl
      exact ⟨y, ys, rfl, snapV_ok H h1 hv, snapArgs_ok H h2 hr⟩
    · simp at hx
end
end Go.Vm
end
