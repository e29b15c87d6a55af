/-
  A part of the proof that FabricPads answers true at every input. No condition.
-/
import Derived.Test.YtnjjhhbogdiceaaGreatV3
section
namespace Go.Vm
open Go.RowKit
section
variable {P : Program} {ty : Tys} {c : Ctx}
theorem clearAt_cases {st : St} {e : TypeId} {id off : Nat} {len : Option Nat} {b : Bk} (h : clearAt ty st e id off len = some b) :
    has id st.fz = false ∧ ∃ o o' zv, get id st.h = some o ∧ fitE ty e o = true ∧ zeroPart off (len.getD (o.len - off)) zv o = some o' ∧
      (∀ e' l, o = .vals e' l → ∃ ei zs, tyAt ty e' = some ei ∧ zeroFixed ty ei.leaves = some zs ∧ zv = pack ei.agg zs) ∧ b = { st := { st with h := ins id o' st.h }, v := .tup [] } := by
  unfold clearAt at h
  cases hz : has id st.fz with
  | true => rw [hz] at h; simp at h
  | false =>
    rw [hz] at h
    simp only [cond_false] at h
    cases hg : get id st.h with
    | none => rw [hg] at h; simp at h
    | some o =>
      rw [hg] at h
      simp only [Option.bind_some] at h
      cases hf : fitE ty e o with
      | false => rw [hf] at h; simp at h
      | true =>
        rw [hf] at h
        simp only [cond_true] at h
        refine ⟨rfl, o, ?_⟩
        cases o with
        | ints k l =>
          simp only [putObj, Option.some.injEq] at h
          exact ⟨_, .undef, rfl, hf, rfl, (fun _ _ h => by cases h), h.symm⟩
        | bools l =>
          simp only [putObj, Option.some.injEq] at h
          exact ⟨_, .undef, rfl, hf, rfl, (fun _ _ h => by cases h), h.symm⟩
        | vals e' l =>
          simp only at h
          split at h
          · rename_i ei hei
            split at h
            · rename_i z hzz
              simp only [putObj, Option.some.injEq] at h
              exact ⟨_, pack ei.agg z, rfl, hf, rfl, (fun _ _ hh => by cases hh; exact ⟨ei, z, hei, hzz, rfl⟩), h.symm⟩
            · simp at h
          · simp at h
        | _ => simp at h
theorem clear_core (hT : TyOk P ty) {st : St} (H : HeapOk ty c st.h st.fz) (hf : ∀ id, st.nx ≤ id → c.μ id = none) {ts : Array TypeId} {t e ty0 : TypeId} (ht : ts[0]? = some t) (he : slElem ty t = some e)
    {id off L : Nat} {o o' : Obj} {zv : V} {i : Info} {a : Option Addr} {cap : Nat} (hz : has id st.fz = false) (hg : get id st.h = some o) (hfit : fitE ty e o = true) (hp : zeroPart off L zv o = some o')
    (hzv : ∀ e' l, o = .vals e' l → ∃ ei zs, tyAt ty e' = some ei ∧ zeroFixed ty ei.leaves = some zs ∧ zv = pack ei.agg zs)
    (hi : c.μ id = some i) (hle : off + L ≤ i.len) (ha : L = 0 ∨ (i.on = true ∧ a = some ⟨i.b, i.o + off * i.sz, none⟩)) :
    ∃ c' y, (Builtin.clear_ ts ty0 #[.slice a L cap]).run P c.w = .ok y c'.w ∧ BkOk ty c c' st { st with h := ins id o' st.h } ∧ VR ty c' (.tup []) y := by
  have hu := hT.sl t e he
  have hvt : ∀ c' : Ctx, VR ty c' (.tup []) (.tuple #[]) := fun c' => by simp only [VR]; exact ⟨#[], rfl, by simp [LR]⟩
  cases L with
  | zero =>
    have hoo : o' = o := by
      cases o <;> simp [zeroPart] at hp <;> exact hp.symm
    subst hoo
    refine ⟨c, .tuple #[], run_clear_none ht hu, ⟨Ext.refl c, H.same fun id' => ?_, hf, Nat.le_refl _, rfl, rfl⟩, hvt c⟩
    by_cases hid : id' = id
    · subst hid; rw [get_ins_same, hg]
    · rw [get_ins_other _ hid]
  | succ L =>
    rcases ha with ha | ⟨hon, rfl⟩
    · omega
    obtain ⟨inf, z, hinf, hzz, hzc, hzp, hzs, hzi⟩ := clear_zero hT hfit hzv
    have hfx : ∃ v, o.fixed .frz = some v := by
      cases o with
      | ints k l => exact ⟨_, rfl⟩
      | bools l => exact ⟨_, rfl⟩
      | vals e l => exact ⟨_, rfl⟩
      | _ => simp [zeroPart] at hp
    obtain ⟨v, hv⟩ := hfx
    have hOR := H.hp id o i hg hi
    rw [hz] at hOR
    obtain ⟨ys, hE, hA, hcell⟩ := OR_elts hv hOR
    have hsz := hzs c i.sz ys hE
    have hlen := hA.2.2.1
    have hcap := hA.2.2.2.1
    obtain ⟨ha', cs, T, hheap, hroom, hbase, hI⟩ := hA.2.2.2.2.2 hon
    have hmul : (off + (L + 1)) * i.sz ≤ i.cap * i.sz := Nat.mul_le_mul_right _ (Nat.le_trans hle hcap)
    rw [Nat.add_mul] at hmul
    have hrun := run_clear (P := P) (ty0 := ty0) (w := c.w) (cap := cap) (b := i.b) (o := i.o + off * i.sz) (len := L) ht hu hinf hzz hzp hzc hheap (by rw [hsz]; omega)
    have hrep : ∀ y ∈ List.replicate (L + 1) z, y.cells.size = i.sz := fun y hy => by rw [(List.mem_replicate.1 hy).2, hsz]
    have hext0 : Ext c (setCtx c i.b (i.o + off * i.sz) (flatV (List.replicate (L + 1) z))) := by
      have hfl := flatV_length hrep
      rw [List.length_replicate] at hfl
      refine set_ext hbase fun j hj => ?_
      rw [Nat.add_assoc]
      exact hI _ (by simp [fzn]) (by rw [hfl] at hj; omega)
    obtain ⟨hE', hl'⟩ := hE.zero (c' := setCtx c i.b (i.o + off * i.sz) (flatV (List.replicate (L + 1) z))) (z := z) hext0 hp (by omega) ⟨hsz, hzc⟩ (hzi _)
    obtain ⟨hext, hheap'⟩ := heap_part (zs := List.replicate (L + 1) z) (len := L + 1) H hg hi hon hz hE hA hcell (by simp) hrep hle hl' hE'
    exact ⟨_, _, hrun, ⟨hext, hheap', hf, Nat.le_refl _, rfl, rfl⟩, hvt _⟩
theorem clear_sound (hT : TyOk P ty) {st : St} (H : HeapOk ty c st.h st.fz) (hf : ∀ id, st.nx ≤ id → c.μ id = none) {ts : Array TypeId} {t e ty0 : TypeId} {x : V} {vx : Value} {b : Bk} (ht : ts[0]? = some t) (he : slElem ty t = some e)
    (hb : clearV ty st e x = some b) (hx : VR ty c x vx) : ∃ c' y, (Builtin.clear_ ts ty0 #[vx]).run P c.w = .ok y c'.w ∧ BkOk ty c c' st b.st ∧ VR ty c' b.v y := by
  have hu := hT.sl t e he
  have none : ∀ (a : Option Addr) cap, vx = .slice a 0 cap → b = { st, v := .tup [] } → ∃ c' y, (Builtin.clear_ ts ty0 #[vx]).run P c.w = .ok y c'.w ∧ BkOk ty c c' st b.st ∧ VR ty c' b.v y := by
    rintro a cap rfl rfl
    exact ⟨c, .tuple #[], run_clear_none ht hu, ⟨Ext.refl c, H, hf, Nat.le_refl _, rfl, rfl⟩, by simp only [VR]; exact ⟨#[], rfl, by simp [LR]⟩⟩
  unfold clearV at hb
  split at hb
  · rename_i id
    obtain ⟨hz, o, o', zv, hg, hfit, hp, hzv, rfl⟩ := clearAt_cases hb
    simp only [VR] at hx
    obtain ⟨i, hi, rfl⟩ := hx
    have hfx : ∃ v, o.fixed .frz = some v := by
      cases o with
      | ints k l => exact ⟨_, rfl⟩
      | bools l => exact ⟨_, rfl⟩
      | vals e l => exact ⟨_, rfl⟩
      | _ => simp [zeroPart] at hp
    obtain ⟨v, hv⟩ := hfx
    obtain ⟨ys, hE, hA, _⟩ := OR_elts hv (H.hp id o i hg hi)
    simp only [Option.getD_none, Nat.sub_zero] at hp
    have hlen := hA.2.2.1
    rw [← hlen] at hp
    refine clear_core hT H hf ht he hz hg hfit hp hzv hi (by omega) ?_
    rcases Nat.eq_zero_or_pos i.len with h0 | h0
    · exact .inl h0
    · right
      have hon : i.on = true := by
        cases hh : i.on with
        | true => rfl
        | false => have := hA.2.2.2.2.1 hh; have := hA.2.2.2.1; omega
      refine ⟨hon, ?_⟩
      rw [(hA.2.2.2.2.2 hon).1]; simp
  · rename_i id off len
    obtain ⟨hz, o, o', zv, hg, hfit, hp, hzv, rfl⟩ := clearAt_cases hb
    simp only [VR] at hx
    obtain ⟨i, a, cap, hi, rfl, h1, h2, h3, h4⟩ := hx
    simp only [Option.getD_some] at hp
    refine clear_core hT H hf ht he hz hg hfit hp hzv hi h1 ?_
    rcases Nat.eq_zero_or_pos len with h0 | h0
    · exact .inl h0
    · right
      rcases h4 with h4 | h4
      · omega
      · exact h4
  · simp only [Option.some.injEq] at hb
    simp only [VR] at hx
    obtain ⟨a, cap, rfl, _⟩ := hx
    exact none a cap rfl hb.symm
  · simp only [Option.some.injEq] at hb
    simp only [VR] at hx
    obtain ⟨a, cap, rfl, _⟩ := hx
    exact none a cap rfl hb.symm
  · simp only [Option.some.injEq] at hb
    simp only [VR] at hx
    obtain ⟨a, cap, ei, rfl, _⟩ := hx
    exact none a cap rfl hb.symm
  · simp at hb
theorem write_ok (hT : TyOk P ty) : WriteOk P ty where
  clear := fun _ _ _ _ _ _ _ _ _ H hf ht he hb _ hx => clear_sound hT H hf ht he hb hx
  put := fun _ _ _ _ _ _ _ _ _ _ H hf hr _ hm hk hv => put_sound hT H hf hr hm hk hv
  enter := fun _ _ _ _ _ _ _ _ H hf hr _ hm hk => enter_sound hT H hf hr hm hk
  stamp := fun _ _ _ _ _ _ _ _ _ _ H hf hr hok hm hs hv => stamp_sound H hf hr hok hm hs hv
end
end Go.Vm
end
section
namespace Go.Vm
section
variable {E : Env} {C : Calls}
theorem callV_det (hD : InlDet C) {R : Type} {dst : Option Nat} {f : FuncId} {as : List V} {st : St} {k : St → Option R} {r : R} (h : callV E C dst f as st k = some r) :
    ∃ st', k st' = some r ∧ ∀ (R' : Type) (k' : St → Option R'), callV E C dst f as st k' = k' st' := by
  unfold callV at h
  split at h
  · rename_i hm
    split at h
    case h_2 => simp at h
    rename_i xs hx
    obtain ⟨r0, h1, h2⟩ := hD.1 R f xs _ r h
    exact ⟨_, h1, fun R' k' => by unfold callV; simp only [hm, hx]; rw [h2]⟩
  · rename_i hm
    split at h
    case h_2 => simp at h
    rename_i p hp
    split at h
    case h_2 => simp at h
    rename_i xs hx
    obtain ⟨r0, h1, h2⟩ := hD.1 R f xs _ r h
    exact ⟨_, h1, fun R' k' => by unfold callV; simp only [hm, hp, hx]; rw [h2]⟩
  · rename_i hm
    obtain ⟨ws, st', h1, h2⟩ := hD.2 R f as st _ r h
    exact ⟨_, h1, fun R' k' => by unfold callV; simp only [hm]; rw [h2]⟩
theorem step_det (hD : InlDet C) {R : Type} {o : Oper} {st : St} {k : St → Option R} {r : R} (h : step E C o st k = some r) :
    ∃ st', k st' = some r ∧ ∀ (R' : Type) (k' : St → Option R'), step E C o st k' = k' st' := by
  unfold step at h
  split at h
  · rename_i c hop
    split at h
    · rename_i b hb
      split at h
      case h_2 => simp at h
      rename_i args ha
      split at h
      · rename_i x t l hl
        split at h
        case h_2 => simp at h
        rename_i v hv
        exact ⟨_, h, fun R' k' => by unfold step; simp only [hop, hb, ha, hl, hv]⟩
      · rename_i s x t t2 hl
        split at h
        case h_2 => simp at h
        rename_i e2 b2 he hb2
        obtain ⟨hok, hk⟩ := cond_some h
        exact ⟨_, hk, fun R' k' => by unfold step; simp only [hop, hb, ha, hl, he, hb2, hok, cond_true]⟩
      · rename_i x t l hl
        split at h
        case h_2 => simp at h
        rename_i b2 hb2
        obtain ⟨hok, hk⟩ := cond_some h
        exact ⟨_, hk, fun R' k' => by unfold step; simp only [hop, hb, ha, hl, hb2, hok, cond_true]⟩
      · rename_i l hl
        split at h
        case h_2 => simp at h
        rename_i v hv
        exact ⟨_, h, fun R' k' => by unfold step; simp only [hop, hb, ha, hv]⟩
      · rename_i l hl
        split at h
        case h_2 => simp at h
        rename_i v hv
        exact ⟨_, h, fun R' k' => by unfold step; simp only [hop, hb, ha, hv]⟩
      · simp at h
    · rename_i x hx
      split at h
      case h_2 => simp at h
      rename_i f p q args hf ha
      obtain ⟨st', h1, h2⟩ := callV_det hD h
      exact ⟨st', h1, fun R' k' => by unfold step; simp only [hop, hx, hf, ha]; exact h2 R' k'⟩
    · simp at h
  · rename_i t p x hop
    split at h
    case h_2 => simp at h
    rename_i vp vx hp hx
    split at h
    case h_2 => simp at h
    rename_i b hb
    obtain ⟨hok, hk⟩ := cond_some h
    exact ⟨_, hk, fun R' k' => by unfold step; simp only [hop, hp, hx, hb, hok, cond_true]⟩
  · rename_i t m kx x hop
    split at h
    case h_2 => simp at h
    rename_i vm vk vx hm hkk hx
    split at h
    case h_2 => simp at h
    rename_i b hb
    obtain ⟨hok, hk⟩ := cond_some h
    exact ⟨_, hk, fun R' k' => by unfold step; simp only [hop, hm, hkk, hx, hb, hok, cond_true]⟩
  · rename_i t m kx hop
    split at h
    case h_2 => simp at h
    rename_i vm vk hm hkk
    split at h
    case h_2 => simp at h
    rename_i b hb
    obtain ⟨hok, hk⟩ := cond_some h
    exact ⟨_, hk, fun R' k' => by unfold step; simp only [hop, hm, hkk, hb, hok, cond_true]⟩
  · rename_i t m s x hop
    split at h
    case h_2 => simp at h
    rename_i vm vs vx hm hss hx
    split at h
    case h_2 => simp at h
    rename_i b hb
    obtain ⟨hok, hk⟩ := cond_some h
    exact ⟨_, hk, fun R' k' => by unfold step; simp only [hop, hm, hss, hx, hb, hok, cond_true]⟩
  · rename_i n1 n2 n3 n4 n5
    obtain ⟨op', h, hdet, _⟩ := splitIx_det h
    split at h
    case h_2 => simp at h
    rename_i x hx
    obtain ⟨hok, hk⟩ := cond_some h
    refine ⟨_, hk, fun R' k' => ?_⟩
    unfold step
    split
    · rename_i c hop; exact absurd hop (n1 c)
    · rename_i t p y hop; exact absurd hop (n2 t p y)
    · rename_i t m kx y hop; exact absurd hop (n3 t m kx y)
    · rename_i t m kx hop; exact absurd hop (n4 t m kx)
    · rename_i t m s y hop; exact absurd hop (n5 t m s y)
    · rw [hdet]; simp only [hx, hok, cond_true]
theorem guarded_det {R : Type} {all : List Oper} {o : Oper} {st : St} {yes no : St → Option R} {r : R} (h : guarded all o st yes no = some r) :
    ∃ (b : Bool) (st1 : St), (bif b then yes else no) st1 = some r ∧ ∀ (R' : Type) (yes' no' : St → Option R'), guarded all o st yes' no' = (bif b then yes' else no') st1 := by
  unfold guarded at h
  split at h
  · rename_i hg
    exact ⟨true, st, h, fun R' y n => by unfold guarded; simp only [hg]; rfl⟩
  · rename_i j want hg
    split at h
    · simp at h
    · rename_i d hd
      split at h
      · rename_i b hb
        cases b with
        | true =>
          simp only [cond_true] at h
          exact ⟨want, _, h, fun R' y n => by unfold guarded; simp only [hg, hd, hb, cond_true]⟩
        | false =>
          simp only [cond_false] at h
          refine ⟨!want, { st with t := ins d (.bool false) st.t }, ?_, fun R' y n => by unfold guarded; simp only [hg, hd, hb, cond_false]; cases want <;> rfl⟩
          cases want <;> exact h
      · rename_i hb
        exact ⟨false, st, h, fun R' y n => by unfold guarded; simp only [hg, hd, hb]; rfl⟩
      · simp at h
theorem runOps_det (hD : InlDet C) {R : Type} {all : List Oper} {k : St → Option R} {r : R} : ∀ (l : List Oper) (st : St), runOps E C all l st k = some r →
    ∃ st', k st' = some r ∧ ∀ (R' : Type) (k' : St → Option R'), runOps E C all l st k' = k' st'
  | [], st, h => ⟨st, h, fun _ _ => rfl⟩
  | o :: l, st, h => by
    simp only [runOps] at h
    obtain ⟨b, st1, h1, h2⟩ := guarded_det h
    cases b with
    | true =>
      simp only [cond_true] at h1
      obtain ⟨st2, h3, h4⟩ := step_det hD h1
      obtain ⟨st3, h5, h6⟩ := runOps_det hD l st2 h3
      exact ⟨st3, h5, fun R' k' => by simp only [runOps]; rw [h2]; simp only [cond_true]; rw [h4, h6]⟩
    | false =>
      simp only [cond_false] at h1
      obtain ⟨st3, h5, h6⟩ := runOps_det hD l _ h1
      exact ⟨st3, h5, fun R' k' => by simp only [runOps]; rw [h2]; simp only [cond_false]; rw [h6]⟩
end
end Go.Vm
end
section
namespace Go.Vm
open Go.RowKit
section
variable {P : Program} {E : Env} {C : Calls} {R : Type}
def withF (dst : Option Nat) (v : V) (objs : List Obj) (F : List Nat) (st : St) : St :=
  { st with t := setT dst v st.t, h := addObjs st.nx objs st.h, nx := st.nx + objs.length, fz := F ++ st.fz }
theorem evalAll_ev {ty : Tys} {c : Ctx} {t : List (Nat × V)} {a : Act} (ev : ∀ x v, evalO t x = some v → VR ty c v (a.eval x)) : ∀ (os : List Operand) (l : List V), evalAll t os = some l → LR ty c l (os.map a.eval)
  | [], l, h => by simp [Vm.evalAll] at h; subst h; simp [LR]
  | o :: r, l, h => by
    simp only [Vm.evalAll] at h
    split at h
    · rename_i v s hv hs
      simp at h; subst h
      simp only [List.map_cons, LR]
      exact ⟨_, _, rfl, ev o v hv, evalAll_ev ev r s hs⟩
    · simp at h
def DoesF (P : Program) (E : Env) (o : Oper) (t : List (Nat × V)) (h : Heap) (nx : Nat) (v : V) (objs : List Obj) (F : List Nat) : Prop :=
  ∀ (c : Ctx) (a : Act) (fz : List Nat), HeapOk E.ty c h fz → Fr c.μ nx objs.length → Room c → (∀ x u, evalO t x = some u → VR E.ty c u (a.eval x)) →
    ∀ (next : Act → World → Prop) (Q : Exit → Act → World → Prop), (∀ c' x, FOk E.ty c h nx objs F c' → VR E.ty c' v x → next (a.put o.dst x) c'.w) → o.wp P a c.w next Q
theorem FOk.empty {ty : Tys} {c : Ctx} {h : Heap} {nx : Nat} {fz : List Nat} (H : HeapOk ty c h fz) : FOk ty c h nx [] [] c where
  ext := Ext.refl c
  infos := ⟨[], rfl, updM_nil.symm, fun k h => absurd h (by simp), by simp, by simp⟩
  hI := fun _ _ h => .inl h
  ib := H.ib
  old := fun _ _ => rfl
theorem FOk.frz {ty : Tys} {c c' : Ctx} {h : Heap} {nx : Nat} {objs : List Obj} {fz F : List Nat} (H : HeapOk ty c h fz) (hF : FzOk h F) (hC : FOk ty (frzCtx c F) h nx objs [] c') : FOk ty c h nx objs F c' where
  ext := (frz_ext H hF).trans hC.ext
  infos := hC.infos
  hI := fun b o hI => by
    rcases hC.hI b o hI with (hI | ⟨id, i, hm, hi, hon, hb, h1, h2⟩) | hI | ⟨id, i, hm, _⟩
    · exact .inl hI
    · exact .inr (.inr ⟨id, i, hm, hF id hm, hi, hon, hb, h1, h2⟩)
    · exact .inr (.inl hI)
    · simp at hm
  ib := hC.ib
  old := hC.old
theorem callF (hC : CallsOk P E C) {o : Oper} {cl : Call} {x : Operand} (hop : o.op = .call cl) (hcl : cl.callee = .value x) {t : List (Nat × V)} {h : Heap} {nx : Nat} {f : FuncId} {first captured args as r0 : List V} {F : List Nat}
    (hx : evalO t x = some (.fn f first captured)) (ha : evalAll t cl.args.toList = some args) (hr0 : C.pure (List V) f as some = some r0)
    (hs : ∀ (c : Ctx) (fz : List Nat) vs, HeapOk E.ty c h fz → LR E.ty c (first ++ args ++ captured) vs → FzOk h F ∧ LR E.ty (snapCtx (frzCtx c F)) as vs) :
    DoesF P E o t h nx (tupOf (impTup r0 nx).1) (impTup r0 nx).2 F := by
  intro c a fz H hfr hb ev next Q hn
  have hL := evalAll_ev ev _ _ ha
  have hf := ev _ _ hx
  simp only [VR] at hf
  obtain ⟨p, q, hfe, hp, hq⟩ := hf
  obtain ⟨fn, hfn⟩ := hC.pureFn _ f _ _ _ hr0
  obtain ⟨r1, he1, hspec⟩ := hC.pure _ f as _ r0 hr0
  simp only [Option.some.injEq] at he1
  subst he1
  obtain ⟨g1, g2, g3⟩ := hC.fn f fn hfn
  unfold Oper.wp
  rw [call_run hop hcl hfe rfl g1 g2 g3, Oper.upon_enter]
  obtain ⟨hF, hsn⟩ := hs c fz _ H ((hp.append hL).append hq)
  have HF := heap_frz H hF
  refine Calls.mono (hspec (frzCtx c F).w (frzCtx c F).I _ HF.ib hsn) fun e w' he => ?_
  obtain ⟨c1, xs, rfl, rfl, hP⟩ := he
  obtain ⟨h1, fz1, ws, H1, hL1, hxx, ho⟩ := hP.ex
  obtain ⟨c', hw', hCO, hL'⟩ := pure_back (c := frzCtx c F) (nx := nx) (hX := h) hfr hb hP.ext H1 hxx ho hL1
  show next _ _
  rw [← hw']
  exact hn c' _ (hCO.frz H hF) (tup_ok hL')
theorem frzCtx_nil {c : Ctx} : frzCtx c [] = c := by
  unfold frzCtx
  have : frzI c [] = c.I := by
    funext b o
    unfold frzI
    simp
  rw [this]
theorem step_front (hT : TyOk P E.ty) (hC : CallsOk P E C) (hD : InlDet C) {o : Oper} {st : St} {k : St → Option R} {r : R} (h : Vm.step E C o st k = some r) (hb : backOp E st.t o = false) :
    ∃ v objs F, k (withF o.dst v objs F st) = some r ∧ DoesF P E o st.t st.h st.nx v objs F := by
  have value : ∀ (v : V), (∀ (c : Ctx) (a : Act) (fz : List Nat), HeapOk E.ty c st.h fz → (∀ x u, evalO st.t x = some u → VR E.ty c u (a.eval x)) → ∃ y, (execOp a.eval o).run P c.w = .ok (.value y) c.w ∧ VR E.ty c v y) →
      k (withRes o.dst { v } st) = some r → ∃ v objs F, k (withF o.dst v objs F st) = some r ∧ DoesF P E o st.t st.h st.nx v objs F := by
    intro v hv hk
    refine ⟨v, [], [], hk, fun c a fz H hfr hb ev next Q hn => ?_⟩
    obtain ⟨y, hy, hvy⟩ := hv c a fz H ev
    exact upon_value rfl hy (hn c y (FOk.empty H) hvy)
  unfold Vm.step at h
  split at h
  · rename_i cl hop
    split at h
    · rename_i b hcl
      split at h
      case h_2 => simp at h
      rename_i args hargs
      split at h
      · rename_i x t r' hts
        split at h
        case h_2 => simp at h
        rename_i v hv
        refine value v (fun c a fz H ev => ?_) h
        have hL := evalAll_ev ev _ _ hargs
        simp only [LR] at hL
        obtain ⟨y, ys, e, hx, rfl⟩ := hL
        obtain ⟨z, hz, hzv⟩ := len_sound hT H (ty0 := o.type) (toList_get hts) hv hx
        exact ⟨z, builtin_run hop hcl e (fun _ => rfl) hz, hzv⟩
      · unfold backOp at hb
        rw [hop] at hb
        simp only [hcl] at hb
        simp at hb
      · unfold backOp at hb
        rw [hop] at hb
        simp only [hcl] at hb
        simp at hb
      · rename_i l _
        split at h
        case h_2 => simp at h
        rename_i v hv
        refine value v (fun c a fz H ev => ?_) h
        have hL := evalAll_ev ev _ _ hargs
        unfold minMax at hv
        split at hv
        · simp at hv
        · rename_i x0 r0
          simp only [LR] at hL
          obtain ⟨y, ys, e, hx, hr0⟩ := hL
          obtain ⟨z, hz, hzv⟩ := max_go _ _ _ _ _ hv hx hr0
          exact ⟨z, builtin_run hop hcl e (fun _ => rfl) hz, hzv⟩
      · rename_i l _
        split at h
        case h_2 => simp at h
        rename_i v hv
        refine value v (fun c a fz H ev => ?_) h
        have hL := evalAll_ev ev _ _ hargs
        unfold minMax at hv
        split at hv
        · simp at hv
        · rename_i x0 r0
          simp only [LR] at hL
          obtain ⟨y, ys, e, hx, hr0⟩ := hL
          obtain ⟨z, hz, hzv⟩ := min_go _ _ _ _ _ hv hx hr0
          exact ⟨z, builtin_run hop hcl e (fun _ => rfl) hz, hzv⟩
      · simp at h
    · rename_i x hcl
      split at h
      case h_2 => simp at h
      rename_i f first captured args hx hargs
      unfold callV at h
      split at h
      · split at h
        case h_2 => simp at h
        rename_i as has
        obtain ⟨r0, h1, h2⟩ := hD.1 R f as _ r h
        refine ⟨_, _, [], h1, callF hC hop hcl hx hargs (h2 (List V) some) fun c fz vs H hl => ⟨by intro id hid; simp at hid, ?_⟩⟩
        rw [frzCtx_nil]
        exact snapArgs_ok H has hl
      · split at h
        case h_2 => simp at h
        rename_i p hp
        split at h
        case h_2 => simp at h
        rename_i as has
        obtain ⟨r0, h1, h2⟩ := hD.1 R f as _ r h
        have hF := fixArgs_FzOk hp
        refine ⟨_, _, p.2, h1, callF hC hop hcl hx hargs (h2 (List V) some) fun c fz vs H hl => ⟨hF, ?_⟩⟩
        have HF := heap_frz H hF
        have H0 : HeapOk E.ty (frzCtx c p.2) [] (p.2 ++ fz) := ⟨fun _ _ _ hg => by simp [get] at hg, fun _ _ _ _ _ _ hg => by simp [get] at hg, HF.ib⟩
        exact snapArgs_ok H0 has (fixArgs_ok H hF hp (fun _ h => h) hl)
      · rename_i hm
        unfold backOp at hb
        rw [hop] at hb
        simp only [hcl, hx, hm] at hb
        simp at hb
    · simp at h
  · rename_i hop; unfold backOp at hb; rw [hop] at hb; simp at hb
  · rename_i hop; unfold backOp at hb; rw [hop] at hb; simp at hb
  · rename_i hop; unfold backOp at hb; rw [hop] at hb; simp at hb
  · rename_i hop; unfold backOp at hb; rw [hop] at hb; simp at hb
  · obtain ⟨op', h, _, hop'⟩ := splitIx_det h
    split at h
    case h_2 => simp at h
    rename_i x hx
    obtain ⟨hok, hk⟩ := cond_some h
    refine ⟨x.v, x.objs, x.fz, hk, fun c a fz H hfr hb ev next Q hn => ?_⟩
    obtain ⟨c', y, hrun, hF⟩ := front_sound (o := { o with op := op' }) hT H ev hfr hb hx hok
    rw [split_exec (a := a) ev hop'] at hrun
    exact upon_value rfl hrun (hn c' y (hF.fok H) hF.vr)
end
end Go.Vm
end
section
namespace Go.Vm
open Go.RowKit
section
variable {P : Program} {E : Env} {C : Calls} {R : Type}
theorem get_dropK {α : Type} {ds : List Nat} : ∀ {l : List (Nat × α)} {t : Nat} {v : α}, get t (dropK ds l) = some v → has t ds = false ∧ get t l = some v
  | [], _, _, h => by simp [dropK, get] at h
  | p :: r, t, v, h => by
    unfold dropK at h
    cases hk : has p.1 ds with
    | true =>
      rw [hk] at h
      simp only [cond_true] at h
      obtain ⟨h1, h2⟩ := get_dropK h
      refine ⟨h1, ?_⟩
      simp only [get]
      cases hb : Nat.beq t p.1 with
      | true => obtain rfl := beq_true.1 hb; rw [hk] at h1; cases h1
      | false => exact h2
    | false =>
      rw [hk] at h
      simp only [cond_false, get] at h ⊢
      cases hb : Nat.beq t p.1 with
      | true =>
        rw [hb] at h
        obtain rfl := beq_true.1 hb
        exact ⟨hk, h⟩
      | false =>
        rw [hb] at h
        exact get_dropK h
theorem get_dropK_none {α : Type} {ds : List Nat} {l : List (Nat × α)} {t : Nat} (h : has t ds = true) : get t (dropK ds l) = none := by
  cases hg : get t (dropK ds l) with
  | none => rfl
  | some v => rw [(get_dropK hg).1] at h; cases h
theorem get_dropK_keep {α : Type} {ds : List Nat} : ∀ {l : List (Nat × α)} {t : Nat}, has t ds = false → get t (dropK ds l) = get t l
  | [], _, _ => rfl
  | p :: r, t, h => by
    unfold dropK
    cases hk : has p.1 ds with
    | true =>
      simp only [cond_true, get]
      cases hb : Nat.beq t p.1 with
      | true => obtain rfl := beq_true.1 hb; rw [hk] at h; cases h
      | false => exact get_dropK_keep h
    | false =>
      simp only [cond_false, get]
      cases hb : Nat.beq t p.1 with
      | true => rfl
      | false => exact get_dropK_keep h
theorem get_graft {nx : Nat} : ∀ {src : Heap} {h : Heap} {id : Nat}, get id (graft nx src h) = if nx ≤ id then (match get id src with | some o => some o | none => get id h) else get id h
  | [], h, id => by simp [graft, get]
  | p :: r, h, id => by
    unfold graft
    cases hb : Nat.ble nx p.1 with
    | true =>
      simp only [cond_true, get]
      by_cases hid : id = p.1
      · subst hid
        rw [get_ins_same, if_pos (by simpa using hb)]
        simp
      · rw [get_ins_other _ hid, get_graft]
        rw [beq_false.2 hid]
        rfl
    | false =>
      simp only [cond_false, get]
      rw [get_graft]
      by_cases hid : id = p.1
      · subst hid
        have : ¬ nx ≤ p.1 := fun hle => by rw [Nat.ble_eq_true_of_le hle] at hb; cases hb
        rw [if_neg this, if_neg this]
      · rw [beq_false.2 hid]
        rfl
theorem keys_lt {nx : Nat} : ∀ {h : Heap} {id : Nat} {o : Obj}, keysBelow nx h = true → get id h = some o → id < nx
  | [], _, _, _, hg => by simp [get] at hg
  | p :: r, id, o, hk, hg => by
    simp only [keysBelow, Bool.and_eq_true] at hk
    simp only [get] at hg
    cases hb : Nat.beq id p.1 with
    | true => obtain rfl := beq_true.1 hb; simpa using hk.1
    | false => rw [hb] at hg; exact keys_lt hk.2 hg
theorem mem_news : ∀ {n a id : Nat}, id ∈ news a n ↔ a ≤ id ∧ id < a + n
  | 0, a, id => by simp [news]
  | n + 1, a, id => by
    simp only [news, List.mem_cons, mem_news (n := n)]
    constructor
    · rintro (rfl | h) <;> omega
    · intro h
      by_cases e : id = a
      · exact .inl e
      · exact .inr (by omega)
theorem mem_apartL {m : Nat} : ∀ {log : List Lg} {l : Lg}, l ∈ apartL m log ↔ l ∈ log ∧ bitN m l.i = false
  | [], l => by simp [apartL]
  | x :: r, l => by
    unfold apartL
    cases hb : bitN m x.i with
    | true =>
      simp only [cond_true, mem_apartL (log := r), List.mem_cons]
      constructor
      · rintro ⟨h1, h2⟩; exact ⟨.inr h1, h2⟩
      · rintro ⟨h1 | h1, h2⟩
        · subst h1; rw [hb] at h2; cases h2
        · exact ⟨h1, h2⟩
    | false =>
      simp only [cond_false, List.mem_cons, mem_apartL (log := r)]
      constructor
      · rintro (h1 | ⟨h1, h2⟩)
        · subst h1; exact ⟨.inl rfl, hb⟩
        · exact ⟨.inr h1, h2⟩
      · rintro ⟨h1 | h1, h2⟩
        · exact .inl h1
        · exact .inr ⟨h1, h2⟩
theorem anyB_of {l : Lg} : ∀ {u : List Lg}, l ∈ u → l.b = true → anyB u = true
  | [], h, _ => by simp at h
  | x :: r, h, hb => by
    simp only [anyB, Bool.or_eq_true]
    rcases List.mem_cons.1 h with rfl | h
    · exact .inl hb
    · exact .inr (anyB_of h hb)
theorem anyAll_of {l : Lg} : ∀ {u : List Lg}, l ∈ u → l.all = true → anyAll u = true
  | [], h, _ => by simp at h
  | x :: r, h, hb => by
    simp only [anyAll, Bool.or_eq_true]
    rcases List.mem_cons.1 h with rfl | h
    · exact .inl hb
    · exact .inr (anyAll_of h hb)
theorem mem_idsOf {l : Lg} {id : Nat} : ∀ {u : List Lg}, l ∈ u → id ∈ l.ids → id ∈ idsOf u
  | [], h, _ => by simp at h
  | x :: r, h, hb => by
    simp only [idsOf, List.mem_append]
    rcases List.mem_cons.1 h with rfl | h
    · exact .inl hb
    · exact .inr (mem_idsOf h hb)
theorem get_viewH {u : List Lg} {h : Heap} {id : Nat} {o : Obj} (hg : get id (viewH u h) = some o) : get id h = some o ∧ ∀ l ∈ u, id ∉ l.ids ∧ l.all = false := by
  unfold viewH at hg
  cases ha : anyAll u with
  | true => rw [ha] at hg; simp [get] at hg
  | false =>
    rw [ha] at hg
    simp only [cond_false] at hg
    obtain ⟨h1, h2⟩ := get_dropK hg
    refine ⟨h2, fun l hl => ⟨fun hid => ?_, ?_⟩⟩
    · have := has_mem.2 (mem_idsOf hl hid)
      rw [h1] at this; cases this
    · cases hla : l.all with
      | false => rfl
      | true => rw [anyAll_of hl hla] at ha; cases ha
theorem cond_none {α : Type} {b : Bool} {x : Option α} {r : α} (h : cond b none x = some r) : b = false ∧ x = some r := by
  cases b with
  | false => exact ⟨rfl, h⟩
  | true => simp at h
theorem store_other {st : St} {t : TypeId} {i off : Nat} {a x : V} {b : Bk} (h : storeV E.ty st t a x = some b) (hi : a = .ptr i off ∨ ∃ j, a = .elem i j off) : ∀ id, id < st.nx → id ≠ i → get id b.st.h = get id st.h := by
  intro id hlt hne
  unfold storeV at h
  rcases hi with rfl | ⟨j, rfl⟩
  · split at h
    case h_2 => rename_i heq; cases heq
    case h_3 => simp at h
    rename_i ti i' off' _ heq
    cases heq
    split at h
    case h_2 => simp at h
    split at h
    · cases he : slElem E.ty t with
      | none => rw [he] at h; simp at h
      | some e =>
        rw [he] at h
        simp only [Option.bind_some] at h
        cases ho : emptyObj E.ty e with
        | none => rw [ho] at h; simp at h
        | some o =>
          rw [ho] at h
          simp only [Option.bind_some] at h
          obtain ⟨_, h⟩ := cond_some h
          simp only [Option.some.injEq] at h
          subst h
          rw [get_ins_other _ hne, get_ins_other _ (by omega)]
    · obtain ⟨_, h⟩ := cond_some h
      simp only [Option.some.injEq] at h
      subst h
      rw [get_ins_other _ hne]
  · split at h
    case h_1 => rename_i heq; cases heq
    case h_3 => simp at h
    rename_i ti i' j' off' _ heq
    cases heq
    cases hz : has i st.fz with
    | true => rw [hz] at h; simp at h
    | false =>
      rw [hz] at h
      simp only [cond_false] at h
      split at h
      · split at h
        · obtain ⟨_, h⟩ := cond_some h
          simp only [Option.some.injEq] at h
          subst h
          rw [get_ins_other _ hne]
        · simp at h
      · split at h
        · obtain ⟨_, h⟩ := cond_some h
          simp only [Option.some.injEq] at h
          subst h
          rw [get_ins_other _ hne]
        · simp at h
      · split at h
        · rename_i y g _ _
          cases hg : has i g with
          | true => rw [hg] at h; simp at h
          | false =>
            rw [hg] at h
            simp only [cond_false] at h
            split at h
            · obtain ⟨_, h⟩ := cond_some h
              simp only [Option.some.injEq] at h
              subst h
              rw [get_ins_other _ hne]
            · simp at h
        · simp at h
      · simp at h
theorem put_other {st : St} {t : TypeId} {i : Nat} {k x : V} {b : Bk} (h : mapPut E.ty st t (.mp i) k x = some b) : ∀ id, id ≠ i → get id b.st.h = get id st.h := by
  intro id hne
  unfold mapPut at h
  simp only at h
  split at h
  · split at h
    · obtain ⟨_, h⟩ := cond_some h
      simp only [Option.some.injEq] at h
      subst h
      rw [get_ins_other _ hne]
    · simp at h
  · simp at h
theorem enter_other {st : St} {t : TypeId} {i : Nat} {k : V} {b : Bk} (h : mapEnter E.ty st t (.mp i) k = some b) : ∀ id, id ≠ i → get id b.st.h = get id st.h := by
  intro id hne
  unfold mapEnter at h
  simp only at h
  split at h
  · split at h
    · split at h
      · obtain ⟨_, h⟩ := cond_some h
        simp only [Option.some.injEq] at h
        subst h
        rw [get_ins_other _ hne]
      · simp at h
    · simp at h
  · simp at h
theorem stamp_other {st : St} {i : Nat} {s x : V} {b : Bk} (h : mapStamp E.ty st (.mp i) s x = some b) : ∀ id, id ≠ i → get id b.st.h = get id st.h := by
  intro id hne
  unfold mapStamp at h
  split at h
  case h_2 => simp at h
  rename_i heq
  cases heq
  split at h
  · split at h
    · obtain ⟨_, h⟩ := cond_some h
      simp only [Option.some.injEq] at h
      subst h
      rw [get_ins_other _ hne]
    · simp at h
  · simp at h
theorem append_other {st : St} {t : TypeId} {i : Nat} {a x : V} {b : Bk} (h : appendV E.ty st t a x = some b) (ha : a = .own i ∨ ∃ o l, a = .owns i o l) : ∀ id, id < st.nx → id ≠ i → get id b.st.h = get id st.h := by
  intro id hlt hne
  unfold appendV at h
  split at h
  case h_2 => simp at h
  split at h
  case h_2 => simp at h
  rename_i c _ _
  replace h := (cond_none h).2
  rcases ha with rfl | ⟨o, l, rfl⟩
  · simp only at h
    split at h
    case h_2 => simp at h
    rename_i ob _
    cases hj : joinObj ob c with
    | none => rw [hj] at h; simp at h
    | some j =>
      rw [hj] at h
      simp only [Option.map_some, Option.some.injEq] at h
      subst h
      rw [get_ins_other _ (by omega), get_del_other hne]
  · simp only at h
    replace h := (cond_none h).2
    split at h
    case h_2 => simp at h
    rename_i ob _
    cases hj : joinObj ob c with
    | none => rw [hj] at h; simp at h
    | some j =>
      rw [hj] at h
      simp only [Option.map_some, Option.some.injEq] at h
      subst h
      rw [get_ins_other _ (by omega), get_del_other hne]
theorem clear_other {st : St} {e : TypeId} {i : Nat} {a : V} {b : Bk} (h : clearV E.ty st e a = some b) (ha : a = .own i ∨ ∃ o l, a = .owns i o l) : ∀ id, id ≠ i → get id b.st.h = get id st.h := by
  intro id hne
  unfold clearV at h
  rcases ha with rfl | ⟨o, l, rfl⟩
  · obtain ⟨_, _, _, _, _, _, _, _, rfl⟩ := clearAt_cases h
    rw [get_ins_other _ hne]
  · obtain ⟨_, _, _, _, _, _, _, _, rfl⟩ := clearAt_cases h
    rw [get_ins_other _ hne]
theorem step_other {o : Oper} {st sv : St} {l : List Nat} (h : Vm.step E C o st some = some sv) (hb : backOp E st.t o = true) (ht : targets st.t o = some l) : ∀ id, id < st.nx → id ∉ l → get id sv.h = get id st.h := by
  intro id hlt hid
  unfold Vm.step at h
  split at h
  · rename_i cl hop
    split at h
    · rename_i bi hcl
      split at h
      case h_2 => simp at h
      rename_i args hargs
      have hhead : ∀ x r, args = x :: r → (x = .own id ∨ (∃ o l, x = .owns id o l)) → id ∈ l := by
        intro x r he hx
        subst he
        unfold targets at ht
        rw [hop] at ht
        simp only [hcl] at ht
        cases hal : cl.args.toList with
        | nil => rw [hal] at hargs; simp [Vm.evalAll] at hargs
        | cons a rest =>
          rw [hal] at ht hargs
          simp only [Vm.evalAll] at hargs
          split at hargs
          · rename_i v s hv hs
            simp only [Option.some.injEq, List.cons.injEq] at hargs
            obtain ⟨rfl, _⟩ := hargs
            simp only [hv] at ht
            rcases hx with rfl | ⟨o, l', rfl⟩ <;> (simp only [Option.some.injEq] at ht; subst ht; simp)
          · simp at hargs
      split at h
      · unfold backOp at hb; rw [hop] at hb; simp only [hcl] at hb; simp at hb
      · rename_i s x t t2 hts
        split at h
        case h_2 => simp at h
        rename_i e2 b he hbb
        obtain ⟨_, hk⟩ := cond_some h
        simp only [Option.some.injEq] at hk
        subst hk
        have hs : ∀ i, (s = .own i ∨ ∃ o l, s = .owns i o l) → get id b.st.h = get id st.h := fun i hi => append_other hbb hi id hlt fun e => hid (hhead s _ rfl (e ▸ hi))
        have hval : (∃ i, s = .own i ∨ ∃ o l, s = .owns i o l) ∨ False := by
          left
          unfold targets at ht
          rw [hop] at ht
          simp only [hcl] at ht
          cases hal : cl.args.toList with
          | nil => rw [hal] at hargs; simp [Vm.evalAll] at hargs
          | cons a rest =>
            rw [hal] at ht hargs
            simp only [Vm.evalAll] at hargs
            split at hargs
            · rename_i v s' hv hs'
              simp only [Option.some.injEq, List.cons.injEq] at hargs
              obtain ⟨rfl, _⟩ := hargs
              simp only [hv] at ht
              unfold appendV at hbb
              split at hbb
              case h_2 => simp at hbb
              split at hbb
              case h_2 => simp at hbb
              rename_i c _ _
              replace hbb := (cond_none hbb).2
              split at hbb
              · exact ⟨_, .inl rfl⟩
              · exact ⟨_, .inr ⟨_, _, rfl⟩⟩
              · simp at ht
              · simp at hbb
            · simp at hargs
        rcases hval with ⟨i, hi⟩ | hf
        · exact hs i hi
        · exact hf.elim
      · rename_i x t r' hts
        split at h
        case h_2 => simp at h
        rename_i b hbb
        obtain ⟨_, hk⟩ := cond_some h
        simp only [Option.some.injEq] at hk
        subst hk
        cases he : slElem E.ty t with
        | none => rw [he] at hbb; simp at hbb
        | some el =>
          rw [he] at hbb
          have hc : clearV E.ty st el x = some b := hbb
          have hc' := hc
          unfold clearV at hc'
          split at hc'
          · exact clear_other hc (.inl rfl) id fun e => hid (hhead _ _ rfl (.inl (by rw [e])))
          · exact clear_other hc (.inr ⟨_, _, rfl⟩) id fun e => hid (hhead _ _ rfl (.inr ⟨_, _, by rw [e]⟩))
          · simp only [Option.some.injEq] at hc'; subst hc'; rfl
          · simp only [Option.some.injEq] at hc'; subst hc'; rfl
          · simp only [Option.some.injEq] at hc'; subst hc'; rfl
          · simp at hc'
      · unfold backOp at hb; rw [hop] at hb; simp only [hcl] at hb; simp at hb
      · unfold backOp at hb; rw [hop] at hb; simp only [hcl] at hb; simp at hb
      · simp at h
    · rename_i x hx
      unfold targets at ht
      rw [hop] at ht
      simp only [hx] at ht
      simp at ht
    · simp at h
  · rename_i t p x hop
    split at h
    case h_2 => simp at h
    rename_i vp vx hp hx
    split at h
    case h_2 => simp at h
    rename_i b hbb
    obtain ⟨_, hk⟩ := cond_some h
    simp only [Option.some.injEq] at hk
    subst hk
    unfold targets at ht
    rw [hop] at ht
    simp only [hp] at ht
    have hcase : ∃ i, (∃ off, vp = .ptr i off ∨ ∃ j, vp = .elem i j off) := by
      unfold storeV at hbb
      split at hbb
      · exact ⟨_, _, .inl rfl⟩
      · exact ⟨_, _, .inr ⟨_, rfl⟩⟩
      · simp at hbb
    obtain ⟨i, off, hi⟩ := hcase
    refine store_other hbb hi id hlt fun e => hid ?_
    rcases hi with rfl | ⟨j, rfl⟩ <;> (simp only [Option.some.injEq] at ht; subst ht; simp [e])
  · rename_i t m kx x hop
    split at h
    case h_2 => simp at h
    rename_i vm vk vx hm hkk hx
    split at h
    case h_2 => simp at h
    rename_i b hbb
    obtain ⟨_, hk⟩ := cond_some h
    simp only [Option.some.injEq] at hk
    subst hk
    unfold targets at ht
    rw [hop] at ht
    simp only [hm] at ht
    have hcase : ∃ i, vm = .mp i := by
      unfold mapPut at hbb
      split at hbb
      · exact ⟨_, rfl⟩
      · simp at hbb
    obtain ⟨i, rfl⟩ := hcase
    simp only [Option.some.injEq] at ht
    subst ht
    exact put_other hbb id fun e => hid (by simp [e])
  · rename_i t m kx hop
    split at h
    case h_2 => simp at h
    rename_i vm vk hm hkk
    split at h
    case h_2 => simp at h
    rename_i b hbb
    obtain ⟨_, hk⟩ := cond_some h
    simp only [Option.some.injEq] at hk
    subst hk
    unfold targets at ht
    rw [hop] at ht
    simp only [hm] at ht
    have hcase : ∃ i, vm = .mp i := by
      unfold mapEnter at hbb
      split at hbb
      · exact ⟨_, rfl⟩
      · simp at hbb
    obtain ⟨i, rfl⟩ := hcase
    simp only [Option.some.injEq] at ht
    subst ht
    exact enter_other hbb id fun e => hid (by simp [e])
  · rename_i t m s x hop
    split at h
    case h_2 => simp at h
    rename_i vm vs vx hm hss hx
    split at h
    case h_2 => simp at h
    rename_i b hbb
    obtain ⟨_, hk⟩ := cond_some h
    simp only [Option.some.injEq] at hk
    subst hk
    unfold targets at ht
    rw [hop] at ht
    simp only [hm] at ht
    have hcase : ∃ i, vm = .mp i := by
      unfold mapStamp at hbb
      split at hbb
      · exact ⟨_, rfl⟩
      · simp at hbb
    obtain ⟨i, rfl⟩ := hcase
    simp only [Option.some.injEq] at ht
    subst ht
    exact stamp_other hbb id fun e => hid (by simp [e])
  · rename_i n1 n2 n3 n4 n5
    unfold backOp at hb
    split at hb
    · rename_i hop; exact absurd hop (n2 _ _ _)
    · rename_i hop; exact absurd hop (n3 _ _ _ _)
    · rename_i hop; exact absurd hop (n4 _ _ _)
    · rename_i hop; exact absurd hop (n5 _ _ _ _)
    · rename_i hop; exact absurd hop (n1 _)
    · simp at hb
end
end Go.Vm
end
section
namespace Go.Vm
open Go.RowKit
section
variable {P : Program} {E : Env} {C : Calls} {R : Type} {ops : Array Oper} {n : Nat}
def GW (ops : Array Oper) (o : Oper) (st : St) (b : Bool) : Prop :=
  match o.guard with
  | none => b = true
  | some (g, want) => ∃ d u, (ops[g]?).bind (·.dst) = some d ∧ get d st.t = some u ∧ ((u = .undef ∧ b = false) ∨ ∃ x, u = .bool x ∧ b = (x == want))
theorem guarded_cases {o : Oper} {st : St} {yes no : St → Option R} {r : R} (h : guarded ops.toList o st yes no = some r) :
    ∃ b st1, GW ops o st b ∧ (∀ t, get t st1.t = get t st.t) ∧ st1.h = st.h ∧ st1.nx = st.nx ∧ st1.fz = st.fz ∧ st1.lo = st.lo ∧ (bif b then yes else no) st1 = some r := by
  unfold guarded at h
  split at h
  · rename_i hg
    exact ⟨true, st, by unfold GW; rw [hg], fun _ => rfl, rfl, rfl, rfl, rfl, h⟩
  · rename_i j want hg
    split at h
    · simp at h
    · rename_i d hd
      have hd' : (ops[j]?).bind (·.dst) = some d := by rw [← hd]; simp
      split at h
      · rename_i b hb
        have same : ∀ t, get t (ins d (.bool b) st.t) = get t st.t := fun t => by
          by_cases e : t = d
          · subst e; rw [get_ins_same, hb]
          · rw [get_ins_other _ e]
        refine ⟨b == want, { st with t := ins d (.bool b) st.t }, ?_, same, rfl, rfl, rfl, rfl, ?_⟩
        · unfold GW; rw [hg]; exact ⟨d, _, hd', hb, .inr ⟨b, rfl, rfl⟩⟩
        · cases b <;> cases want <;> exact h
      · rename_i hb
        exact ⟨false, st, by unfold GW; rw [hg]; exact ⟨d, _, hd', hb, .inl ⟨rfl, rfl⟩⟩, fun _ => rfl, rfl, rfl, rfl, rfl, h⟩
      · simp at h
def DoesB (P : Program) (E : Env) (n : Nat) (o : Oper) (tv : List (Nat × V)) (st : St) (vo : Option V) (st' : St) : Prop :=
  ∀ (c : Ctx) (a : Act), HeapOk E.ty c st.h st.fz → (∀ id, st.nx ≤ id → c.μ id = none) → Room c → st.lo ≤ st.nx → a.defers = [] → a.tmps.size = n →
    (∀ t u, get t tv = some u → ∃ x, a.tmps[t]? = some x ∧ VR E.ty c u x) →
    ∀ (next : Act → World → Prop) (Q : Exit → Act → World → Prop), (∀ c' x, Ext c c' → HeapOk E.ty c' st'.h st'.fz → (∀ id, st'.nx ≤ id → c'.μ id = none) → (∀ d v, o.dst = some d → vo = some v → VR E.ty c' v x) → next (a.put o.dst x) c'.w) →
      o.wp P a c.w next Q
def ViewD (P : Program) (E : Env) (o : Oper) (p : Pl) (tv : List (Nat × V)) (st : St) (log : List Lg) (v : V) (objs : List Obj) (F : List Nat) : Prop :=
  (∃ hv, DoesF P E o tv hv st.nx v objs F ∧ ∀ id x, get id hv = some x → get id st.h = some x ∧ ∀ l ∈ log, bitN p.m l.i = false → id ∉ l.ids ∧ l.all = false) ∨
  (objs = [] ∧ F = [] ∧ ∃ l0 hv1 hv2, l0 ∈ log ∧ l0.b = true ∧ bitN p.m l0.i = false ∧ DoesF P E o tv hv1 st.nx v [] [] ∧ DoesF P E o tv hv2 st.nx v [] [] ∧
    (∀ id x, get id hv2 = some x → get id st.h = some x ∧ ∀ l ∈ log, bitN p.m l.i = false → l.i ≠ l0.i → id ∉ l.ids ∧ l.all = false) ∧
    (∀ id x, get id hv1 = some x → get id l0.h0 = some x ∧ ∀ l ∈ log, bitN p.m l.i = false → l.i ≠ l0.i → id ∉ l.ids ∧ l.all = false))
structure EvOk (P : Program) (E : Env) (ops : Array Oper) (n : Nat) (p : Pl) (o : Oper) (st : St) (log : List Lg) (vo : Option V) (st' : St) (log' : List Lg) : Prop where
  op : ops[p.i]? = some o
  keys : ∀ id x, get id st.h = some x → id < st.nx
  slot : ∀ t, get t st'.t = if o.dst = some t then vo else get t st.t
  lo : st'.lo = st.lo
  nx : st.nx ≤ st'.nx
  log : ∃ l, log' = l :: log ∧ l.i = p.i ∧ l.h0 = st.h ∧ (∀ id, st.nx ≤ id → id < st'.nx → id ∈ l.ids) ∧ (l.all = false → ∀ id, id < st.nx → id ∉ l.ids → get id st'.h = get id st.h) ∧
    ((l.b = false ∧
        ((GW ops o st false ∧ vo = some .undef ∧ st'.h = st.h ∧ st'.nx = st.nx ∧ st'.fz = st.fz) ∨
         (GW ops o st true ∧ ∃ v objs F tv, vo = some v ∧ ViewD P E o p tv st log v objs F ∧ (∀ t u, get t tv = some u → get t st.t = some u ∧ has t p.x = false) ∧
            (∀ id, get id st'.h = if st.nx ≤ id ∧ id - st.nx < objs.length then objs[id - st.nx]? else get id st.h) ∧ st'.nx = st.nx + objs.length ∧ st'.fz = F ++ st.fz ∧
            ((∃ l ∈ log, bitN p.m l.i = false ∧ l.b = true) → objs = [] ∧ F = [])))) ∨
     (l.b = true ∧ GW ops o st true ∧ (∀ l ∈ log, bitN p.m l.i = true) ∧ ∃ tv, (∀ t u, get t tv = some u → get t st.t = some u ∧ has t p.x = false) ∧ DoesB P E n o tv st vo st'))
theorem backSlot_get {d : Option Nat} {tv t : List (Nat × V)} (s : Nat) : get s (backSlot d tv t) = if d = some s then (match d with | some d => get d tv | none => none) else get s t := by
  unfold backSlot
  cases d with
  | none => simp
  | some d =>
    simp only
    cases hg : get d tv with
    | none =>
      simp only
      by_cases e : s = d
      · subst e
        rw [get_dropK_none (by simp [has, Nat.beq_refl])]; simp
      · rw [get_dropK_keep (by simp [has]; exact beq_false.2 e), if_neg (by simpa using Ne.symm e)]
    | some v =>
      simp only
      by_cases e : s = d
      · subst e; rw [get_ins_same]; simp
      · rw [get_ins_other _ e, if_neg (by simpa using Ne.symm e)]
theorem setT_get {d : Option Nat} {v : V} {t : List (Nat × V)} (s : Nat) : get s (setT d v t) = if d = some s then some v else get s t := by
  cases d with
  | none => simp [setT]
  | some d =>
    simp only [setT]
    by_cases e : s = d
    · subst e; rw [get_ins_same]; simp
    · rw [get_ins_other _ e, if_neg (by simpa using Ne.symm e)]
theorem mem_backsL {l : Lg} : ∀ {u : List Lg}, l ∈ backsL u → l ∈ u ∧ l.b = true
  | [], h => by simp [backsL] at h
  | a :: r, h => by
    unfold backsL at h
    cases hb : a.b with
    | true =>
      rw [hb] at h
      rcases List.mem_cons.1 h with rfl | h
      · exact ⟨by simp, hb⟩
      · exact ⟨List.mem_cons_of_mem _ (mem_backsL h).1, (mem_backsL h).2⟩
    | false =>
      rw [hb] at h
      exact ⟨List.mem_cons_of_mem _ (mem_backsL h).1, (mem_backsL h).2⟩
theorem mem_butL {l : Lg} {i : Nat} (hne : l.i ≠ i) : ∀ {u : List Lg}, l ∈ u → l ∈ butL i u
  | [], h => by simp at h
  | a :: r, h => by
    unfold butL
    rcases List.mem_cons.1 h with rfl | h
    · rw [beq_false.2 hne]; simp
    · cases Nat.beq a.i i with
      | true => exact mem_butL hne h
      | false => exact List.mem_cons_of_mem _ (mem_butL hne h)
theorem swapOf_ok {all : List Oper} {o : Oper} {u : List Lg} {q : Lg × List Lg} (h : swapOf all o u = some q) : q.1 ∈ u ∧ q.1.b = true ∧ ∀ l ∈ u, l.i ≠ q.1.i → l ∈ q.2 := by
  unfold swapOf at h
  split at h
  case h_2 => cases h
  split at h
  case h_2 => cases h
  rename_i l0 hl0
  split at h
  case h_2 => cases h
  cases h
  have h1 := mem_backsL (u := u) (l := l0) (by rw [hl0]; simp)
  exact ⟨h1.1, h1.2, fun l hl hne => mem_butL hne hl⟩
theorem runD_trace (hT : TyOk P E.ty) (hW : WriteOk P E.ty) (hC : CallsOk P E C) (hD : InlDet C) (hd : ∀ o ∈ ops.toList, ∀ d, o.dst = some d → d < n) {k : St → Option R} {r : R} : ∀ (pl : List Pl) (st : St) (log : List Lg), runD E C ops.toList pl st log k = some r →
    ∃ (σ : Nat → St) (L : Nat → List Lg) (o : Nat → Oper) (vo : Nat → Option V), σ 0 = st ∧ L 0 = log ∧ (∀ j (h : j < pl.length), EvOk P E ops n pl[j] (o j) (σ j) (L j) (vo j) (σ (j + 1)) (L (j + 1))) ∧
      (∀ id x, get id (σ pl.length).h = some x → id < (σ pl.length).nx) ∧ k (σ pl.length) = some r
  | [], st, log, h => by
    simp only [runD] at h
    obtain ⟨hk, h⟩ := cond_some h
    exact ⟨fun _ => st, fun _ => log, fun _ => default, fun _ => none, rfl, rfl, fun j h => absurd h (by simp), fun id x hg => keys_lt hk hg, h⟩
  | p :: pl, st, log, h => by
    simp only [runD] at h
    split at h
    case h_1 => simp at h
    rename_i o ho
    obtain ⟨hkk, h⟩ := cond_none h
    have hkeys : ∀ id x, get id st.h = some x → id < st.nx := fun id x hg => keys_lt (by simpa [notB] using hkk) hg
    have hop : ops[p.i]? = some o := by rw [← ho]; simp
    have hmem : o ∈ ops.toList := List.mem_of_getElem? ho
    obtain ⟨b, st1, hgw, ht1, hh1, hn1, hf1, hl1, h⟩ := guarded_cases h
    have fin : ∀ (st' : St) (l : Lg) (vo : Option V), runD E C ops.toList pl st' (l :: log) k = some r → EvOk P E ops n p o st log vo st' (l :: log) →
        ∃ (σ : Nat → St) (L : Nat → List Lg) (o : Nat → Oper) (vo : Nat → Option V), σ 0 = st ∧ L 0 = log ∧ (∀ j (h : j < (p :: pl).length), EvOk P E ops n (p :: pl)[j] (o j) (σ j) (L j) (vo j) (σ (j + 1)) (L (j + 1))) ∧
          (∀ id x, get id (σ (p :: pl).length).h = some x → id < (σ (p :: pl).length).nx) ∧ k (σ (p :: pl).length) = some r := by
      intro st' l v hr hE
      obtain ⟨σ, L, oo, vo, e1, e2, e3, e4, e5⟩ := runD_trace hT hW hC hD hd pl st' (l :: log) hr
      refine ⟨fun j => match j with | 0 => st | j + 1 => σ j, fun j => match j with | 0 => log | j + 1 => L j, fun j => match j with | 0 => o | j + 1 => oo j, fun j => match j with | 0 => v | j + 1 => vo j, rfl, rfl, fun j hj => ?_, e4, e5⟩
      cases j with
      | zero => show EvOk P E ops n p o st log v (σ 0) (L 0); rw [e1, e2]; exact hE
      | succ j => exact e3 j (by simpa using hj)
    cases b with
    | false =>
      simp only [cond_false] at h
      refine fin _ _ (some .undef) h ⟨hop, hkeys, fun t => ?_, hl1, by rw [hn1]; exact Nat.le_refl _, _, rfl, rfl, hh1, fun id a b => ?_, fun _ id _ _ => by rw [hh1], .inl ⟨rfl, .inl ⟨hgw, rfl, hh1, hn1, hf1⟩⟩⟩
      · show get t (setT o.dst .undef st1.t) = _
        rw [setT_get, ht1]
      · have b' : id < st1.nx := b
        omega
    | true =>
      simp only [cond_true] at h
      have tvs : ∀ t u, get t (dropK p.x st1.t) = some u → get t st.t = some u ∧ has t p.x = false := fun t u hg => by
        obtain ⟨h1, h2⟩ := get_dropK hg
        exact ⟨by rw [← ht1]; exact h2, h1⟩
      split at h
      · rename_i hap
        obtain ⟨sv, hk, hdet⟩ := step_det hD h
        obtain ⟨hchk, hk⟩ := cond_none hk
        have hchk : st1.nx ≤ sv.nx ∧ sv.lo = st1.lo := by
          simp only [notB, Bool.not_eq_false', Bool.and_eq_true] at hchk
          exact ⟨by simpa using hchk.1, beq_true.1 hchk.2⟩
        cases hb : backOp E (dropK p.x st1.t) o with
        | false =>
          obtain ⟨v, objs, F, hsv, hdoes⟩ := step_front (st := { st1 with t := dropK p.x st1.t }) hT hC hD ((hdet St some).trans rfl) hb
          simp only [Option.some.injEq] at hsv
          subst hsv
          refine fin _ _ (some v) hk ⟨hop, hkeys, fun t => ?_, hl1, by rw [← hn1]; exact Nat.le_add_right _ _, _, rfl, rfl, hh1, fun id a b' => ?_, fun _ id hlt _ => ?_, .inl ⟨hb, .inr ⟨hgw, v, objs, F, dropK p.x st1.t, rfl, .inl ⟨st1.h, by rw [← hn1]; exact hdoes, fun id x hg => ⟨by rw [← hh1]; exact hg, fun l hl hbit => ?_⟩⟩, tvs, fun id => ?_, by rw [← hn1]; rfl, by rw [← hf1]; rfl, ?_⟩⟩⟩
          · show get t (backSlot _ _ st1.t) = _
            rw [backSlot_get, ht1]
            by_cases e : o.dst = some t
            · rw [if_pos e, if_pos e, e]
              show get t (setT (some t) v _) = _
              rw [setT_get, if_pos rfl]
            · rw [if_neg e, if_neg e]
          · refine List.mem_append.2 (.inr (mem_news.2 ⟨by rw [hn1]; exact a, ?_⟩))
            have b2 : id < st1.nx + objs.length := b'
            show id < st1.nx + (st1.nx + objs.length - st1.nx)
            omega
          · show get id (addObjs st1.nx objs st1.h) = _
            rw [get_addObjs, if_neg (by omega), hh1]
          · exact absurd (mem_apartL.2 ⟨hl, hbit⟩) (by rw [hap]; simp)
          · show get id (addObjs st1.nx objs st1.h) = _
            rw [get_addObjs, hh1, hn1]
          · rintro ⟨l, hl, hbit, _⟩
            exact absurd (mem_apartL.2 ⟨hl, hbit⟩) (by rw [hap]; simp)
        | true =>
          refine fin _ _ (match o.dst with | some d => get d sv.t | none => none) hk ⟨hop, hkeys, fun t => ?_, hchk.2.trans hl1, by rw [← hn1]; exact hchk.1, _, rfl, rfl, hh1, fun id a b' => ?_, fun hall id hlt hid => ?_, .inr ⟨hb, hgw, fun l hl => ?_, dropK p.x st1.t, tvs, ?_⟩⟩
          · show get t (backSlot _ _ st1.t) = _
            rw [backSlot_get, ht1]
            cases o.dst <;> rfl
          · refine List.mem_append.2 (.inr (mem_news.2 ⟨by rw [hn1]; exact a, ?_⟩))
            have b2 : id < sv.nx := b'
            have := hchk.1
            omega
          · have hall' : (backOp E (dropK p.x st1.t) o && (targets (dropK p.x st1.t) o).isNone) = false := hall
            rw [hb] at hall'
            simp only [Bool.true_and] at hall'
            cases htg : targets (dropK p.x st1.t) o with
            | none => rw [htg] at hall'; simp at hall'
            | some l =>
              show get id sv.h = _
              have hnot : id ∉ l := fun hm => hid (List.mem_append.2 (.inl (by rw [hb, htg]; exact hm)))
              rw [step_other (st := { st1 with t := dropK p.x st1.t }) ((hdet St some).trans rfl) hb htg id (by show id < st1.nx; omega) hnot]
              exact congrArg _ hh1
          · cases hbit : bitN p.m l.i with
            | true => rfl
            | false => exact absurd (mem_apartL.2 ⟨hl, hbit⟩) (by rw [hap]; simp)
          · intro c a H hfr hbase hlo hdf hsz hev next Q hn
            have Rl : Rel E.ty n c { st1 with t := dropK p.x st1.t } a := ⟨hev, by rw [hh1, hf1]; exact H, by rw [hn1]; exact hfr, by rw [hl1, hn1]; exact hlo, hdf, hsz, hbase⟩
            refine step_sound hT hW hC Rl (fun d e => hd o hmem d e) ((hdet St some).trans rfl) fun c' st' x e1 e2 e3 e4 e5 => ?_
            simp only [Option.some.injEq] at e5
            subst e5
            refine hn c' x e1 e4.hp e4.fresh fun d v hdd hv => ?_
            rw [hdd] at hv
            obtain ⟨y, hy, hvy⟩ := e4.tm d v hv
            have hlt := hd o hmem d hdd
            rw [hdd] at hy
            simp only [Act.put] at hy
            rw [Array.getElem?_setIfInBounds_self, if_pos (by rw [hsz]; exact hlt)] at hy
            cases hy; exact hvy
      · rename_i u hu
        obtain ⟨hb, h⟩ := cond_none h
        split at h
        · rename_i q hq
          split at h
          case h_2 => simp at h
          rename_i sv sw hsv hsw
          obtain ⟨hchk, h7⟩ := cond_some h
          clear h
          simp only [Bool.and_eq_true] at hchk
          obtain ⟨⟨⟨⟨c1, c2⟩, c3⟩, c4⟩, c5⟩ := hchk
          obtain ⟨q1, q2, q3⟩ := swapOf_ok hq
          obtain ⟨v, objs, F, e, hd2⟩ := step_front (st := { st1 with t := dropK p.x st1.t, h := viewH q.2 st1.h }) hT hC hD hsv hb
          simp only [Option.some.injEq] at e
          subst e
          obtain ⟨v', objs', F', e', hd1⟩ := step_front (st := { st1 with t := dropK p.x st1.t, h := viewH q.2 q.1.h0 }) hT hC hD hsw hb
          simp only [Option.some.injEq] at e'
          subst e'
          obtain rfl : objs = [] := List.eq_nil_of_length_eq_zero (by have : st1.nx + objs.length = st1.nx := beq_true.1 c2; omega)
          obtain rfl : objs' = [] := List.eq_nil_of_length_eq_zero (by have : st1.nx + objs'.length = st1.nx := beq_true.1 c3; omega)
          obtain rfl : F = [] := List.eq_nil_of_length_eq_zero (by have e2 : (F ++ st1.fz).length = st1.fz.length := beq_true.1 c4; rw [List.length_append] at e2; omega)
          obtain rfl : F' = [] := List.eq_nil_of_length_eq_zero (by have e2 : (F' ++ st1.fz).length = st1.fz.length := beq_true.1 c5; rw [List.length_append] at e2; omega)
          obtain ⟨d, hdst⟩ : ∃ d, o.dst = some d := by
            unfold sameI at c1
            cases hh : o.dst with
            | some d => exact ⟨d, rfl⟩
            | none => rw [hh] at c1; cases c1
          obtain rfl : v = v' := by
            unfold sameI withF at c1
            rw [hdst] at c1
            simp only [setT, get_ins_same] at c1
            split at c1
            · rename_i h1 h2
              simp only [Option.some.injEq] at h1 h2
              simp only [Bool.and_eq_true, eqI, beq_iff_eq] at c1
              rw [h1, h2, same_eq c1.1, c1.2]
            · rename_i h1 h2
              simp only [Option.some.injEq] at h1 h2
              simp only [eqB, beq_iff_eq] at c1
              rw [h1, h2, c1]
            · cases c1
          obtain ⟨hl0, hbit0⟩ := mem_apartL.1 q1
          refine fin _ _ (some v) h7 ⟨hop, hkeys, fun t => ?_, hl1, by rw [← hn1]; exact Nat.le_refl _, _, rfl, rfl, hh1, fun id a b' => absurd b' (by show ¬ id < st1.nx; omega), fun _ id hlt _ => by show get id st1.h = _; rw [hh1], .inl ⟨rfl, .inr ⟨hgw, v, [], [], dropK p.x st1.t, rfl,
            .inr ⟨rfl, rfl, q.1, viewH q.2 q.1.h0, viewH q.2 st1.h, hl0, q2, hbit0, by rw [← hn1]; exact hd1, by rw [← hn1]; exact hd2, fun id x hg => ?_, fun id x hg => ?_⟩, tvs, fun id => ?_, hn1, hf1, fun _ => ⟨rfl, rfl⟩⟩⟩⟩
          · show get t (backSlot _ _ st1.t) = _
            rw [backSlot_get, ht1]
            by_cases e : o.dst = some t
            · rw [if_pos e, if_pos e, e]
              show get t (setT (some t) v _) = _
              rw [setT_get, if_pos rfl]
            · rw [if_neg e, if_neg e]
          · obtain ⟨g1, g2⟩ := get_viewH hg
            exact ⟨by rw [← hh1]; exact g1, fun l hl hbit hne => g2 l (q3 l (mem_apartL.2 ⟨hl, hbit⟩) hne)⟩
          · obtain ⟨g1, g2⟩ := get_viewH hg
            exact ⟨g1, fun l hl hbit hne => g2 l (q3 l (mem_apartL.2 ⟨hl, hbit⟩) hne)⟩
          · show get id st1.h = _
            rw [hh1, if_neg (by simp)]
        obtain ⟨sv, hk, hdet⟩ := step_det hD h
        obtain ⟨hchk, hk⟩ := cond_none hk
        obtain ⟨v, objs, F, hsv, hdoes⟩ := step_front (st := { st1 with t := dropK p.x st1.t, h := viewH (apartL p.m log) st1.h }) hT hC hD ((hdet St some).trans rfl) hb
        simp only [Option.some.injEq] at hsv
        subst hsv
        have hnew : ∀ id, get id (graft st1.nx (addObjs st1.nx objs (viewH (apartL p.m log) st1.h)) st1.h) = if st.nx ≤ id ∧ id - st.nx < objs.length then objs[id - st.nx]? else get id st.h := fun id => by
          rw [get_graft, get_addObjs, ← hn1, ← hh1]
          by_cases h1 : st1.nx ≤ id
          · rw [if_pos h1]
            by_cases h2 : id - st1.nx < objs.length
            · rw [if_pos ⟨h1, h2⟩, if_pos ⟨h1, h2⟩]
              simp [h2]
            · rw [if_neg (fun h => h2 h.2), if_neg (fun h => h2 h.2)]
              have hno : get id (viewH (apartL p.m log) st1.h) = none := by
                cases hg : get id (viewH (apartL p.m log) st1.h) with
                | none => rfl
                | some x =>
                  have := hkeys id x (by rw [← hh1]; exact (get_viewH hg).1)
                  omega
              rw [hno]
          · rw [if_neg h1, if_neg (fun h => h1 h.1)]
        refine fin _ _ (some v) hk ⟨hop, hkeys, fun t => ?_, hl1, by rw [← hn1]; exact Nat.le_add_right _ _, _, rfl, rfl, hh1, fun id a b' => ?_, fun _ id hlt _ => ?_, .inl ⟨rfl, .inr ⟨hgw, v, objs, F, dropK p.x st1.t, rfl, .inl ⟨viewH (apartL p.m log) st1.h, by rw [← hn1]; exact hdoes, fun id x hg => ?_⟩, tvs, hnew, by rw [← hn1]; rfl, by rw [← hf1]; rfl, ?_⟩⟩⟩
        · show get t (backSlot _ _ st1.t) = _
          rw [backSlot_get, ht1]
          by_cases e : o.dst = some t
          · rw [if_pos e, if_pos e, e]
            show get t (setT (some t) v _) = _
            rw [setT_get, if_pos rfl]
          · rw [if_neg e, if_neg e]
        · refine mem_news.2 ⟨by rw [hn1]; exact a, ?_⟩
          have b2 : id < st1.nx + objs.length := b'
          show id < st1.nx + (st1.nx + objs.length - st1.nx)
          omega
        · refine (hnew id).trans ?_
          rw [if_neg (by omega)]
        · obtain ⟨g1, g2⟩ := get_viewH hg
          exact ⟨by rw [← hh1]; exact g1, fun l hl hbit => g2 l (mem_apartL.2 ⟨hl, hbit⟩)⟩
        · rintro ⟨l, hl, hbit, hlb⟩
          rw [anyB_of (mem_apartL.2 ⟨hl, hbit⟩) hlb] at hchk
          simp only [Bool.true_and, notB, Bool.not_eq_false', Bool.and_eq_true] at hchk
          have e1 : st1.nx + objs.length = st1.nx := beq_true.1 hchk.1
          have e2 : (F ++ st1.fz).length = st1.fz.length := beq_true.1 hchk.2
          exact ⟨List.eq_nil_of_length_eq_zero (by omega), List.eq_nil_of_length_eq_zero (by rw [List.length_append] at e2; omega)⟩
end
end Go.Vm
end
section
namespace Go.Vm
open Go.RowKit
def plAt (pl : List Pl) (k : Nat) : Pl := pl.getD k ⟨0, 0, []⟩
theorem binds_any (e : Edge) : Region.binds .any e = bindsE e := by
  unfold Region.binds bindsE
  cases e.ground <;> rfl
structure PlanOk (ops : Array Oper) (pl : List Pl) : Prop where
  lt : ∀ k, k < pl.length → (plAt pl k).i < ops.size
  all : ∀ i, i < ops.size → ∃ k, k < pl.length ∧ (plAt pl k).i = i
  inj : ∀ k k', k < pl.length → k' < pl.length → (plAt pl k).i = (plAt pl k').i → k = k'
  edge : ∀ i o e, ops[i]? = some o → e ∈ o.after → bindsE e = true → e.on < i
  mask : ∀ k o, k < pl.length → ops[(plAt pl k).i]? = some o → ∀ i, bitN (plAt pl k).m i = true → ∃ e, e ∈ o.after ∧ bindsE e = true ∧ (i = e.on ∨ ∃ k', k' < pl.length ∧ (plAt pl k').i = e.on ∧ bitN (plAt pl k').m i = true)
  before : ∀ k, k < pl.length → ∀ i, bitN (plAt pl k).m i = true → ∃ k', k' < k ∧ (plAt pl k').i = i
  dst : ∀ k k' o o' d, k < pl.length → k' < pl.length → ops[(plAt pl k).i]? = some o → ops[(plAt pl k').i]? = some o' → o.dst = some d → o'.dst = some d → k = k'
  apart : ∀ k k' o' d, k < pl.length → k' < pl.length → ops[(plAt pl k').i]? = some o' → o'.dst = some d → k ≠ k' → bitN (plAt pl k).m (plAt pl k').i = true ∨ bitN (plAt pl k').m (plAt pl k).i = true ∨ has d (plAt pl k).x = true
  guard : ∀ k o g w, k < pl.length → ops[(plAt pl k).i]? = some o → o.guard = some (g, w) → bitN (plAt pl k).m g = true
section
variable {P : Program} {E : Env} {ops : Array Oper} {n : Nat} {pl : List Pl} {σ : Nat → St} {L : Nat → List Lg} {o : Nat → Oper} {vo : Nat → Option V}
def ent (L : Nat → List Lg) (j : Nat) : Lg := (L (j + 1)).headD ⟨0, [], false, false, []⟩
def fzAdd (σ : Nat → St) (j : Nat) : List Nat := (σ (j + 1)).fz.take ((σ (j + 1)).fz.length - (σ j).fz.length)
structure Run (P : Program) (E : Env) (ops : Array Oper) (n : Nat) (pl : List Pl) (σ : Nat → St) (L : Nat → List Lg) (o : Nat → Oper) (vo : Nat → Option V) : Prop where
  ev : ∀ j, j < pl.length → EvOk P E ops n (plAt pl j) (o j) (σ j) (L j) (vo j) (σ (j + 1)) (L (j + 1))
  start : L 0 = []
  plan : PlanOk ops pl
theorem Run.cons (T : Run P E ops n pl σ L o vo) {j : Nat} (h : j < pl.length) : L (j + 1) = ent L j :: L j ∧ (ent L j).i = (plAt pl j).i := by
  obtain ⟨l, h1, h2, _⟩ := (T.ev j h).log
  unfold ent
  rw [h1]; exact ⟨rfl, h2⟩
theorem Run.h0 (T : Run P E ops n pl σ L o vo) {j : Nat} (h : j < pl.length) : (ent L j).h0 = (σ j).h := by
  obtain ⟨l, h1, h2, h3, _⟩ := (T.ev j h).log
  have el : l = ent L j := by unfold ent; rw [h1]; rfl
  rw [← el]; exact h3
theorem Run.nx (T : Run P E ops n pl σ L o vo) {j : Nat} : ∀ k, j ≤ k → k ≤ pl.length → (σ j).nx ≤ (σ k).nx
  | 0, h, _ => by have : j = 0 := by omega
                  subst this; exact Nat.le_refl _
  | k + 1, h, hk => by
    rcases Nat.lt_or_ge k j with g | g
    · have : j = k + 1 := by omega
      subst this; exact Nat.le_refl _
    · exact Nat.le_trans (T.nx k g (by omega)) (T.ev k (by omega)).nx
theorem Run.lo (T : Run P E ops n pl σ L o vo) : ∀ k, k ≤ pl.length → (σ k).lo = (σ 0).lo
  | 0, _ => rfl
  | k + 1, hk => (T.ev k (by omega)).lo.trans (T.lo k (by omega))
theorem Run.mem (T : Run P E ops n pl σ L o vo) : ∀ k, k ≤ pl.length → ∀ l, l ∈ L k ↔ ∃ j, j < k ∧ l = ent L j
  | 0, _, l => by rw [T.start]; simp
  | k + 1, hk, l => by
    rw [(T.cons (by omega : k < pl.length)).1, List.mem_cons, T.mem k (by omega)]
    constructor
    · rintro (rfl | ⟨j, hj, rfl⟩)
      · exact ⟨k, by omega, rfl⟩
      · exact ⟨j, by omega, rfl⟩
    · rintro ⟨j, hj, rfl⟩
      by_cases e : j = k
      · subst e; exact .inl rfl
      · exact .inr ⟨j, by omega, rfl⟩
theorem Run.op (T : Run P E ops n pl σ L o vo) {j : Nat} (h : j < pl.length) : ops[(plAt pl j).i]? = some (o j) := (T.ev j h).op
theorem Run.slot (T : Run P E ops n pl σ L o vo) : ∀ k, k ≤ pl.length → ∀ t, (∀ j, j < k → (o j).dst = some t → get t (σ k).t = vo j) ∧ ((∀ j, j < k → (o j).dst ≠ some t) → get t (σ k).t = get t (σ 0).t)
  | 0, _, t => ⟨fun j h => by omega, fun _ => rfl⟩
  | k + 1, hk, t => by
    obtain ⟨h1, h2⟩ := T.slot k (by omega) t
    have hs := (T.ev k (by omega)).slot t
    constructor
    · intro j hj hd
      by_cases e : j = k
      · subst e; rw [hs, if_pos hd]
      · rw [hs, if_neg fun hd' => e (T.plan.dst j k _ _ t (by omega) (by omega) (T.op (by omega)) (T.op (by omega)) hd hd')]
        exact h1 j (by omega) hd
    · intro hn
      rw [hs, if_neg (hn k (by omega))]
      exact h2 fun j hj => hn j (by omega)
theorem Run.keep (T : Run P E ops n pl σ L o vo) {j id : Nat} (hid : id < (σ j).nx) : ∀ k, j ≤ k → k ≤ pl.length → (∀ b, j ≤ b → b < k → (ent L b).b = true → (ent L b).all = false ∧ id ∉ (ent L b).ids) → get id (σ k).h = get id (σ j).h
  | 0, h, _, _ => by have : j = 0 := by omega
                     subst this; rfl
  | k + 1, h, hk, hb => by
    rcases Nat.lt_or_ge k j with g | g
    · have : j = k + 1 := by omega
      subst this; rfl
    · rw [← T.keep hid k g (by omega) fun b h1 h2 h3 => hb b h1 (by omega) h3]
      have hlt : id < (σ k).nx := Nat.lt_of_lt_of_le hid (T.nx k g (by omega))
      obtain ⟨l, e1, e2, _, e3, e4, e5⟩ := (T.ev k (by omega)).log
      have el : l = ent L k := by unfold ent; rw [e1]; rfl
      rcases e5 with ⟨e6, ⟨_, _, e7, _⟩ | ⟨_, v, objs, F, tv, _, _, _, e7, _⟩⟩ | ⟨e6, _⟩
      · rw [e7]
      · rw [e7, if_neg (by omega)]
      · obtain ⟨h1, h2⟩ := hb k g (by omega) (by rw [← el]; exact e6)
        exact e4 (by rw [el]; exact h1) id hlt (by rw [el]; exact h2)
theorem fzAdd_eq {F : List Nat} {j : Nat} (h : (σ (j + 1)).fz = F ++ (σ j).fz) : fzAdd σ j = F := by
  unfold fzAdd
  rw [h, List.length_append, Nat.add_sub_cancel, List.take_left]
def Lk (pl : List Pl) (listed : Array Bool) (k : Nat) : Prop := listed.getD (plAt pl k).i false = true
structure Inv (P : Program) (E : Env) (ops : Array Oper) (n : Nat) (pl : List Pl) (σ : Nat → St) (L : Nat → List Lg) (o : Nat → Oper) (vo : Nat → Option V) (c0 : Ctx) (q : Nat) (listed : Array Bool) (c : Ctx) (a : Act) : Prop where
  size : listed.size = ops.size
  closed : ∀ i oo e, listed.getD i false = true → ops[i]? = some oo → e ∈ oo.after → bindsE e = true → listed.getD e.on false = true
  qle : q ≤ pl.length
  pre : ∀ k, k < q → Lk pl listed k
  nob : ∀ k, q ≤ k → k < pl.length → Lk pl listed k → (ent L k).b = false
  slot : ∀ k t u, k < pl.length → Lk pl listed k → (o k).dst = some t → vo k = some u → ∃ x, a.tmps[t]? = some x ∧ VR E.ty c u x
  slot0 : ∀ t u, (∀ k, k < pl.length → Lk pl listed k → (o k).dst ≠ some t) → get t (σ 0).t = some u → ∃ x, a.tmps[t]? = some x ∧ VR E.ty c u x
  heap : ∃ hS fzS, HeapOk E.ty c hS fzS ∧ (∀ id, id < (σ q).nx → get id hS = get id (σ q).h) ∧ (∀ k id, q ≤ k → k < pl.length → Lk pl listed k → (σ k).nx ≤ id → id < (σ (k + 1)).nx → get id hS = get id (σ (k + 1)).h) ∧
    ∀ id, id ∈ fzS → id ∈ (σ q).fz ∨ ∃ k, q ≤ k ∧ k < pl.length ∧ Lk pl listed k ∧ id ∈ fzAdd σ k
  free : ∀ k id, q ≤ k → k < pl.length → ¬ Lk pl listed k → (σ k).nx ≤ id → id < (σ (k + 1)).nx → c.μ id = none
  fresh : ∀ id, (σ pl.length).nx ≤ id → c.μ id = none
  defers : a.defers = []
  tsize : a.tmps.size = n
  base : Room c
  ext : Ext c0 c
theorem Run.range (T : Run P E ops n pl σ L o vo) {q id : Nat} (h1 : (σ q).nx ≤ id) : ∀ k, q ≤ k → k ≤ pl.length → id < (σ k).nx → ∃ j, q ≤ j ∧ j < k ∧ (σ j).nx ≤ id ∧ id < (σ (j + 1)).nx
  | 0, hq, _, h2 => by have : q = 0 := by omega
                       subst this; omega
  | k + 1, hq, hk, h2 => by
    rcases Nat.lt_or_ge k q with g | g
    · have : q = k + 1 := by omega
      subst this; omega
    · rcases Nat.lt_or_ge id (σ k).nx with g2 | g2
      · obtain ⟨j, a1, a2, a3, a4⟩ := T.range h1 k g (by omega) g2
        exact ⟨j, a1, by omega, a3, a4⟩
      · exact ⟨k, g, by omega, g2, h2⟩
section
variable (T : Run P E ops n pl σ L o vo) {c0 c : Ctx} {q : Nat} {listed : Array Bool} {a : Act}
include T
theorem mask_done (I : Inv P E ops n pl σ L o vo c0 q listed c a) : ∀ (m k : Nat), (plAt pl k).i < m → k < pl.length → (∀ e, e ∈ (o k).after → bindsE e = true → listed.getD e.on false = true) → ∀ i, bitN (plAt pl k).m i = true → listed.getD i false = true
  | 0, _, h, _, _, _, _ => by omega
  | m + 1, k, hm, hk, he, i, hb => by
    obtain ⟨e, h1, h2, h3⟩ := T.plan.mask k (o k) hk (T.op hk) i hb
    have hd := he e h1 h2
    rcases h3 with rfl | ⟨k', hk', hi', hb'⟩
    · exact hd
    · have hlt := T.plan.edge _ _ e (T.op hk) h1 h2
      refine mask_done I m k' (by omega) hk' (fun e' h1' h2' => ?_) i hb'
      exact I.closed _ _ e' (hi' ▸ hd) (T.op hk') h1' h2'
theorem mask_done' (I : Inv P E ops n pl σ L o vo c0 q listed c a) {k : Nat} (hk : k < pl.length) (hL : Lk pl listed k) {i : Nat} (hb : bitN (plAt pl k).m i = true) : listed.getD i false = true :=
  mask_done T I _ k (Nat.lt_succ_self _) hk (fun e h1 h2 => I.closed _ _ e hL (T.op hk) h1 h2) i hb
theorem slot_view (I : Inv P E ops n pl σ L o vo c0 q listed c a) {k : Nat} (hk : k < pl.length) (hn : ¬ Lk pl listed k) (he : ∀ e, e ∈ (o k).after → bindsE e = true → listed.getD e.on false = true) {t : Nat} {u : V} (hg : get t (σ k).t = some u) (hx : has t (plAt pl k).x = false) :
    ∃ x, a.tmps[t]? = some x ∧ VR E.ty c u x := by
  obtain ⟨s1, s2⟩ := T.slot k (by omega) t
  have hm := mask_done T I _ k (Nat.lt_succ_self _) hk he
  by_cases hex : ∃ j, j < k ∧ (o j).dst = some t
  · obtain ⟨j, hj, hd⟩ := hex
    rw [s1 j hj hd] at hg
    rcases T.plan.apart k j (o j) t hk (by omega) (T.op (by omega)) hd (by omega) with h | h | h
    · exact I.slot j t u (by omega) (hm _ h) hd hg
    · obtain ⟨k', hk', hi⟩ := T.plan.before j (by omega) _ h
      have := T.plan.inj k' k (by omega) hk hi
      omega
    · rw [h] at hx; cases hx
  · have hno : ∀ j, j < k → (o j).dst ≠ some t := fun j hj hd => hex ⟨j, hj, hd⟩
    rw [s2 hno] at hg
    refine I.slot0 t u (fun j hj hLj hd => ?_) hg
    have hjk : j ≠ k := fun e => hn (e ▸ hLj)
    rcases T.plan.apart k j (o j) t hk hj (T.op hj) hd (Ne.symm hjk) with h | h | h
    · obtain ⟨k', hk', hi⟩ := T.plan.before k hk _ h
      have := T.plan.inj k' j (by omega) hj hi
      subst this
      exact hno k' hk' hd
    · exact hn (mask_done' T I hj hLj h)
    · rw [h] at hx; cases hx
theorem guard_view (I : Inv P E ops n pl σ L o vo c0 q listed c a) {k : Nat} (hk : k < pl.length) (he : ∀ e, e ∈ (o k).after → bindsE e = true → listed.getD e.on false = true) {b : Bool} (hG : GW ops (o k) (σ k) b) :
    Region.wanted (o k) (yielded ops a.tmps) = b := by
  unfold GW at hG
  unfold Region.wanted
  split at hG
  · rename_i hg; rw [hg]; exact hG.symm
  · rename_i g want hg
    rw [hg]
    simp only
    obtain ⟨d, u, hd, hu, hc⟩ := hG
    have hbit := T.plan.guard k _ g want hk (T.op hk) hg
    obtain ⟨j, hj, hi⟩ := T.plan.before k hk _ hbit
    have hL := mask_done T I _ k (Nat.lt_succ_self _) hk he _ hbit
    have hdj : (o j).dst = some d := by
      have := T.op (j := j) (by omega)
      rw [hi] at this
      rw [this] at hd
      exact hd
    obtain ⟨s1, _⟩ := T.slot k (by omega) d
    rw [s1 j hj hdj] at hu
    obtain ⟨x, hx, hv⟩ := I.slot j d u (by omega) (by unfold Lk; rw [hi]; exact hL) hdj hu
    rcases hc with ⟨rfl, rfl⟩ | ⟨y, rfl, rfl⟩
    · simp only [VR] at hv
      subst hv
      have : yielded ops a.tmps g = none := by
        unfold yielded
        rw [hd]
        simp [hx, Go.undef]
      rw [this]; simp
    · simp only [VR] at hv
      subst hv
      have : yielded ops a.tmps g = some y := by
        unfold yielded
        rw [hd]
        simp [hx]
      rw [this]
      cases y <;> cases want <;> rfl
end
theorem Lk_set {listed : Array Bool} (hp : PlanOk ops pl) (hs : listed.size = ops.size) {k k' : Nat} (hk : k < pl.length) (hk' : k' < pl.length) : Lk pl (listed.setIfInBounds (plAt pl k).i true) k' ↔ k' = k ∨ Lk pl listed k' := by
  unfold Lk
  by_cases e : k' = k
  · subst e
    have := hp.lt k' hk'
    simp [hs, this]
  · rw [getD_set_ne false fun h => e (hp.inj k' k hk' hk h.symm)]
    simp [e]
end
end Go.Vm
end
section
namespace Go.Vm
open Go.RowKit
section
variable {P : Program} {E : Env} {ops : Array Oper} {n : Nat} {pl : List Pl} {σ : Nat → St} {L : Nat → List Lg} {o : Nat → Oper} {vo : Nat → Option V}
variable {c0 c : Ctx} {q : Nat} {listed : Array Bool} {a : Act}
theorem put_slots (T : Run P E ops n pl σ L o vo) (hd : ∀ oo ∈ ops.toList, ∀ d, oo.dst = some d → d < n) (I : Inv P E ops n pl σ L o vo c0 q listed c a) {k : Nat} (hk : k < pl.length) (hn : ¬ Lk pl listed k) {c' : Ctx} {x : Value} (hext : Ext c c')
    (hx : ∀ d v, (o k).dst = some d → vo k = some v → VR E.ty c' v x) :
    (∀ k' t u, k' < pl.length → Lk pl (listed.setIfInBounds (plAt pl k).i true) k' → (o k').dst = some t → vo k' = some u → ∃ y, (a.put (o k).dst x).tmps[t]? = some y ∧ VR E.ty c' u y) ∧
    (∀ t u, (∀ k', k' < pl.length → Lk pl (listed.setIfInBounds (plAt pl k).i true) k' → (o k').dst ≠ some t) → get t (σ 0).t = some u → ∃ y, (a.put (o k).dst x).tmps[t]? = some y ∧ VR E.ty c' u y) := by
  have hmem : o k ∈ ops.toList := List.mem_of_getElem? (by rw [Array.getElem?_toList]; exact T.op hk)
  have other : ∀ t u, (o k).dst ≠ some t → (∃ y, a.tmps[t]? = some y ∧ VR E.ty c u y) → ∃ y, (a.put (o k).dst x).tmps[t]? = some y ∧ VR E.ty c' u y := by
    rintro t u hne ⟨y, hy, hv⟩
    refine ⟨y, ?_, hv.mono hext⟩
    cases hdst : (o k).dst with
    | none => exact hy
    | some d =>
      simp only [Act.put]
      rw [Array.getElem?_setIfInBounds_ne (fun e => hne (by rw [hdst, e]))]
      exact hy
  refine ⟨fun k' t u hk' hL hdt hv => ?_, fun t u hno hg => ?_⟩
  · rcases (Lk_set T.plan I.size hk hk').1 hL with rfl | hL
    · refine ⟨x, ?_, hx t u hdt hv⟩
      rw [hdt]
      simp only [Act.put]
      rw [Array.getElem?_setIfInBounds_self, if_pos (by rw [I.tsize]; exact hd _ hmem t hdt)]
    · refine other t u (fun e => ?_) (I.slot k' t u hk' hL hdt hv)
      have := T.plan.dst k k' _ _ t hk hk' (T.op hk) (T.op hk') e hdt
      subst this
      exact hn hL
  · refine other t u (hno k hk ((Lk_set T.plan I.size hk hk).2 (.inl rfl))) (I.slot0 t u (fun k' hk' hL => hno k' hk' ((Lk_set T.plan I.size hk hk').2 (.inr hL))) hg)
theorem closed_set (T : Run P E ops n pl σ L o vo) (I : Inv P E ops n pl σ L o vo c0 q listed c a) {k : Nat} (hk : k < pl.length) (he : ∀ e, e ∈ (o k).after → bindsE e = true → listed.getD e.on false = true) :
    ∀ i oo e, (listed.setIfInBounds (plAt pl k).i true).getD i false = true → ops[i]? = some oo → e ∈ oo.after → bindsE e = true → (listed.setIfInBounds (plAt pl k).i true).getD e.on false = true := by
  intro i oo e hl ho h1 h2
  apply getD_set_true
  by_cases hi : (plAt pl k).i = i
  · subst hi
    rw [T.op hk] at ho; cases ho
    exact he e h1 h2
  · rw [getD_set_ne false hi] at hl
    exact I.closed i oo e hl ho h1 h2
theorem view_heap (T : Run P E ops n pl σ L o vo) (I : Inv P E ops n pl σ L o vo c0 q listed c a) {k s : Nat} (hk : k < pl.length) (hs : s ≤ k) (hqs : q ≤ s) {hS : Heap}
    (hA : ∀ id, id < (σ q).nx → get id hS = get id (σ q).h) (hB : ∀ k id, q ≤ k → k < pl.length → Lk pl listed k → (σ k).nx ≤ id → id < (σ (k + 1)).nx → get id hS = get id (σ (k + 1)).h)
    {id : Nat} {x : Obj} {i : Info} (hi : c.μ id = some i) (hg : get id (σ s).h = some x) (hlog : ∀ b, q ≤ b → b < s → bitN (plAt pl k).m (plAt pl b).i = false → id ∉ (ent L b).ids ∧ (ent L b).all = false)
    (hmask : ∀ i, bitN (plAt pl k).m i = true → listed.getD i false = true) : get id hS = some x := by
  have hlt : id < (σ s).nx := (T.ev s (by omega)).keys id x hg
  have hbtw : ∀ j, q ≤ j → ∀ b, j ≤ b → b < s → (ent L b).b = true → (ent L b).all = false ∧ id ∉ (ent L b).ids := by
    intro j hj b h1 h2 h3
    have hnb : ¬ Lk pl listed b := fun hL => by rw [I.nob b (by omega) (by omega) hL] at h3; cases h3
    have : bitN (plAt pl k).m (plAt pl b).i = false := by
      cases hh : bitN (plAt pl k).m (plAt pl b).i with
      | false => rfl
      | true => exact absurd (hmask _ hh) hnb
    exact ⟨(hlog b (by omega) h2 this).2, (hlog b (by omega) h2 this).1⟩
  rcases Nat.lt_or_ge id (σ q).nx with g | g
  · rw [hA id g, ← T.keep g s hqs (by omega) (hbtw q (Nat.le_refl _))]
    exact hg
  · obtain ⟨j, a1, a2, a3, a4⟩ := T.range g s hqs (by omega) hlt
    have hLj : Lk pl listed j := by
      apply Classical.byContradiction
      intro hh
      rw [I.free j id a1 (by omega) hh a3 a4] at hi; cases hi
    rw [hB j id a1 (by omega) hLj a3 a4, ← T.keep a4 s (by omega) (by omega) (hbtw (j + 1) (by omega))]
    exact hg
theorem inv_step (T : Run P E ops n pl σ L o vo) (hd : ∀ oo ∈ ops.toList, ∀ d, oo.dst = some d → d < n) (hlo : (σ 0).lo ≤ (σ 0).nx) (I : Inv P E ops n pl σ L o vo c0 q listed c a) {k : Nat} (hk : k < pl.length) (hn : ¬ Lk pl listed k)
    (he : ∀ e, e ∈ (o k).after → bindsE e = true → listed.getD e.on false = true) {K : Act → World → Prop} {Q : Exit → Act → World → Prop}
    (hK : ∀ c' a' q', Inv P E ops n pl σ L o vo c0 q' (listed.setIfInBounds (plAt pl k).i true) c' a' → K a' c'.w) : wpOp P ops Q (plAt pl k).i K a c.w := by
  have hqk : q ≤ k := by
    rcases Nat.lt_or_ge k q with g | g
    · exact absurd (I.pre k g) hn
    · exact g
  have hmask := mask_done T I _ k (Nat.lt_succ_self _) hk he
  have hset : ∀ k', k' < pl.length → (Lk pl (listed.setIfInBounds (plAt pl k).i true) k' ↔ k' = k ∨ Lk pl listed k') := fun k' hk' => Lk_set T.plan I.size hk hk'
  have hsz : (listed.setIfInBounds (plAt pl k).i true).size = ops.size := by simpa using I.size
  obtain ⟨hop, hkeys, hslot, hlo', hnx, l, hl, hli, _, hnews, hoth, hkind⟩ := T.ev k hk
  have hent : l = ent L k := by unfold ent; rw [hl]; rfl
  have hmono := fun j => T.nx (j := j)
  obtain ⟨hS, fzS, H, hA, hB, hZ⟩ := I.heap
  have hlogm : ∀ b, b < k → ent L b ∈ L k := fun b hb => (T.mem k (by omega) _).2 ⟨b, hb, rfl⟩
  have henti : ∀ b, b < pl.length → (ent L b).i = (plAt pl b).i := fun b hb => (T.cons hb).2
  unfold wpOp
  rw [T.op hk]
  simp only
  rcases hkind with ⟨hlb, ⟨hgw, hvo, hh, hnn, hzz⟩ | ⟨hgw, v, objs, F, tv, hvo, hview, htv, hnewh, hnn, hzz, hunord⟩⟩ | ⟨hlb, hgw, hall, tv, htv, hdoes⟩
  ·
    rw [guard_view T I hk he hgw]
    simp only [Bool.false_eq_true, if_false]
    obtain ⟨p1, p2⟩ := put_slots T hd I hk hn (c' := c) (x := Go.undef) (Ext.refl c) (fun d v _ hv => by rw [hvo] at hv; cases hv; simp only [VR])
    refine hK c _ q ⟨hsz, closed_set T I hk he, I.qle, fun k' hk' => (hset k' (by have := I.qle; omega)).2 (.inr (I.pre k' hk')), fun k' h1 h2 h3 => ?_, p1, p2, ⟨hS, fzS, H, hA, fun k' id h1 h2 h3 h4 h5 => ?_, fun id hid => ?_⟩,
      fun k' id h1 h2 h3 h4 h5 => I.free k' id h1 h2 (fun hh => h3 ((hset k' h2).2 (.inr hh))) h4 h5, I.fresh, ?_, ?_, I.base, I.ext⟩
    · rcases (hset k' h2).1 h3 with rfl | h3
      · rw [← hent]; exact hlb
      · exact I.nob k' h1 h2 h3
    · rcases (hset k' h2).1 h3 with rfl | h3
      · omega
      · exact hB k' id h1 h2 h3 h4 h5
    · rcases hZ id hid with h | ⟨k', h1, h2, h3, h4⟩
      · exact .inl h
      · exact .inr ⟨k', h1, h2, (hset k' h2).2 (.inr h3), h4⟩
    · cases (o k).dst <;> exact I.defers
    · cases (o k).dst <;> simp [Act.put, I.tsize]
  ·
    rw [guard_view T I hk he hgw]
    simp only [if_true]
    refine .inl ?_
    obtain ⟨hv, hdoes, hsub⟩ : ∃ hv, DoesF P E (o k) tv hv (σ k).nx v objs F ∧ ∀ id x i, c.μ id = some i → get id hv = some x → get id hS = some x := by
      rcases hview with ⟨hv, hdoes, hhv⟩ | ⟨rfl, rfl, l0, hv1, hv2, hl0, hb0, hbit0, hd1, hd2, hh2, hh1⟩
      · exact ⟨hv, hdoes, fun id x i hi hg =>
          view_heap T I hk (Nat.le_refl _) hqk hA hB hi (hhv id x hg).1 (fun b _ hb hbit => by
            have hbn : b < pl.length := by omega
            exact (hhv id x hg).2 _ (hlogm b hb) (by rw [henti b hbn]; exact hbit)) hmask⟩
      · obtain ⟨b0, hb0k, rfl⟩ := (T.mem k (by omega) l0).1 hl0
        have hne : ∀ b, b < pl.length → b ≠ b0 → (ent L b).i ≠ (ent L b0).i := fun b hb hne => by
          rw [henti b hb, henti b0 (by omega)]
          exact fun e => hne (T.plan.inj b b0 hb (by omega) e)
        rcases Nat.lt_or_ge b0 q with g | g
        · exact ⟨hv2, hd2, fun id x i hi hg =>
            view_heap T I hk (Nat.le_refl _) hqk hA hB hi (hh2 id x hg).1 (fun b hqb hb hbit => by
              have hbn : b < pl.length := by omega
              exact (hh2 id x hg).2 _ (hlogm b hb) (by rw [henti b hbn]; exact hbit) (hne b hbn (by omega))) hmask⟩
        · exact ⟨hv1, hd1, fun id x i hi hg =>
            view_heap T I hk (Nat.le_of_lt hb0k) g hA hB hi (by rw [← T.h0 (by omega)]; exact (hh1 id x hg).1) (fun b _ hb hbit => by
              have hbn : b < pl.length := by omega
              exact (hh1 id x hg).2 _ (hlogm b (by omega)) (by rw [henti b hbn]; exact hbit) (hne b hbn (by omega))) hmask⟩
    have hfr : Fr c.μ (σ k).nx objs.length := fun id h1 h2 => I.free k id hqk hk hn h1 (by omega)
    refine hdoes c a fzS (H.part hsub fun _ h => h) hfr I.base (fun x u hx => ?_) _ _ fun c' x hF hvx => ?_
    · cases x with
      | tmp t =>
        obtain ⟨g1, g2⟩ := htv t u hx
        obtain ⟨y, hy, hyv⟩ := slot_view T I hk hn he g1 g2
        show VR E.ty c u (a.tmps.getD t Go.undef)
        rw [Array.getD_eq_getD_getElem?, hy]
        exact hyv
      | const y => exact ofConst_ok hx
      | global g => simp [evalO] at hx
      | func f =>
        simp [evalO] at hx
        subst hx
        simp only [VR]
        exact ⟨#[], #[], rfl, by simp [LR], by simp [LR]⟩
    obtain ⟨p1, p2⟩ := put_slots T hd I hk hn (c' := c') (x := x) hF.ext (fun d u _ hu => by rw [hvo] at hu; cases hu; exact hvx)
    obtain ⟨is, hlen, hμ, _⟩ := hF.infos
    have hμo : ∀ id, ¬ ((σ k).nx ≤ id ∧ id < (σ (k + 1)).nx) → c'.μ id = c.μ id := fun id h => by
      rw [hμ]
      unfold updM
      rw [if_neg (by rw [hlen]; omega)]
    have hget : ∀ id, get id (addObjs (σ k).nx objs hS) = if (σ k).nx ≤ id ∧ id - (σ k).nx < objs.length then objs[id - (σ k).nx]? else get id hS := get_addObjs _ _ _
    refine hK c' _ q ⟨hsz, closed_set T I hk he, I.qle, fun k' hk' => (hset k' (by have := I.qle; omega)).2 (.inr (I.pre k' hk')), fun k' h1 h2 h3 => ?_, p1, p2,
      ⟨addObjs (σ k).nx objs hS, F ++ fzS, heap_F H hsub hF (fun j hj => ?_) (fun id hid => ?_) (fun id hid => List.mem_append.2 hid), fun id hid => ?_, fun k' id h1 h2 h3 h4 h5 => ?_, fun id hid => ?_⟩,
      fun k' id h1 h2 h3 h4 h5 => ?_, fun id hid => ?_, ?_, ?_, ?_, I.ext.trans hF.ext⟩
    · rcases (hset k' h2).1 h3 with rfl | h3
      · rw [← hent]; exact hlb
      · exact I.nob k' h1 h2 h3
    · rw [hget, if_pos ⟨by omega, by omega⟩]; simp [hj]
    · rw [hget, if_neg (by omega)]
    · have := hmono q k hqk (by omega)
      rw [hget, if_neg (by omega)]
      exact hA id hid
    · rcases (hset k' h2).1 h3 with rfl | h3
      · rw [hget, if_pos ⟨h4, by omega⟩, hnewh, if_pos ⟨h4, by omega⟩]
      · have hne : k' ≠ k := fun e => hn (e ▸ h3)
        rw [hget, if_neg ?_]
        · exact hB k' id h1 h2 h3 h4 h5
        · rcases Nat.lt_or_gt_of_ne hne with g | g
          · have := hmono (k' + 1) k (by omega) (by omega)
            omega
          · have := hmono (k + 1) k' (by omega) (by omega)
            omega
    · rcases List.mem_append.1 hid with hid | hid
      · exact .inr ⟨k, hqk, hk, (hset k hk).2 (.inl rfl), by rw [fzAdd_eq hzz]; exact hid⟩
      · rcases hZ id hid with h | ⟨k', h1, h2, h3, h4⟩
        · exact .inl h
        · exact .inr ⟨k', h1, h2, (hset k' h2).2 (.inr h3), h4⟩
    · have hne : k' ≠ k := fun e => h3 (e ▸ (hset k hk).2 (.inl rfl))
      rw [hμo id ?_]
      · exact I.free k' id h1 h2 (fun hh => h3 ((hset k' h2).2 (.inr hh))) h4 h5
      · rcases Nat.lt_or_gt_of_ne hne with g | g
        · have := hmono (k' + 1) k (by omega) (by omega)
          omega
        · have := hmono (k + 1) k' (by omega) (by omega)
          omega
    · have := hmono (k + 1) pl.length (by omega) (Nat.le_refl _)
      rw [hμo id (by omega)]
      exact I.fresh id hid
    · cases (o k).dst <;> exact I.defers
    · cases (o k).dst <;> simp [Act.put, I.tsize]
    · exact I.base.mono hF.ext
  ·
    rw [guard_view T I hk he hgw]
    simp only [if_true]
    refine .inl ?_
    have hpre : ∀ b, b < k → Lk pl listed b := fun b hb => by
      have := hall _ (hlogm b hb)
      rw [henti b (by omega)] at this
      exact hmask _ this
    have late : ∀ k', k < k' → k' < pl.length → Lk pl listed k' → (σ (k' + 1)).nx = (σ k').nx ∧ fzAdd σ k' = [] := by
      intro k' h1 h2 h3
      obtain ⟨l', e1, e2, _, e3, e4, e5⟩ := (T.ev k' h2).log
      have el' : l' = ent L k' := by unfold ent; rw [e1]; rfl
      have hb' := I.nob k' (by omega) h2 h3
      rcases e5 with ⟨_, ⟨_, _, _, g1, g2⟩ | ⟨_, v, objs, F, tv, _, _, _, _, g1, g2, g3⟩⟩ | ⟨e6, _⟩
      · exact ⟨g1, fzAdd_eq (F := []) (by simpa using g2)⟩
      · have hbit : bitN (plAt pl k').m (plAt pl k).i = false := by
          cases hh : bitN (plAt pl k').m (plAt pl k).i with
          | false => rfl
          | true => exact absurd (mask_done' T I h2 h3 hh) hn
        obtain ⟨g4, g5⟩ := g3 ⟨ent L k, (T.mem k' (by omega) _).2 ⟨k, h1, rfl⟩, by rw [henti k hk]; exact hbit, by rw [← hent]; exact hlb⟩
        subst g4 g5
        exact ⟨by simpa using g1, fzAdd_eq g2⟩
      · rw [el', hb'] at e6; cases e6
    have hfresh : ∀ id, (σ k).nx ≤ id → c.μ id = none := by
      intro id hid
      rcases Nat.lt_or_ge id (σ pl.length).nx with g | g
      · obtain ⟨j, a1, a2, a3, a4⟩ := T.range hid pl.length (by omega) (Nat.le_refl _) g
        by_cases hL : Lk pl listed j
        · have hjk : j ≠ k := fun e => hn (e ▸ hL)
          have := (late j (by omega) a2 hL).1
          omega
        · exact I.free j id (by omega) a2 hL a3 a4
      · exact I.fresh id g
    have fzmono : ∀ j, q ≤ j → ∀ m, j ≤ m → m ≤ k → ∀ id, id ∈ (σ j).fz → id ∈ (σ m).fz := by
      intro j hj m
      induction m with
      | zero => intro h1 _ id hid; have : j = 0 := by omega
                subst this; exact hid
      | succ m ih =>
        intro h1 h2 id hid
        rcases Nat.lt_or_ge m j with g | g
        · have : j = m + 1 := by omega
          subst this; exact hid
        · have hm := ih g (by omega) id hid
          obtain ⟨l', e1, e2, _, e3, e4, e5⟩ := (T.ev m (by omega)).log
          have el' : l' = ent L m := by unfold ent; rw [e1]; rfl
          have hb' := I.nob m (by omega) (by omega) (hpre m (by omega))
          rcases e5 with ⟨_, ⟨_, _, _, _, g2⟩ | ⟨_, v, objs, F, tv, _, _, _, _, _, g2, _⟩⟩ | ⟨e6, _⟩
          · rw [g2]; exact hm
          · rw [g2]; exact List.mem_append.2 (.inr hm)
          · rw [el', hb'] at e6; cases e6
    have hHk : HeapOk E.ty c (σ k).h (σ k).fz := by
      refine H.part (fun id x i hi hg => view_heap T I hk (Nat.le_refl _) hqk hA hB hi hg (fun b _ hb hbit => ?_) hmask) fun id hid => ?_
      · have := hall _ (hlogm b hb)
        rw [henti b (by omega), hbit] at this; cases this
      · rcases hZ id hid with h | ⟨k', h1, h2, h3, h4⟩
        · exact fzmono q (Nat.le_refl _) k hqk (Nat.le_refl _) id h
        · rcases Nat.lt_or_ge k' k with g | g
          · refine fzmono (k' + 1) (by omega) k (by omega) (Nat.le_refl _) id ?_
            unfold fzAdd at h4
            exact List.mem_of_mem_take h4
          · have hne : k' ≠ k := fun e => hn (e ▸ h3)
            rw [(late k' (by omega) h2 h3).2] at h4
            simp at h4
    have hlok : (σ k).lo ≤ (σ k).nx := by
      rw [T.lo k (by omega)]
      exact Nat.le_trans hlo (hmono 0 k (by omega) (by omega))
    refine hdoes c a hHk hfresh I.base hlok I.defers I.tsize (fun t u hx => ?_) _ _ fun c' x hext hH hf hvx => ?_
    · obtain ⟨g1, g2⟩ := htv t u hx
      exact slot_view T I hk hn he g1 g2
    obtain ⟨p1, p2⟩ := put_slots T hd I hk hn (c' := c') (x := x) hext hvx
    have late0 : ∀ k', k + 1 ≤ k' → k' < pl.length → Lk pl (listed.setIfInBounds (plAt pl k).i true) k' → (σ (k' + 1)).nx = (σ k').nx ∧ Lk pl listed k' := by
      intro k' h1 h2 h3
      rcases (hset k' h2).1 h3 with rfl | h3
      · omega
      · exact ⟨(late k' (by omega) h2 h3).1, h3⟩
    refine hK c' _ (k + 1) ⟨hsz, closed_set T I hk he, by omega, fun k' hk' => ?_, fun k' h1 h2 h3 => I.nob k' (by omega) h2 (late0 k' h1 h2 h3).2, p1, p2,
      ⟨(σ (k + 1)).h, (σ (k + 1)).fz, hH, fun _ _ => rfl, fun k' id h1 h2 h3 h4 h5 => ?_, fun id hid => .inl hid⟩,
      fun k' id h1 h2 h3 h4 h5 => hf id ?_, fun id hid => hf id ?_, ?_, ?_, ?_, I.ext.trans hext⟩
    · by_cases e : k' = k
      · subst e; exact (hset k' hk).2 (.inl rfl)
      · exact (hset k' (by omega)).2 (.inr (hpre k' (by omega)))
    · have := (late0 k' h1 h2 h3).1
      omega
    · have := hmono (k + 1) k' h1 (by omega)
      omega
    · have := hmono (k + 1) pl.length (by omega) (Nat.le_refl _)
      omega
    · cases (o k).dst <;> exact I.defers
    · cases (o k).dst <;> simp [Act.put, I.tsize]
    · exact I.base.mono hext
end
end Go.Vm
end
section
namespace Go.Vm
open Go.RowKit
section
variable {P : Program} {E : Env} {C : Calls} {ops : Array Oper} {n : Nat} {pl : List Pl} {σ : Nat → St} {L : Nat → List Lg} {o : Nat → Oper} {vo : Nat → Option V}
variable {c0 : Ctx}
theorem order_sound (T : Run P E ops n pl σ L o vo) (hd : ∀ oo ∈ ops.toList, ∀ d, oo.dst = some d → d < n) (hlo : (σ 0).lo ≤ (σ 0).nx) {Q : Exit → Act → World → Prop}
    (hQ : ∀ c a q listed, Inv P E ops n pl σ L o vo c0 q listed c a → (∀ i, i < ops.size → listed.getD i false = true) → Q .normal a c.w) :
    ∀ (fuel : Nat) (listed : Array Bool) (c : Ctx) (a : Act) (q : Nat), Inv P E ops n pl σ L o vo c0 q listed c a → ((List.range ops.size).filter fun i => !listed.getD i false).length ≤ fuel → wpAny P .any ops Q fuel listed a c.w := by
  have doneAll : ∀ (listed : Array Bool) (c : Ctx) (a : Act) (q : Nat), Inv P E ops n pl σ L o vo c0 q listed c a → Region.ready .any ops listed = [] → ∀ m i, i < m → i < ops.size → listed.getD i false = true := by
    intro listed c a q I hr m
    induction m with
    | zero => intro i h; omega
    | succ m ih =>
      intro i hi hs
      cases hl : listed.getD i false with
      | true => rfl
      | false =>
        exfalso
        have : i ∈ Region.ready .any ops listed := by
          rw [mem_ready]
          refine ⟨?_, ops[i], by simp [hs], fun e h1 h2 => ?_⟩
          · rw [← hl]
            have : i < listed.size := by rw [I.size]; exact hs
            simp [this]
          · rw [binds_any] at h2
            have := T.plan.edge i ops[i] e (by simp [hs]) h1 h2
            exact ih e.on (by omega) (by omega)
        rw [hr] at this; cases this
  intro fuel
  induction fuel with
  | zero =>
    intro listed c a q I hc
    have hall : ∀ i, i < ops.size → listed.getD i false = true := by
      intro i hi
      cases hl : listed.getD i false with
      | true => rfl
      | false =>
        have : i ∈ (List.range ops.size).filter fun i => !listed.getD i false := List.mem_filter.2 ⟨List.mem_range.2 hi, by rw [hl]; rfl⟩
        have := List.length_pos_of_mem this
        omega
    refine ⟨?_, hQ c a q listed I hall⟩
    rw [List.eq_nil_iff_forall_not_mem]
    intro i hi
    rw [mem_ready] at hi
    obtain ⟨h1, o', ho, _⟩ := hi
    have hs : i < ops.size := (Array.getElem?_eq_some_iff.1 ho).1
    have := hall i hs
    have hsz : i < listed.size := by rw [I.size]; exact hs
    simp [hsz] at this h1
    rw [this] at h1; cases h1
  | succ fuel ih =>
    intro listed c a q I hc
    refine ⟨fun hr => hQ c a q listed I fun i hi => doneAll listed c a q I hr (i + 1) i (by omega) hi, fun i hi => ?_⟩
    rw [mem_ready] at hi
    obtain ⟨h1, o', ho, h2⟩ := hi
    have hs : i < ops.size := (Array.getElem?_eq_some_iff.1 ho).1
    have hsz : i < listed.size := by rw [I.size]; exact hs
    have hl : listed.getD i false = false := by simp [hsz] at h1 ⊢; exact h1
    obtain ⟨k, hk, rfl⟩ := T.plan.all i hs
    rw [T.op hk] at ho; cases ho
    refine inv_step T hd hlo I hk (by unfold Lk; rw [hl]; simp) (fun e h3 h4 => h2 e h3 (by rw [binds_any]; exact h4)) fun c' a' q' I' => ih _ c' a' q' I' ?_
    have hlt : ∀ (l : List Nat), (plAt pl k).i ∈ l → (l.filter fun i => !(listed.setIfInBounds (plAt pl k).i true).getD i false).length < (l.filter fun i => !listed.getD i false).length := by
      have hle : ∀ (l : List Nat), (l.filter fun i => !(listed.setIfInBounds (plAt pl k).i true).getD i false).length ≤ (l.filter fun i => !listed.getD i false).length := by
        intro l
        induction l with
        | nil => simp
        | cons x l ihl =>
          simp only [List.filter_cons]
          by_cases hx : (plAt pl k).i = x
          · subst hx
            have e1 : (listed.setIfInBounds (plAt pl k).i true).getD (plAt pl k).i false = true := by simp [hsz]
            rw [e1, hl]
            simp only [Bool.not_true, Bool.not_false, Bool.false_eq_true, if_false, if_true, List.length_cons]
            omega
          · rw [getD_set_ne false hx]
            cases listed.getD x false <;> simp only [Bool.not_true, Bool.not_false, Bool.false_eq_true, if_false, if_true, List.length_cons] <;> omega
      intro l hm
      induction l with
      | nil => simp at hm
      | cons x l ihl =>
        simp only [List.filter_cons]
        by_cases hx : (plAt pl k).i = x
        · subst hx
          have e1 : (listed.setIfInBounds (plAt pl k).i true).getD (plAt pl k).i false = true := by simp [hsz]
          rw [e1, hl]
          have := hle l
          simp only [Bool.not_true, Bool.not_false, Bool.false_eq_true, if_false, if_true, List.length_cons]
          omega
        · have := ihl (by rcases List.mem_cons.1 hm with h | h; exact absurd h hx; exact h)
          rw [getD_set_ne false hx]
          cases listed.getD x false <;> simp only [Bool.not_true, Bool.not_false, Bool.false_eq_true, if_false, if_true, List.length_cons] <;> omega
    have := hlt _ (List.mem_range.2 hs)
    omega
theorem region_drawn (hm : P.follows .mixedOrders = true) (hT : TyOk P E.ty) (hW : WriteOk P E.ty) (hC : CallsOk P E C) (hD : InlDet C) {id : Nat} (hd : ∀ o ∈ ops.toList, ∀ d, o.dst = some d → d < n) (hp : PlanOk ops (planOf E ops.toList)) : RegionOk P E C n id ops true := by
  intro R c st a Q k r Rl h hn
  have h : runD E C ops.toList (planOf E ops.toList) st [] k = some r := h
  obtain ⟨σ, L, o, vo, e0, eL, ev, ekeys, ek⟩ := runD_trace (n := n) hT hW hC hD hd _ _ _ h
  have T : Run P E ops n (planOf E ops.toList) σ L o vo := ⟨fun j hj => by
    have e : plAt (planOf E ops.toList) j = (planOf E ops.toList)[j] := by simp [plAt, hj]
    rw [e]; exact ev j hj, eL, hp⟩
  have hext1 : Ext c { w := drewW c.w, base := c.base, F := c.F, I := c.I, μ := c.μ } := ⟨rfl, rfl, (Below.refl _ _).drew, fun _ _ _ => rfl, fun _ _ h => h, fun _ _ h => .inl h, fun _ _ _ => rfl, fun _ _ h => h⟩
  refine wp_region_any hm (order_sound (c0 := c) T hd (by rw [e0]; exact Rl.lo) (fun c' a' q listed I hall => ?_) ops.size (Array.replicate ops.size false) { w := drewW c.w, base := c.base, F := c.F, I := c.I, μ := c.μ } a 0 ?_ ?_)
  ·
    have hL : ∀ k, k < (planOf E ops.toList).length → Lk (planOf E ops.toList) listed k := fun k hk => hall _ (hp.lt k hk)
    have hq := I.qle
    obtain ⟨hS, fzS, H, hA, hB, hZ⟩ := I.heap
    have nob : ∀ b, q ≤ b → b < (planOf E ops.toList).length → (ent L b).b = false := fun b h1 h2 => I.nob b h1 h2 (hL b h2)
    have hget : ∀ id x i, c'.μ id = some i → get id (σ (planOf E ops.toList).length).h = some x → get id hS = some x := by
      intro id x i hi hg
      have hlt := ekeys id x hg
      rcases Nat.lt_or_ge id (σ q).nx with g | g
      · rw [hA id g, ← T.keep g _ hq (Nat.le_refl _) fun b h1 h2 h3 => by rw [nob b h1 h2] at h3; cases h3]
        exact hg
      · obtain ⟨j, a1, a2, a3, a4⟩ := T.range g _ hq (Nat.le_refl _) hlt
        rw [hB j id a1 a2 (hL j a2) a3 a4, ← T.keep a4 _ (by omega) (Nat.le_refl _) fun b h1 h2 h3 => by rw [nob b (by omega) h2] at h3; cases h3]
        exact hg
    have fzmono : ∀ j, q ≤ j → ∀ m, j ≤ m → m ≤ (planOf E ops.toList).length → ∀ id, id ∈ (σ j).fz → id ∈ (σ m).fz := by
      intro j hj m
      induction m with
      | zero => intro h1 _ id hid; have : j = 0 := by omega
                subst this; exact hid
      | succ m ih =>
        intro h1 h2 id hid
        rcases Nat.lt_or_ge m j with g | g
        · have : j = m + 1 := by omega
          subst this; exact hid
        · have hm := ih g (by omega) id hid
          obtain ⟨l', e1, e2, _, e3, e4, e5⟩ := (T.ev m (by omega)).log
          have el' : l' = ent L m := by unfold ent; rw [e1]; rfl
          have hb' := nob m (by omega) (by omega)
          rcases e5 with ⟨_, ⟨_, _, _, _, g2⟩ | ⟨_, v, objs, F, tv, _, _, _, _, _, g2, _⟩⟩ | ⟨e6, _⟩
          · rw [g2]; exact hm
          · rw [g2]; exact List.mem_append.2 (.inr hm)
          · rw [el', hb'] at e6; cases e6
    have hH : HeapOk E.ty c' (σ (planOf E ops.toList).length).h (σ (planOf E ops.toList).length).fz := H.part hget fun id hid => by
      rcases hZ id hid with h | ⟨k', h1, h2, h3, h4⟩
      · exact fzmono q (Nat.le_refl _) _ hq (Nat.le_refl _) id h
      · refine fzmono (k' + 1) (by omega) _ (by omega) (Nat.le_refl _) id ?_
        unfold fzAdd at h4
        exact List.mem_of_mem_take h4
    refine hn c' (σ (planOf E ops.toList).length) a' ⟨I.ext, (T.lo _ (Nat.le_refl _)).trans (by rw [e0]), by have := T.nx (j := 0) _ (Nat.zero_le _) (Nat.le_refl _); rw [e0] at this; exact this, fun t v hg => ?_, hH, I.fresh, ?_, I.defers, I.tsize, I.base⟩ ek
    · obtain ⟨s1, s2⟩ := T.slot _ (Nat.le_refl _) t
      by_cases hex : ∃ j, j < (planOf E ops.toList).length ∧ (o j).dst = some t
      · obtain ⟨j, hj, hdj⟩ := hex
        rw [s1 j hj hdj] at hg
        exact I.slot j t v hj (hL j hj) hdj hg
      · have hno : ∀ j, j < (planOf E ops.toList).length → (o j).dst ≠ some t := fun j hj hdj => hex ⟨j, hj, hdj⟩
        rw [s2 hno] at hg
        exact I.slot0 t v (fun k hk _ => hno k hk) hg
    · rw [T.lo _ (Nat.le_refl _)]
      refine Nat.le_trans ?_ (T.nx (j := 0) _ (Nat.zero_le _) (Nat.le_refl _))
      rw [e0]; exact Rl.lo
  · have hnot : ∀ i, (Array.replicate ops.size false).getD i false = false := fun i => by
      rcases Nat.lt_or_ge i ops.size with g | g
      · simp [g]
      · simp [Nat.not_lt.2 g]
    have hnL : ∀ k, ¬ Lk (planOf E ops.toList) (Array.replicate ops.size false) k := fun k hh => by unfold Lk at hh; rw [hnot] at hh; cases hh
    refine ⟨by simp, fun i oo e hl => ?_, Nat.zero_le _, fun k hk => by omega, fun k _ _ hL => absurd hL (hnL k), fun k t u _ hL => absurd hL (hnL k), fun t u _ hg => ?_, ⟨st.h, st.fz, ?_, fun _ _ => by rw [e0], fun k id _ _ hL => absurd hL (hnL k), fun id hid => .inl (by rw [e0]; exact hid)⟩,
      fun k id _ hk _ h1 _ => ?_, fun id hid => ?_, Rl.defers, Rl.size, ?_, hext1⟩
    · rw [hnot] at hl; cases hl
    · rw [e0] at hg
      obtain ⟨x, hx, hv⟩ := Rl.tm t u hg
      exact ⟨x, hx, hv.mono hext1⟩
    · refine ⟨fun id ob i hg hi => (Rl.hp.hp id ob i hg hi).keep hext1 (fun _ => rfl) (fun h => h) (fun _ _ h => .inl h), Rl.hp.sep, Rl.hp.ib⟩
    · have := T.nx (j := 0) k (Nat.zero_le _) (by omega)
      rw [e0] at this
      exact Rl.fresh id (by omega)
    · have := T.nx (j := 0) (planOf E ops.toList).length (Nat.zero_le _) (Nat.le_refl _)
      rw [e0] at this
      exact Rl.fresh id (by omega)
    · exact Rl.base
  · refine Nat.le_trans (List.length_filter_le _ _) ?_
    simp
end
end Go.Vm
end
section
namespace Go.Vm
open Go.RowKit
section
variable {P : Program} {E : Env} {ty : Tys} {c c' : Ctx}
theorem OR.mine {f : Bool} {i : Info} {o : Obj} (h : OR ty c f i o) (hon : i.on = true) : Mine c i.b := by
  have blk : ∀ k z, BlkOk c i k z → Mine c i.b := fun k z ⟨_, _, _, _, h, _⟩ => h
  have arr : ∀ sz len, ArrOk c f i sz len → Mine c i.b := fun sz len h => blk _ _ (h.2.2.2.2.2 hon).2
  cases o with
  | cells l => exact blk _ _ h.2.2.2.1
  | ints k l => exact arr _ _ h.1
  | bools l => exact arr _ _ h.1
  | vals e l => obtain ⟨ei, _, _, _, h4, _⟩ := h; exact arr _ _ h4
  | map kt et l cl => exact h.2.1
theorem Rel.withLo {n : Nat} {st : St} {a : Act} {l : Nat} (h : Rel ty n c st a) (hl : l ≤ st.nx) : Rel ty n c { st with lo := l } a :=
  ⟨h.tm, h.hp, h.fresh, hl, h.defers, h.size, h.base⟩
theorem core_sound {C : Calls} (hT : TyOk P E.ty) (hF : FnsOk P E) (hR : AllRegions P E) (hC : CallsOk P E C) (hD : InlDet C) {N : Nat} {R : Type} {f : FuncId} {as : List V} {st : St} {k : List V → St → Option R} {r : R}
    {fn : Func} (hfn : E.fn f = some fn) (ht : st.t = argT 0 as) (h : inlCore E N C f st k = some r) {c : Ctx} {vs : List Value} (H : HeapOk E.ty c st.h st.fz) (hf : ∀ id, st.nx ≤ id → c.μ id = none)
    (hb : Room c) (hlo : st.lo ≤ st.nx) (hl : LR E.ty c as vs) :
    Go.Calls P f vs.toArray c.w fun e w' => ∃ c' st' ws xs, e = .returned (tupX xs) ∧ c'.w = w' ∧ Le st.lo c c' ∧ HeapOk E.ty c' st'.h st'.fz ∧ (∀ id, st'.nx ≤ id → c'.μ id = none) ∧ st.lo ≤ st'.nx ∧
      LR E.ty c' ws xs ∧ k ws st' = some r := by
  unfold inlCore at h
  simp only [hfn] at h
  split at h
  case h_2 => simp at h
  rename_i code hcode
  refine calls_of_wp (hF f fn hfn).1 hcode ?_
  have hvl := hl.len
  have Rl0 := (Rel.enter (m := fn.ntmps - vs.length) H hf hb hl).withLo hlo
  have e0 : ({ t := argT 0 as, h := st.h, fz := st.fz, nx := st.nx, lo := st.lo } : St) = st := by rw [← ht]
  simp only at Rl0
  rw [e0] at Rl0
  have Rl' : Rel E.ty (vs.length + (fn.ntmps - vs.length)) c st { tmps := vs.toArray ++ Array.replicate (fn.ntmps - vs.toArray.size) Go.undef, defers := [] } := Rl0
  refine exec_sound (canon_ok) code (hR f fn code hfn hcode _ (vs.length + (fn.ntmps - vs.length)) hC hD (by omega)) _ _ _ _ _ Rl' h fun e c' st' a' hG hk => ?_
  have fin : (match (resultOf E.ty fn st').bind fun vs => endCall vs st' with
      | some p => k p.1 p.2
      | none => none) = some r → a'.defers = [] ∧ ∃ v, (results fn a'.tmps).run P c'.w = .ok v c'.w ∧ ∃ c1 st1 ws xs, Ending.returned v = .returned (tupX xs) ∧ c1.w = c'.w ∧ Le st.lo c c1 ∧ HeapOk E.ty c1 st1.h st1.fz ∧ (∀ id, st1.nx ≤ id → c1.μ id = none) ∧ st.lo ≤ st1.nx ∧
          LR E.ty c1 ws xs ∧ k ws st1 = some r := by
    intro hk
    refine ⟨hG.rel.defers, ?_⟩
    split at hk
    case h_2 => simp at hk
    rename_i p hp
    cases hws : resultOf E.ty fn st' with
    | none => rw [hws] at hp; simp at hp
    | some ws =>
      rw [hws] at hp
      simp only [Option.bind_some] at hp
      obtain ⟨xs, hx, hL⟩ := results_ok hT hG.rel hws
      have hlo' : st'.lo = st.lo := hG.lo
      obtain ⟨c2, hw2, hLe, H2, hf2, hl2, hn2, hL2⟩ := endCall_ok (canon_ok) hG.rel.hp hG.rel.fresh hG.rel.lo hG.rel.base hL hp
      have hle : Le st.lo c c2 := hG.le.trans (hlo' ▸ hLe)
      exact ⟨_, hx, c2, p.2, p.1, xs, rfl, hw2, hle, H2, hf2, by rw [hl2, hlo'] at hn2; exact hn2, hL2, hk⟩
  cases e with
  | exit j => simp at hk
  | normal => exact fin hk
  | ret => exact fin hk
mutual
theorem dirV_mu : ∀ {v : V} {x : Value}, VR ty c v x → ∀ a ∈ dirV v, ∃ i, c.μ a = some i
  | .own _, _, h, a, ha => by
    simp only [VR] at h; simp only [dirV, List.mem_singleton] at ha; subst ha; obtain ⟨i, h, _⟩ := h; exact ⟨i, h⟩
  | .owns _ _ _, _, h, a, ha => by
    simp only [VR] at h; simp only [dirV, List.mem_singleton] at ha; subst ha; obtain ⟨i, _, _, h, _⟩ := h; exact ⟨i, h⟩
  | .elem _ _ _, _, h, a, ha => by
    simp only [VR] at h; simp only [dirV, List.mem_singleton] at ha; subst ha; obtain ⟨i, h, _⟩ := h; exact ⟨i, h⟩
  | .mp _, _, h, a, ha => by
    simp only [VR] at h; simp only [dirV, List.mem_singleton] at ha; subst ha; obtain ⟨i, h, _⟩ := h; exact ⟨i, h⟩
  | .ptr _ _, _, h, a, ha => by
    simp only [VR] at h; simp only [dirV, List.mem_singleton] at ha; subst ha; obtain ⟨i, h, _⟩ := h; exact ⟨i, h⟩
  | .agg l, _, h, a, ha => by
    simp only [VR] at h; simp only [dirV] at ha; obtain ⟨xs, _, h⟩ := h; exact dirC_mu h a ha
  | .tup l, _, h, a, ha => by
    simp only [VR] at h; simp only [dirV] at ha; obtain ⟨xs, _, h⟩ := h; exact dirL_mu h a ha
  | .ro l, _, h, a, ha => by
    simp only [VR] at h; simp only [dirV] at ha; obtain ⟨b, o, _, h⟩ := h; exact dirM_mu h a ha
  | .fn _ p q, _, h, a, ha => by
    simp only [VR] at h; simp only [dirV, List.mem_append] at ha; obtain ⟨ps, qs, _, h1, h2⟩ := h
    rcases ha with ha | ha
    · exact dirL_mu h1 a ha
    · exact dirL_mu h2 a ha
  | .undef, _, _, _, ha | .bool _, _, _, _, ha | .int _ _, _, _, _, ha | .str _, _, _, _, ha | .ints _ _ _, _, _, _, ha | .bools _ _, _, _, _, ha | .vals _ _ _, _, _, _, ha
  | .nilp, _, _, _, ha | .nilfn, _, _, _, ha | .nils, _, _, _, ha | .nilmp, _, _, _, ha => by simp [dirV] at ha
theorem dirC_mu : ∀ {l : List V} {xs : List Value}, CR ty c l xs → ∀ a ∈ dirL l, ∃ i, c.μ a = some i
  | [], _, _, _, ha => by simp [dirL] at ha
  | v :: r, _, h, a, ha => by
    simp only [CR] at h; simp only [dirL, List.mem_append] at ha; obtain ⟨y, ys, _, h1, _, h2⟩ := h
    rcases ha with ha | ha
    · exact dirV_mu h1 a ha
    · exact dirC_mu h2 a ha
theorem dirL_mu : ∀ {l : List V} {xs : List Value}, LR ty c l xs → ∀ a ∈ dirL l, ∃ i, c.μ a = some i
  | [], _, _, _, ha => by simp [dirL] at ha
  | v :: r, _, h, a, ha => by
    simp only [LR] at h; simp only [dirL, List.mem_append] at ha; obtain ⟨y, ys, _, h1, h2⟩ := h
    rcases ha with ha | ha
    · exact dirV_mu h1 a ha
    · exact dirL_mu h2 a ha
theorem dirM_mu : ∀ {l : List V} {b o : Nat}, MR ty c l b o → ∀ a ∈ dirL l, ∃ i, c.μ a = some i
  | [], _, _, _, _, ha => by simp [dirL] at ha
  | v :: r, _, _, h, a, ha => by
    simp only [MR] at h; simp only [dirL, List.mem_append] at ha; obtain ⟨⟨y, h1, _⟩, h2⟩ := h
    rcases ha with ha | ha
    · exact dirV_mu h1 a ha
    · exact dirM_mu h2 a ha
end
theorem add_keep {lo : Nat} {g : Gc} {id x n : Nat} (h : get id g.m = some x) : get id (g.add lo n).m = some x := by
  unfold Gc.add
  cases Nat.blt n lo with
  | true => exact h
  | false =>
    simp only [cond_false]
    split
    · exact h
    · rename_i hn
      have : id ≠ n := fun e => by subst e; rw [hn] at h; cases h
      show get id (ins n g.nx g.m) = _
      rw [get_ins_other _ this]; exact h
theorem gcV_keep {h : Heap} {lo : Nat} {id x : Nat} : ∀ (N : Nat) (l : List V) (g : Gc), get id g.m = some x → get id (gcV h lo N l g).m = some x
  | 0, _, _, hg => by simpa only [gcV] using hg
  | _ + 1, [], _, hg => by simpa only [gcV] using hg
  | N + 1, v :: r, g, hg => by
    simp only [gcV]
    apply gcV_keep N
    split
    · exact add_keep hg
    · exact add_keep hg
    · exact add_keep hg
    · exact add_keep hg
    · split
      · exact hg
      · cases Nat.blt _ lo with
        | true => exact hg
        | false =>
          simp only [cond_false]
          split
          · exact gcV_keep N _ _ (add_keep hg)
          · exact add_keep hg
    · exact gcV_keep N _ _ hg
    · exact gcV_keep N _ _ hg
    · exact gcV_keep N _ _ hg
    · exact gcV_keep N _ _ (gcV_keep N _ _ hg)
    · exact hg
theorem addAll_ok : ∀ (l : List Nat) {g : Gc}, GcOk 0 g → GcOk 0 (addAll l g)
  | [], _, h => h
  | id :: r, _, h => addAll_ok r (h.add id)
theorem addAll_keys : ∀ (l : List Nat) {g : Gc} {id x : Nat}, get id (addAll l g).m = some x → (∃ y, get id g.m = some y) ∨ id ∈ l
  | [], _, _, x, h => .inl ⟨x, h⟩
  | n :: r, g, id, x, h => by
    rcases addAll_keys r h with ⟨y, hy⟩ | hy
    · by_cases e : id = n
      · exact .inr (by simp [e])
      · left
        unfold Gc.add at hy
        cases hb : Nat.blt n 0 with
        | true => rw [hb] at hy; exact ⟨y, hy⟩
        | false =>
          rw [hb] at hy
          simp only [cond_false] at hy
          split at hy
          · exact ⟨y, hy⟩
          · refine ⟨y, ?_⟩
            have : get id (ins n g.nx g.m) = some y := hy
            rwa [get_ins_other _ e] at this
    · exact .inr (by simp [hy])
theorem mem_swapR {j id : Nat} : ∀ {m : Ren}, (j, id) ∈ swapR m → (id, j) ∈ m
  | [], h => by simp [swapR] at h
  | p :: r, h => by
    simp only [swapR, List.mem_cons, Prod.mk.injEq] at h
    rcases h with ⟨rfl, rfl⟩ | h
    · simp
    · exact List.mem_cons_of_mem _ (mem_swapR h)
theorem mem_upR {j id : Nat} : ∀ {n p nx : Nat}, (j, id) ∈ upR p nx n → p ≤ j ∧ id + p = nx + j
  | 0, _, _, h => by simp [upR] at h
  | n + 1, p, nx, h => by
    simp only [upR, List.mem_cons, Prod.mk.injEq] at h
    rcases h with ⟨rfl, rfl⟩ | h
    · omega
    · have := mem_upR h; omega
theorem get_restHeap {m : Ren} {nx id : Nat} {o : Obj} : ∀ {h : Heap}, get id (restHeap m nx h) = some o → id < nx ∧ get id m = none ∧ get id h = some o
  | [], hg => by simp [restHeap, get] at hg
  | p :: r, hg => by
    unfold restHeap at hg
    have other : p.1 ≠ id → get id (restHeap m nx r) = some o → id < nx ∧ get id m = none ∧ get id (p :: r) = some o := fun hne hg => by
      obtain ⟨h1, h2, h3⟩ := get_restHeap hg
      exact ⟨h1, h2, by simp only [get, beq_false.2 (Ne.symm hne), cond_false]; exact h3⟩
    have self : ∀ {h'}, get id (restHeap m nx r) = some o → (p.1 = id → id < nx ∧ get id m = none → False) → get id (p :: r) = h' → id < nx ∧ get id m = none ∧ get id (p :: r) = some o := fun hg hc _ => by
      obtain ⟨h1, h2, h3⟩ := get_restHeap hg
      exact other (fun e => hc e ⟨h1, h2⟩) hg
    cases hb : Nat.blt p.1 nx with
    | false =>
      rw [hb] at hg
      exact self hg (fun e h => by have := blt_true.2 (e ▸ h.1 : p.1 < nx); rw [hb] at this; cases this) rfl
    | true =>
      rw [hb] at hg
      simp only [cond_true] at hg
      split at hg
      · rename_i x hx
        exact self hg (fun e h => by rw [e, h.2] at hx; cases hx) rfl
      · rename_i hx
        by_cases e : p.1 = id
        · subst e
          simp only [get, beq_true.2, cond_true] at hg
          exact ⟨blt_true.1 hb, hx, by simp only [get, beq_true.2, cond_true]; exact hg⟩
        · simp only [get, beq_false.2 (Ne.symm e), cond_false] at hg
          exact other e hg
theorem sub_sound {C : Calls} (hT : TyOk P E.ty) (hF : FnsOk P E) (hR : AllRegions P E) (hC : CallsOk P E C) (hD : InlDet C) {N : Nat} {R : Type} {f : FuncId} {as : List V} {st : St} {k : List V → St → Option R} {r : R}
    (h : subBodyS E (inlCore E N C) f as st k = some r) : InlSpec P E R f as st k r := by
  intro c vs H hf hb hlo hl
  unfold subBodyS at h
  split at h
  case h_2 => simp at h
  rename_i fn hfn
  obtain ⟨hlen, h⟩ := cond_some h
  split at h
  case h_2 => simp at h
  rename_i s hs
  unfold subStart at hs
  simp only at hs
  obtain ⟨hle0, hs⟩ := cond_some hs
  split at hs
  case h_2 => simp at hs
  rename_i as1 h1 has1 hh1
  simp only [Option.some.injEq] at hs
  have hg0 : GcOk 0 (addAll (dirL as) ⟨[], 0⟩) := addAll_ok _ ⟨Nat.le_refl _, fun _ _ hh => by simp [get] at hh, fun _ _ _ hh => by simp [get] at hh, fun _ _ hh => by simp [get] at hh, fun _ hh => by simp at hh⟩
  have hg := gcV_ok (h := st.h) (lo := 0) 4096 (cellsAt st.h (dirL as) ++ as) _ hg0
  have hkeep := fun {id x : Nat} (hx : get id (addAll (dirL as) ⟨[], 0⟩).m = some x) => gcV_keep (h := st.h) (lo := 0) 4096 (cellsAt st.h (dirL as) ++ as) _ hx
  have hkeys : ∀ id x, get id (addAll (dirL as) ⟨[], 0⟩).m = some x → id ∈ dirL as := fun id x hx => by
    rcases addAll_keys _ hx with ⟨y, hy⟩ | hy
    · simp [get] at hy
    · exact hy
  revert hs hle0 has1 hh1 hg hkeep hkeys hg0
  generalize addAll (dirL as) ⟨[], 0⟩ = g0
  generalize gcV st.h 0 4096 (cellsAt st.h (dirL as) ++ as) g0 = g
  intro hle0 has1 hh1 hs hg0 hg hkeep hkeys
  have hle0 : g0.nx ≤ g.nx := Nat.le_of_ble_eq_true hle0
  subst hs
  simp only at h
  let FB : Nat → Prop := fun b => ∃ id o i, get id st.h = some o ∧ get id g.m = none ∧ c.μ id = some i ∧ i.on = true ∧ b = i.b
  let c1 : Ctx := { w := c.w, base := c.base, F := fun b => c.F b ∨ FB b, I := c.I, μ := renM 0 g.m c.μ }
  have hμ : ∀ id id', renId 0 g.m id = some id' → c1.μ id' = c.μ id := fun id id' hr => renM_ok hg hr
  have S : Seen (fun _ => True) c c1 := fun t b o _ hi => by
    refine ⟨?_, rfl⟩
    cases t with
    | bor => exact hi
    | frz => exact hi
    | new => exact hi
  have src : ∀ id' o', get id' h1 = some o' → ∃ id o, get id g.m = some id' ∧ get id st.h = some o ∧ renObj 0 g.m o = some o' := by
    intro id' o' hgt
    rcases get_renHeap g.m hh1 hgt with hh | ⟨p, hp, rfl, o, q1, q2⟩
    · simp [get] at hh
    · exact ⟨p.1, o, hg.mem p hp, q1, q2⟩
  have ren0 : ∀ {m : Ren} {id x : Nat}, renId 0 m id = some x ↔ get id m = some x := fun {m id x} => by
    unfold renId
    have : Nat.blt id 0 = false := by
      cases hb : Nat.blt id 0 with
      | false => rfl
      | true => exact absurd (blt_true.1 hb) (by omega)
    rw [this]; rfl
  have H1 : HeapOk E.ty c1 h1 (renFz st.fz g.m []) := by
    refine ⟨fun id' o' i hgt hi => ?_, fun id1 id2 o1 o2 i1 i2 g1 g2 m1 m2 hne hon1 hon2 => ?_, H.ib⟩
    · obtain ⟨id, o, q1, q2, q3⟩ := src id' o' hgt
      have hi' : c.μ id = some i := by rw [← hμ id id' (ren0.2 q1)]; exact hi
      have hO := H.hp id o i q2 hi'
      have hO' := OR.ren (c' := c1) S hμ rfl rfl (fun hon hm => ⟨hm.1, fun hF => by
        rcases hF with hF | ⟨id2, o2, i2, r1, r2, r3, r4, r5⟩
        · exact hm.2 hF
        · exact H.sep id id2 o o2 i i2 q2 r1 hi' r3 (fun e => by subst e; rw [q1] at r2; cases r2) hon r4 r5⟩) q3 hO
      cases hz : has id st.fz with
      | false => rw [hz] at hO'; exact hO'.weaken
      | true =>
        rw [hz] at hO'
        rw [has_mem.2 (renFz_mem g.m [] (id, id') (get_mem q1) hz)]
        exact hO'
    · obtain ⟨j1, p1, a1, a2, _⟩ := src id1 o1 g1
      obtain ⟨j2, p2, b1, b2, _⟩ := src id2 o2 g2
      have hj : j1 ≠ j2 := fun e => by
        subst e
        rw [a1] at b1
        exact hne (Option.some.inj b1)
      exact H.sep j1 j2 p1 p2 i1 i2 a2 b2 (by rw [← hμ j1 id1 (ren0.2 a1)]; exact m1) (by rw [← hμ j2 id2 (ren0.2 b1)]; exact m2) hj hon1 hon2
  have hf1 : ∀ id, g.nx ≤ id → c1.μ id = none := fun id hid => by
    show renM 0 g.m c.μ id = none
    unfold renM
    rw [if_neg (by omega), dif_neg]
    rintro ⟨j, hj⟩
    have := (hg.ge j id hj).2
    omega
  have hb1 : Room c1 := ⟨hb.1, fun b hF => by
    rcases hF with hF | ⟨id2, o2, i2, r1, r2, r3, r4, rfl⟩
    · exact hb.2 b hF
    · exact (H.hp id2 o2 i2 r1 r3).block r4⟩
  have hl1 : LR E.ty c1 as1 vs := LR.ren S hμ has1 hl
  refine Calls.mono (core_sound (c := c1) hT hF hR hC hD hfn rfl h H1 hf1 hb1 hle0 hl1) fun e w' he => ?_
  obtain ⟨c3, st3, ws, xs, he1, he2, hle, H3, hf3, hn3, hL3, hk⟩ := he
  split at hk
  case h_2 => simp at hk
  rename_i q hq
  unfold subEnd at hq
  simp only at hq
  split at hq
  case h_2 => simp at hq
  rename_i ws' h' hws hh'
  simp only [Option.some.injEq] at hq
  subst hq
  revert hws hh' hk
  generalize hρ : swapR g0.m ++ upR g0.nx st.nx (st3.nx - g0.nx) = ρ
  intro hws hh' hk
  let C' : Ctx := { w := c3.w, base := c.base, F := c.F, I := c3.I, μ := fun id => if id < st.nx then c.μ id else c3.μ (g0.nx + (id - st.nx)) }
  have hbase : c3.base = c.base := hle.base
  have memρ : ∀ j id, (j, id) ∈ ρ → C'.μ id = c3.μ j ∧ ((j < g0.nx ∧ get id g0.m = some j) ∨ (g0.nx ≤ j ∧ id = st.nx + (j - g0.nx))) := by
    intro j id hm
    rw [← hρ] at hm
    rcases List.mem_append.1 hm with hm | hm
    · have q1 := hg0.mem _ (mem_swapR hm)
      simp only at q1
      have q2 := (hg0.ge _ _ q1).2
      obtain ⟨i, hi⟩ := dirL_mu hl id (hkeys _ _ q1)
      have q3 : id < st.nx := by
        rcases Nat.lt_or_ge id st.nx with g | g
        · exact g
        · rw [hf id g] at hi; cases hi
      have q4 : c1.μ j = some i := by rw [hμ id j (ren0.2 (hkeep q1))]; exact hi
      refine ⟨?_, .inl ⟨q2, q1⟩⟩
      show (if id < st.nx then c.μ id else _) = _
      rw [if_pos q3, hi]
      exact (hle.hμ j i q2 q4).symm
    · obtain ⟨q1, q2⟩ := mem_upR hm
      refine ⟨?_, .inr ⟨q1, by omega⟩⟩
      show (if id < st.nx then c.μ id else _) = _
      rw [if_neg (by omega)]
      congr 1; omega
  have hμρ : ∀ j id, renId 0 ρ j = some id → C'.μ id = c3.μ j := fun j id hr => (memρ j id (get_mem (ren0.1 hr))).1
  have S3 : Seen (fun _ => True) c3 C' := fun t b o _ hi => by
    refine ⟨?_, rfl⟩
    cases t with
    | bor =>
      rcases hi with hi | hi
      · exact .inl ⟨hbase ▸ hi.1, hi.2⟩
      · exact .inr hi
    | frz => exact hi
    | new => exact hi
  have hext : Ext c C' := by
    refine ⟨rfl, rfl, hle.below, fun b hb hF => hle.keeps b hb (.inl hF), hle.hI, fun b o hi => ?_, hle.hcell, fun id i hi => ?_⟩
    · rcases hle.hnew b o hi with hi | hi
      · exact .inl hi
      · exact .inr ⟨hi.1, fun hF => hi.2 (.inl hF)⟩
    · show (if id < st.nx then c.μ id else _) = _
      rcases Nat.lt_or_ge id st.nx with g | g
      · rw [if_pos g]; exact hi
      · rw [hf id g] at hi; cases hi
  have frame : ∀ id o i, get id (restHeap g.m st.nx st.h) = some o → C'.μ id = some i → get id st.h = some o ∧ c.μ id = some i ∧ (i.on = true → FB i.b) := by
    intro id o i q hi
    obtain ⟨q1, q2, q3⟩ := get_restHeap q
    have hi' : c.μ id = some i := by
      have : (if id < st.nx then c.μ id else c3.μ (g0.nx + (id - st.nx))) = some i := hi
      rwa [if_pos q1] at this
    exact ⟨q3, hi', fun hon => ⟨id, o, i, q3, q2, hi', hon, rfl⟩⟩
  have H' : HeapOk E.ty C' h' (renFz st3.fz ρ st.fz) := by
    refine ⟨fun id o' i hgt hi => ?_, fun id1 id2 o1 o2 i1 i2 g1 g2 m1 m2 hne hon1 hon2 => ?_, H3.ib⟩
    · rcases get_renHeap ρ hh' hgt with hh | ⟨p, hp, rfl, o, q1, q2⟩
      · obtain ⟨q1, q2, q3⟩ := frame id o' i hh hi
        have hO := H.hp id o' i q1 q2
        refine hO.keep hext (fun hon => hle.keeps i.b (hO.block hon) (.inr (q3 hon))) (fun hz => has_mem.2 (renFz_acc _ _ _ (has_mem.1 hz))) fun hon off hI => ?_
        rcases hle.hnew _ _ hI with hI | hI
        · exact .inl hI
        · exact absurd (.inr (q3 hon)) hI.2
      · have q3 := (memρ p.1 p.2 hp).1
        rw [q3] at hi
        have hO := H3.hp p.1 o i q1 hi
        have hO' := OR.ren (c' := C') S3 hμρ rfl rfl (fun _ hm => ⟨hbase ▸ hm.1, fun hF => hm.2 (by rw [hle.fr]; exact .inl hF)⟩) q2 hO
        cases hz : has p.1 st3.fz with
        | false => rw [hz] at hO'; exact hO'.weaken
        | true =>
          rw [hz] at hO'
          rw [has_mem.2 (renFz_mem ρ _ p hp hz)]
          exact hO'
    · have fs : ∀ ida oa ia (pb : Nat × Nat) ob ib, get ida (restHeap g.m st.nx st.h) = some oa → C'.μ ida = some ia → pb ∈ ρ → get pb.1 st3.h = some ob → C'.μ pb.2 = some ib → ia.on = true → ib.on = true → ia.b ≠ ib.b := by
        intro ida oa ia pb ob ib q1 q2 q3 q4 q5 hona honb e
        obtain ⟨r1, r2, r3⟩ := frame ida oa ia q1 q2
        rw [(memρ pb.1 pb.2 q3).1] at q5
        have := ((H3.hp pb.1 ob ib q4 q5).mine honb).2
        rw [hle.fr] at this
        exact this (.inr (e ▸ r3 hona))
      rcases get_renHeap ρ hh' g1 with hh1 | ⟨p1, hp1, rfl, q1, r1, t1⟩ <;> rcases get_renHeap ρ hh' g2 with hh2 | ⟨p2, hp2, rfl, q2, r2, t2⟩
      · obtain ⟨a1, a2, _⟩ := frame id1 o1 i1 hh1 m1
        obtain ⟨b1, b2, _⟩ := frame id2 o2 i2 hh2 m2
        exact H.sep id1 id2 o1 o2 i1 i2 a1 b1 a2 b2 hne hon1 hon2
      · exact fs id1 o1 i1 p2 q2 i2 hh1 m1 hp2 r2 m2 hon1 hon2
      · exact fun e => fs id2 o2 i2 p1 q1 i1 hh2 m2 hp1 r1 m1 hon2 hon1 e.symm
      · have x1 := memρ p1.1 p1.2 hp1
        have x2 := memρ p2.1 p2.2 hp2
        refine H3.sep p1.1 p2.1 q1 q2 i1 i2 r1 r2 (by rw [← x1.1]; exact m1) (by rw [← x2.1]; exact m2) (fun e => hne ?_) hon1 hon2
        rcases x1.2 with ⟨y1, z1⟩ | ⟨y1, z1⟩ <;> rcases x2.2 with ⟨y2, z2⟩ | ⟨y2, z2⟩
        · exact hg0.inj _ _ _ z1 (by rw [e]; exact z2)
        · omega
        · omega
        · rw [z1, z2, e]
  refine ⟨C', { t := st.t, h := h', fz := renFz st3.fz ρ st.fz, nx := st.nx + (st3.nx - g0.nx), lo := st.lo }, ws', xs, he1, he2, hext, H', fun id hid => ?_, rfl, rfl, Nat.le_add_right _ _, LR.ren S3 hμρ hws hL3, hk⟩
  show (if id < st.nx then c.μ id else _) = none
  have hid : st.nx + (st3.nx - g0.nx) ≤ id := hid
  rw [if_neg (by omega)]
  exact hf3 _ (by omega)
end
end Go.Vm
end
