/- Code: what the machine runs, the model runs. -/
import Derived.Test.YtjjocahgbmibeaaEngX
namespace Go.Eng
set_option linter.unusedVariables false
set_option linter.unusedSimpArgs false

inductive TodoR (P : Program) (n : Nat) (ps : List Nat) : List Item → List AItem → Prop where
  | nil : TodoR P n ps [] []
  | code {c x k k'} : Is P c x → fits n ps c = true → TodoR P n ps k k' → TodoR P n ps (.code c :: k) (.code x :: k')
  | blk {id k k'} : TodoR P n ps k k' → TodoR P n ps (.inBlock id :: k) (.inBlock id :: k')
  | loop {c x lv k k'} : Is P c x → fits n ps c = true → TodoR P n ps k k' → TodoR P n ps (.inLoop c :: k) (.inLoop lv x :: k')
theorem exit_ok {P : Program} {n : Nat} {ps : List Nat} {id : Nat} {k : List Item} {k' r' : List AItem} (h : TodoR P n ps k k') (he : exitA id k' = some r') : ∃ r, TodoR P n ps r r' ∧ ∀ K, exitTo id (k ++ K) = some (r ++ K) := by
  induction h with
  | nil => cases he
  | code _ _ _ ih => obtain ⟨r, h1, h2⟩ := ih he; exact ⟨r, h1, fun K => by simpa [exitTo] using h2 K⟩
  | loop _ _ _ ih => obtain ⟨r, h1, h2⟩ := ih he; exact ⟨r, h1, fun K => by simpa [exitTo] using h2 K⟩
  | @blk id' k k' hk ih =>
    simp only [exitA] at he
    split at he
    · rename_i hid
      obtain rfl := Option.some.inj he
      exact ⟨k, hk, fun K => by simp [exitTo, hid]⟩
    · rename_i hid
      obtain ⟨r, h1, h2⟩ := ih he
      exact ⟨r, h1, fun K => by
        have : (id' == id) = false := by simpa using hid
        simpa [exitTo, this] using h2 K⟩

/-- A frame on its way. -/
structure FInv (C : Ctx) (sz : Nat) (ps : List Nat) (tm : Nat → Value) (S : St) (a : Act) (w : World) : Prop where
  ex : ∃ σ F, Inv C w σ F S.m ∧ EnvR w σ F S.e a.tmps ∧ ∀ id, S.next ≤ id → σ id = none
  size : a.tmps.size = sz
  defers : a.defers = []
  params : ∀ t, t ∈ ps → a.tmps.getD t undef = tm t
def PostAt (C : Ctx) (fn : AFn) (sz : Nat) (tm : Nat → Value) (r : AV) (outs : List AV) (e : Exit) (a : Act) (w : World) : Prop :=
  (e = .normal ∨ e = .ret) ∧ ∃ S r0 outs0, FInv C sz fn.ps tm S a w ∧ leave fn S = some (r0, outs0) ∧ LeB r0 r ∧ LeBs outs0 outs
def SoundAt (P : Program) (fn : AFn) (todo : List AItem) (S : St) (r : AV) (outs : List AV) : Prop :=
  ∀ (C : Ctx) (n sz : Nat) (tm : Nat → Value) (ck : List Item) (a : Act) (w : World), n ≤ sz → TodoR P n fn.ps ck todo → FInv C sz fn.ps tm S a w →
    ∀ (b : Frame) (k : List Item) (cs : List Frame), ∃ e a' w', PostAt C fn sz tm r outs e a' w' ∧ Arrives P (lone (b.at a (ck ++ k)) cs w) b k cs e a' w'

theorem regOk_mono {n n' : Nat} {ps : List Nat} {ops : Array Oper} {dr : Bool} (h : regOk n ps ops dr = true) (hn : n ≤ n') : regOk n' ps ops dr = true := by
  simp only [regOk, Bool.and_eq_true] at h ⊢
  refine ⟨List.all_eq_true.2 fun o ho => ?_, h.2⟩
  have := List.all_eq_true.1 h.1 o ho
  simp only [Bool.and_eq_true] at this ⊢
  refine ⟨?_, this.2⟩
  have h1 := this.1
  split at h1
  · simp only [Bool.and_eq_true, decide_eq_true_eq] at h1 ⊢; exact ⟨Nat.lt_of_lt_of_le h1.1 hn, h1.2⟩
  · rfl
/-- A region. -/
theorem region_ok {P : Program} {md : Nat → List Bool} {C : Ctx} {sz n : Nat} {ps : List Nat} {tm : Nat → Value} {S S' : St} {a : Act} {w : World} {id : Nat} {ops : Array Oper} {dr : Bool} {tr' : List (List Nat × List Nat)}
    (h : FInv C sz ps tm S a w) (hc : Chain P md (ops.toList.map (operOf P ops)) 0 S [] S' tr') (hp : dr = true → okPairs tr' (pairsOf P ops) = true) (hd : dr = true → P.follows .mixedOrders = true) (hf : regOk n ps ops dr = true) (hn : n ≤ sz) :
    (Code.region id ops dr).wp P (fun e a' w' => e = .normal ∧ FInv C sz ps tm { S' with next := S'.next + 16 * ops.size } a' w') a w := by
  obtain ⟨rs, r1, r2, r3, r4, r5, r6⟩ := hc.recs
  obtain ⟨⟨σ, F, hi, he, hnew⟩, hsz, hdf, hps⟩ := h
  have hlen : ops.size = rs.length := by rw [r1]; simp
  have hf := regOk_mono hf hn
  have steps : ∀ (B : Base), B.e = S.e → B.m = S.m → B.next = S.next → ∀ (k : Nat) (o : Oper) (r : Rec), ops[k]? = some o → rs[k]? = some r → Step1 P md (eAt (fun q => decide (q < k)) B.e 0 rs) (mAt (fun q => decide (q < k)) B.m 0 rs) (B.next + 16 * k) (operOf P ops o) r := by
    intro B h1 h2 h3 k o r hk hr
    have := r6 k (operOf P ops o) r (by simp [hk]) hr
    rw [Nat.zero_add] at this
    rw [h1, h2, h3]; exact this
  have fin : ∀ (B : Base), B.e = S.e → B.m = S.m → B.next = S.next → B.size = sz → B.defers = [] → B.ps = ps → B.tm = tm → ∀ a' w', RInv C B rs (fun q => decide (q < rs.length)) a' w' → (Exit.normal = Exit.normal ∧ FInv C sz ps tm { S' with next := S'.next + 16 * ops.size } a' w') := by
    intro B h1 h2 h3 h4 h5 h6 h7 a' w' hR
    refine ⟨rfl, ?_⟩
    have hR := rinv_all (D' := fun _ => true) hR fun k hk => by simp [hk]
    obtain ⟨⟨σ', F', g1, g2, g3, g4, g5⟩, g6, g7, g8⟩ := hR
    rw [h1] at g2
    rw [h2] at g1
    refine ⟨⟨σ', F', ?_, ?_, fun id hid => ?_⟩, g6.trans h4, g7.trans h5, fun t ht => by rw [← h7]; exact g8 t (h6 ▸ ht)⟩
    · rw [show ({ S' with next := S'.next + 16 * ops.size } : St).m = S'.m from rfl, r5]; exact g1
    · rw [show ({ S' with next := S'.next + 16 * ops.size } : St).e = S'.e from rfl, r4]; exact g2
    · cases hσ : σ' id with
      | none => rfl
      | some ℓ =>
        simp only at hid
        rcases g5 id (by rw [hσ]; simp) with q | ⟨k, _, hk, q1, q2⟩
        · rw [h3] at q; omega
        · rw [h3] at q1 q2; omega
  have init : ∀ (w1 : World), Turns w w1 (fun _ => False) → w1.heap = w.heap → ∀ (D : Nat → Bool), (∀ k, D k = false) → RInv C ⟨w1, σ, F, S.e, S.m, S.next, sz, [], ps, tm⟩ rs D a w1 := by
    intro w1 ht hh D hD
    have hm : Mono w F w1 F := fun k hk => ⟨hk, by rw [hh]⟩
    refine ⟨⟨σ, F, ?_, ?_, Sub.refl _, Mono.refl _ _, fun id hid => ?_⟩, hsz, hdf, hps⟩
    · have : mAt D S.m 0 rs = S.m := atF_none fun k _ => hD k
      show Inv C w1 σ F (mAt D S.m 0 rs)
      rw [this]; exact hi.step ht
    · have : eAt D S.e 0 rs = S.e := atF_none fun k _ => hD k
      show EnvR w1 σ F (eAt D S.e 0 rs) a.tmps
      rw [this]; exact he.mono (Sub.refl _) hm
    · rcases Nat.lt_or_ge id S.next with q | q
      · exact .inl q
      · exact (hid (hnew id q)).elim
  cases dr with
  | false =>
    refine wp_region ?_
    rw [List.range_eq_range']
    exact plain_ok (B := ⟨w, σ, F, S.e, S.m, S.next, sz, [], ps, tm⟩) hlen (steps _ rfl rfl rfl) hf (fin _ rfl rfl rfl rfl rfl rfl rfl) ops.size 0 a w (by simp) (init w (Turns.refl w _) rfl _ fun k => by simp)
  | true =>
    refine wp_region_any (hd rfl) ?_
    refine drawn_ok (B := ⟨{ w with drawn := w.drawn + 1 }, σ, F, S.e, S.m, S.next, sz, [], ps, tm⟩) hlen (steps _ rfl rfl rfl) hf ?_ (fin _ rfl rfl rfl rfl rfl rfl rfl) ops.size _ a _ (by simp) ?_ (fun i o hi => ?_) (init { w with drawn := w.drawn + 1 } ⟨rfl, rfl, rfl, Nat.le_refl _, fun _ _ _ => rfl⟩ rfl _ fun k => ?_)
    · have := hp rfl
      rw [r2, List.nil_append] at this
      exact this
    · unfold unl
      have := List.length_filter_le (fun i => !(Array.replicate ops.size false).getD i true) (List.range ops.size)
      simpa using this
    · by_cases hlt : i < ops.size <;> simp [Array.getD, hlt] at hi
    · by_cases hlt : k < ops.size <;> simp [Array.getD, hlt]

section
variable {P : Program} {fn : AFn} {S : St} {r : AV} {outs : List AV}
/-- One step of the model that leaves the frame's state alone. -/
theorem sound_step {todo todo' : List AItem} {S' : St} (h : SoundAt P fn todo' S' r outs)
    (hs : ∀ (C : Ctx) (n sz : Nat) (tm : Nat → Value) (ck : List Item) (a : Act) (w : World), n ≤ sz → TodoR P n fn.ps ck todo → FInv C sz fn.ps tm S a w →
      ∃ ck', TodoR P n fn.ps ck' todo' ∧ FInv C sz fn.ps tm S' a w ∧ ∀ (b : Frame) (k : List Item) (cs : List Frame), step P (lone (b.at a (ck ++ k)) cs w) = .next (lone (b.at a (ck' ++ k)) cs w)) : SoundAt P fn todo S r outs := by
  intro C n sz tm ck a w hn ht hf b k cs
  obtain ⟨ck', h1, h2, h3⟩ := hs C n sz tm ck a w hn ht hf
  obtain ⟨e, a', w', q, harr⟩ := h C n sz tm ck' a w hn h1 h2 b k cs
  exact ⟨e, a', w', q, .of_steps (.one (h3 b k cs)) harr⟩
end
/-- What the induction says. -/
def Says (P : Program) (md : Nat → List Bool) : Cfg → AV → List AV → Prop
  | .fn f args, r, outs => FnSound P (md f) f args r outs
  | .at fn todo S, r, outs => (∀ rest i tr dr ps k, todo = .ops rest i tr dr ps :: k → ∃ S' tr', Chain P md rest i S tr S' tr' ∧ (dr = true → okPairs tr' ps = true) ∧ SoundAt P fn k { S' with next := S'.next + 16 * (i + rest.length) } r outs) ∧
      SoundAt P fn todo S r outs
theorem todo_noops {P : Program} {n : Nat} {ps : List Nat} {ck : List Item} {rest : List AOper} {i : Nat} {tr : List (List Nat × List Nat)} {dr : Bool} {pr : List (Nat × Nat)} {k : List AItem} (h : TodoR P n ps ck (.ops rest i tr dr pr :: k)) : False := by cases h
theorem weak_finv {C : Ctx} {sz : Nat} {ps : List Nat} {tm : Nat → Value} {S S' : St} {r : List Nat} {a : Act} {w : World} (h : FInv C sz ps tm S a w) (hw : Weak r S S') : FInv C sz ps tm S' a w := by
  obtain ⟨⟨σ, F, h1, h2, h3⟩, h4, h5, h6⟩ := h
  obtain ⟨g1, g2, g3⟩ := weak_ok h1 h2 hw
  exact ⟨⟨_, F, g1, g2, g3⟩, h4, h5, h6⟩
theorem fresh_finv {C : Ctx} {sz : Nat} {ps : List Nat} {tm : Nat → Value} {S S' : St} {sl : Slot} {es : Nat} {a : Act} {w : World} (h : FInv C sz ps tm S a w) (hf : freshen sl es S = some S') : FInv C sz ps tm S' a w := by
  obtain ⟨⟨σ, F, h1, h2, h3⟩, h4, h5, h6⟩ := h
  obtain ⟨σ', g1, g2, g3⟩ := freshen_ok h1 h2 h3 hf
  exact ⟨⟨σ', F, g1, g2, g3⟩, h4, h5, h6⟩
theorem says_same {P : Program} {md : Nat → List Bool} {fn : AFn} {todo : List AItem} {S S' : St} {r : AV} {outs : List AV} (hn : noOps todo = true)
    (hc : ∀ (C : Ctx) (sz : Nat) (ps : List Nat) (tm : Nat → Value) (a : Act) (w : World), FInv C sz ps tm S a w → FInv C sz ps tm S' a w) (ih : Says P md (.at fn todo S') r outs) : Says P md (.at fn todo S) r outs := by
  refine ⟨fun _ _ _ _ _ _ he => (by subst he; cases hn), fun C n sz tm ck a w hle ht hf => ih.2 C n sz tm ck a w hle ht (hc _ _ _ _ _ _ hf)⟩
theorem says_both {P : Program} {md : Nat → List Bool} {fn : AFn} {k : List AItem} {S : St} {r : AV} {outs : List AV} {c : AOpd} {x y : ACode} (hc : c.get S.e = .anyb)
    (h1 : Says P md (.at fn (.code x :: k) S) r outs) (h2 : Says P md (.at fn (.code y :: k) S) r outs) : Says P md (.at fn (.code (.cond c x y) :: k) S) r outs := by
  refine ⟨fun _ _ _ _ _ _ he => by simp at he, fun C n sz tm ck a w hn ht hf b K cs => ?_⟩
  cases ht with
  | code hcode hfit hk =>
    cases hcode with
    | @cond cc ca cb _ _ hx hy =>
      simp only [fits, Bool.and_eq_true] at hfit
      obtain ⟨σ, F, g1, g2, g3⟩ := hf.ex
      have hv := opd_rel g2 cc
      rw [hc] at hv
      obtain ⟨t, ht⟩ : ∃ t, a.eval cc = .bool t := by
        generalize a.eval cc = v at hv
        cases hv with
        | fz q => cases q
        | anyb => exact ⟨_, rfl⟩
      rename_i ck'
      cases t with
      | true =>
        obtain ⟨e, a', w', q, harr⟩ := h1.2 C n sz tm (.code ca :: ck') a w hn (.code hx hfit.1 hk) hf b K cs
        exact ⟨e, a', w', q, .of_steps (.one (step_cond ht)) harr⟩
      | false =>
        obtain ⟨e, a', w', q, harr⟩ := h2.2 C n sz tm (.code cb :: ck') a w hn (.code hy hfit.2 hk) hf b K cs
        exact ⟨e, a', w', q, .of_steps (.one (step_cond ht)) harr⟩
theorem says_step {P : Program} {md : Nat → List Bool} {fn : AFn} {todo todo' : List AItem} {S S' : St} {r : AV} {outs : List AV} (h : step1 todo S = some (todo', S')) (ih : Says P md (.at fn todo' S') r outs) : Says P md (.at fn todo S) r outs := by
  have noops : ∀ (rest : List AOper) i tr dr ps k, SoundAt P fn (.ops rest i tr dr ps :: k) S r outs := fun _ _ _ _ _ _ C n sz tm ck a w _ ht => (todo_noops ht).elim
  obtain ⟨ih1, ih2⟩ := ih
  match todo, h with
  | .ops [] i tr dr ps :: k, h =>
    refine ⟨fun rest' i' tr' dr' ps' k' he => ?_, noops _ _ _ _ _ _⟩
    simp only [List.cons.injEq, AItem.ops.injEq] at he
    obtain ⟨⟨rfl, rfl, rfl, rfl, rfl⟩, rfl⟩ := he
    simp only [step1] at h
    split at h
    · rename_i hp
      simp only [Option.some.injEq, Prod.mk.injEq] at h
      obtain ⟨rfl, rfl⟩ := h
      refine ⟨S, _, .nil, fun hd => hp.resolve_left (by rw [hd]; simp), ?_⟩
      simpa using ih2
    · cases h
  | .ops (o :: rest) i tr dr ps :: k, h =>
    refine ⟨fun rest' i' tr' dr' ps' k' he => ?_, noops _ _ _ _ _ _⟩
    simp only [List.cons.injEq, AItem.ops.injEq] at he
    obtain ⟨⟨rfl, rfl, rfl, rfl, rfl⟩, rfl⟩ := he
    simp only [step1, Option.bind_eq_some_iff] at h
    obtain ⟨b, hw, h⟩ := h
    split at h
    · rename_i hb
      simp only [Option.bind_eq_some_iff, Option.some.injEq, Prod.mk.injEq] at h
      obtain ⟨p, hp, rfl, rfl⟩ := h
      obtain ⟨S', tr', h1, h2, h3⟩ := ih1 _ _ _ _ _ _ rfl
      refine ⟨S', tr', .go (by rw [hw, hb]) (.act hp) h1, h2, ?_⟩
      rw [List.length_cons, show i + (rest.length + 1) = i + 1 + rest.length by omega]; exact h3
    · rename_i hb
      simp only [Option.some.injEq, Prod.mk.injEq] at h
      obtain ⟨rfl, rfl⟩ := h
      obtain ⟨S', tr', h1, h2, h3⟩ := ih1 _ _ _ _ _ _ rfl
      refine ⟨S', tr', .no (by rw [hw]; cases b <;> simp_all) h1, h2, ?_⟩
      rw [List.length_cons, show i + (rest.length + 1) = i + 1 + rest.length by omega]; exact h3
  | .code (.reg ops dr ps) :: k, h =>
    refine ⟨fun _ _ _ _ _ _ he => by simp at he, ?_⟩
    simp only [step1, Option.some.injEq, Prod.mk.injEq] at h
    obtain ⟨rfl, rfl⟩ := h
    obtain ⟨S', tr', h1, h2, h3⟩ := ih1 _ _ _ _ _ _ rfl
    intro C n sz tm ck a w hn ht hf b K cs
    cases ht with
    | code hc hfit hk =>
      cases hc with
      | @reg id cops _ hd =>
        rename_i ck'
        obtain ⟨e, a', w', ⟨rfl, q⟩, harr⟩ := region_ok (id := id) hf h1 (fun hdr => by subst hdr; simpa using h2 rfl) hd hfit hn b (ck' ++ K) cs
        have q' : FInv C sz fn.ps tm { S' with next := S'.next + 16 * (0 + (List.map (operOf P cops) cops.toList).length) } a' w' := by simpa using q
        obtain ⟨e2, a2, w2, q2, harr2⟩ := h3 C n sz tm ck' a' w' hn hk q' b K cs
        exact ⟨e2, a2, w2, q2, .of_steps harr harr2⟩
  | .code .skip :: k, h =>
    refine ⟨fun _ _ _ _ _ _ he => by simp at he, ?_⟩
    simp only [step1, Option.some.injEq, Prod.mk.injEq] at h
    obtain ⟨rfl, rfl⟩ := h
    refine sound_step ih2 fun C n sz tm ck a w hn ht hf => ?_
    cases ht with
    | code hc hfit hk => cases hc; exact ⟨_, hk, hf, fun b k cs => step_skip⟩
  | .code (.seq x y) :: k, h =>
    refine ⟨fun _ _ _ _ _ _ he => by simp at he, ?_⟩
    simp only [step1, Option.some.injEq, Prod.mk.injEq] at h
    obtain ⟨rfl, rfl⟩ := h
    refine sound_step ih2 fun C n sz tm ck a w hn ht hf => ?_
    cases ht with
    | code hc hfit hk =>
      cases hc with
      | seq hx hy =>
        simp only [fits, Bool.and_eq_true] at hfit
        exact ⟨_, .code hx hfit.1 (.code hy hfit.2 hk), hf, fun b k cs => step_seq⟩
  | .code (.cond c x y) :: k, h =>
    refine ⟨fun _ _ _ _ _ _ he => by simp at he, ?_⟩
    simp only [step1] at h
    split at h
    · rename_i t hcv
      simp only [Option.some.injEq, Prod.mk.injEq] at h
      obtain ⟨rfl, rfl⟩ := h
      refine sound_step ih2 fun C n sz tm ck a w hn ht hf => ?_
      cases ht with
      | code hc hfit hk =>
        cases hc with
        | @cond cc ca cb _ _ hx hy =>
          simp only [fits, Bool.and_eq_true] at hfit
          obtain ⟨σ, F, h1, h2, h3⟩ := hf.ex
          have hv := opd_rel h2 cc
          rw [hcv] at hv
          have hv := hv.bI
          refine ⟨.code (if t then ca else cb) :: _, ?_, hf, fun b k cs => step_cond hv⟩
          cases t
          · exact .code hy hfit.2 hk
          · exact .code hx hfit.1 hk
    · cases h
  | .code (.block id x) :: k, h =>
    refine ⟨fun _ _ _ _ _ _ he => by simp at he, ?_⟩
    simp only [step1, Option.some.injEq, Prod.mk.injEq] at h
    obtain ⟨rfl, rfl⟩ := h
    refine sound_step ih2 fun C n sz tm ck a w hn ht hf => ?_
    cases ht with
    | code hc hfit hk =>
      cases hc with
      | block hx => exact ⟨_, .code hx hfit (.blk hk), hf, fun b k cs => step_block⟩
  | .code (.loop lv x) :: k, h =>
    refine ⟨fun _ _ _ _ _ _ he => by simp at he, ?_⟩
    simp only [step1, Option.some.injEq, Prod.mk.injEq] at h
    obtain ⟨rfl, rfl⟩ := h
    refine sound_step ih2 fun C n sz tm ck a w hn ht hf => ?_
    cases ht with
    | code hc hfit hk =>
      cases hc with
      | loop hx => exact ⟨_, .code hx hfit (.loop hx hfit hk), hf, fun b k cs => step_loop⟩
  | .inLoop lv x :: k, h =>
    refine ⟨fun _ _ _ _ _ _ he => by simp at he, ?_⟩
    simp only [step1, Option.some.injEq, Prod.mk.injEq] at h
    obtain ⟨rfl, rfl⟩ := h
    refine sound_step ih2 fun C n sz tm ck a w hn ht hf => ?_
    cases ht with
    | loop hx hfit hk => exact ⟨_, .code hx hfit (.loop hx hfit hk), hf, fun b k cs => step_inLoop⟩
  | .inBlock id :: k, h =>
    refine ⟨fun _ _ _ _ _ _ he => by simp at he, ?_⟩
    simp only [step1, Option.some.injEq, Prod.mk.injEq] at h
    obtain ⟨rfl, rfl⟩ := h
    refine sound_step ih2 fun C n sz tm ck a w hn ht hf => ?_
    cases ht with
    | blk hk => exact ⟨_, hk, hf, fun b k cs => step_inBlock⟩
  | .code (.exit id) :: k, h =>
    refine ⟨fun _ _ _ _ _ _ he => by simp at he, ?_⟩
    simp only [step1, Option.bind_eq_some_iff, Option.some.injEq, Prod.mk.injEq] at h
    obtain ⟨k', hk', rfl, rfl⟩ := h
    refine sound_step ih2 fun C n sz tm ck a w hn ht hf => ?_
    cases ht with
    | code hc hfit hk =>
      cases hc
      obtain ⟨r, h1, h2⟩ := exit_ok hk hk'
      exact ⟨r, h1, hf, fun b K cs => step_exit (h2 K)⟩
  | .code .ret :: k, h => simp [step1] at h
  | [], h => simp [step1] at h
end Go.Eng
