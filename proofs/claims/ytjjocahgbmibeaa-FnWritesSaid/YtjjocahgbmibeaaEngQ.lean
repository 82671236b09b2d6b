/- Calls' borders: arguments, and what a call leaves. -/
import Derived.Test.YtjjocahgbmibeaaEngP
namespace Go.Eng
set_option linter.unusedVariables false
set_option linter.unusedSimpArgs false

/-- F, and the blocks of objects that are looked at. -/
def FS (σ : Sig) (m : Mem) (F : Nat → Prop) (ids : List Nat) : Nat → Prop := fun k => F k ∨ ∃ id, id ∈ ids ∧ ∃ o, m id = some o ∧ Owns σ id o k
def LiveM (m : Mem) (id : Nat) : Prop := ∃ o, m id = some o ∧ o ≠ .dead

section
variable {C : Ctx} {w w' : World} {σ σ' : Sig} {F F' : Nat → Prop} {m m' : Mem} {N n : Nat}
theorem RelF.more {a : AV} {v : Value} (h : RelF w F a v) (hF : ∀ k, F k → F' k) : RelF w F' a v := h.mono (fun k hk => ⟨hF k hk, rfl⟩)
theorem BdC.more {a : AV} {v : Value} {L : List Nat} (h : BdC w F a v L) (hF : ∀ k, F k → F' k) : BdC w F' a v L := by
  cases h with
  | fz h => exact .fz (h.more hF)
  | ownE => exact .ownE
  | own h1 h2 h3 h4 h5 h6 h7 h8 => exact .own h1 h2 h3 h4 h5 h6 h7 (h8.mono (Mono.ff _ (fun k hk => ⟨hF k hk, rfl⟩)))
  | junk h => exact .junk h
theorem BdCs.more {as : List AV} {vs : List Value} {L : List Nat} (h : BdCs w F as vs L) (hF : ∀ k, F k → F' k) : BdCs w F' as vs L := by
  induction h with
  | nil => exact .nil
  | cons h _ ih => exact .cons (h.more hF) ih
theorem BdV.more {a : AV} {v : Value} {L : List Nat} (h : BdV w F a v L) (hF : ∀ k, F k → F' k) : BdV w F' a v L := by
  cases h with
  | c h => exact .c (h.more hF)
  | agg h => exact .agg (h.more hF)
  | obx h1 h2 => exact .obx h1 (h2.more hF)
  | clo h1 h2 => exact .clo h1 (fun k u v hu hv => (h2 k u v hu hv).more hF)
  | junk => exact .junk
theorem BdVs.more {as : List AV} {vs : List Value} {L : List Nat} (h : BdVs w F as vs L) (hF : ∀ k, F k → F' k) : BdVs w F' as vs L := by
  induction h with
  | nil => exact .nil
  | cons h _ ih => exact .cons (h.more hF) ih
/-- What leads nowhere is told of any F. -/
theorem BdC.nolead {a : AV} {v : Value} {L : List Nat} (h : BdC w F a v L) (hl : a.leads0 = false) : BdC w F' a v L := by
  cases h with
  | fz h =>
    cases h with
    | i => exact .fz .i
    | b => exact .fz .b
    | s => exact .fz .s
    | emp => exact .fz .emp
    | fro => simp [AV.leads0] at hl
    | fptr => simp [AV.leads0] at hl
  | ownE => exact .ownE
  | @own fl es mc xs g t cap arr h1 h2 h3 h4 h5 h6 h7 h8 =>
    have hfl : fl = true := by simpa [AV.leads0] using hl
    subst hfl
    exact .own h1 h2 h3 h4 h5 h6 h7 h8
  | junk h => exact .junk h
theorem BdCs.nolead {as : List AV} {vs : List Value} {L : List Nat} (h : BdCs w F as vs L) (hl : as.any AV.leads0 = false) : BdCs w F' as vs L := by
  induction h with
  | nil => exact .nil
  | cons h _ ih =>
    simp only [List.any_cons, Bool.or_eq_false_iff] at hl
    exact .cons (h.nolead hl.1) (ih hl.2)
theorem BdV.nolead {a : AV} {v : Value} {L : List Nat} (h : BdV w F a v L) (hl : a.leads1 = false) : BdV w F' a v L := by
  cases h with
  | c h =>
    refine .c (h.nolead ?_)
    cases h with
    | fz h => cases h <;> exact hl
    | _ => exact hl
  | agg h => exact .agg (h.nolead hl)
  | obx h1 h2 => exact .obx h1 (h2.nolead hl)
  | clo => simp [AV.leads1, AV.leads0] at hl
  | junk => exact .junk
theorem BdVs.nolead {as : List AV} {vs : List Value} {L : List Nat} (h : BdVs w F as vs L) (hl : as.any AV.leads1 = false) : BdVs w F' as vs L := by
  induction h with
  | nil => exact .nil
  | cons h _ ih =>
    simp only [List.any_cons, Bool.or_eq_false_iff] at hl
    exact .cons (h.nolead hl.1) (ih hl.2)
theorem BdR.nolead {a : AV} {v : Value} {L : List Nat} (h : BdR w F a v L) (hl : a.leads = false) : BdR w F' a v L := by
  cases h with
  | v h =>
    refine .v (h.nolead ?_)
    cases h with
    | c h =>
      cases h with
      | fz h => cases h <;> exact hl
      | _ => exact hl
    | _ => exact hl
  | tup h => exact .tup (h.nolead hl)
theorem BdVs.leads_any {as : List AV} {vs : List Value} {L : List Nat} (h : BdVs w F as vs L) (hl : as.any AV.leads = false) : as.any AV.leads1 = false := by
  induction h with
  | nil => rfl
  | cons h _ ih =>
    simp only [List.any_cons, Bool.or_eq_false_iff] at hl ⊢
    refine ⟨?_, ih hl.2⟩
    cases h with
    | c h =>
      cases h with
      | fz h => cases h <;> exact hl.1
      | _ => exact hl.1
    | _ => exact hl.1

/-! ### What is looked at. -/
theorem snapCell_ok (h : Inv C w σ F m) {c p : AV} {ids : List Nat} {v : Value} (hs : snapCell m c = some (p, ids)) (hc : RelL w σ F c v) : RelF w (FS σ m F ids) p v := by
  have pl : ∀ {c : AV}, (if c.plain = true then some (c, ([] : List Nat)) else none) = some (p, ids) → RelL w σ F c v → RelF w (FS σ m F ids) p v := by
    intro c hs hc
    split at hs
    · rename_i hp
      obtain ⟨rfl, rfl⟩ : c = p ∧ ([] : List Nat) = ids := by simpa using hs
      exact (hc.plain hp).more (fun k hk => .inl hk)
    · cases hs
  -- a live row, told as frozen
  have live : ∀ {id : Nat} {ℓ : Loc} {fl : Bool} {es mc : Nat} {xs : List (List AV)}, m id = some (.row fl es mc xs) → σ id = some ℓ → RelF w (FS σ m F [id]) (.fro fl es xs) (.slice ℓ.A ℓ.len ℓ.cap) ∧ ℓ.es = es ∧ ℓ.len = xs.length := by
    intro id ℓ fl es mc xs hm hl
    obtain ⟨ℓ', vs, g1, g2, g3, g4, g5, g6, g7, g8⟩ := h.readRow hm
    rw [hl] at g1; obtain rfl := Option.some.inj g1
    refine ⟨?_, g2, g3⟩
    rw [g3]
    refine Reads'.fro ⟨g7.es, g7.len, g7.at_, fun q u v hu hv => (g7.rel q u v hu hv).mono (Mono.ff _ (fun k hk => ⟨.inl hk, rfl⟩))⟩ g5 (fun hne => ?_)
    have h0 : 0 < ℓ.cap := by
      rcases Nat.eq_zero_or_pos ℓ.cap with h0 | h0
      · exact (hne (List.eq_nil_of_length_eq_zero (by omega))).elim
      · exact h0
    obtain ⟨g, t, arr, i1, i2, i3, i4, i5⟩ := g8 h0
    exact ⟨_, i1, .inr ⟨id, by simp, _, hm, ℓ, hl, i1, h0⟩⟩
  have part : ∀ {id lo hi : Nat} {ℓ : Loc} {A : Option Addr} {cp : Nat} {G : Nat → Prop} {fl : Bool} {es : Nat} {xs : List (List AV)}, (lo < hi → A = ℓ.A.map (·.add (lo * ℓ.es))) → hi - lo ≤ cp → lo ≤ hi → hi ≤ xs.length → ℓ.es = es → ℓ.len = xs.length → RelF w G (.fro fl es xs) (.slice ℓ.A ℓ.len ℓ.cap) →
      RelF w G (.fro fl es ((xs.take hi).drop lo)) (.slice A (hi - lo) cp) := by
    intro id lo hi ℓ A cp G fl es xs hA1 hcp h1 h2 he hlen hr
    obtain ⟨A1, c1, vs, h5, h6, h7, h8⟩ := hr.reads
    simp only [Value.slice.injEq] at h5
    obtain ⟨rfl, _, rfl⟩ := h5
    have hlen' := part_len xs lo hi h2
    have := (h7.part lo hi h1 h2 (A' := A) (fun hlt => by rw [hA1 hlt, he])).fro (c := cp) (by rw [hlen']; exact hcp) (fun hne => by
      have hlt : lo < hi := by
        rcases Nat.lt_or_ge lo hi with hlt | hge
        · exact hlt
        · exfalso; apply hne; apply List.drop_eq_nil_of_le; rw [List.length_take]; omega
      obtain ⟨a, ha, hF⟩ := h8 (fun e => by rw [e] at h2; simp at h2; omega)
      exact ⟨a.add (lo * es), by rw [hA1 hlt, he, ha]; rfl, by rw [addr_add_block]; exact hF⟩)
    rwa [hlen'] at this
  cases c with
  | row id =>
    obtain ⟨ℓ, hl, rfl⟩ := hc.rowI
    simp only [snapCell] at hs
    split at hs
    · rename_i fl es mc xs hm
      obtain ⟨rfl, rfl⟩ : AV.fro fl es xs = p ∧ [id] = ids := by simpa using hs
      exact (live hm hl).1
    · rename_i fl es xs hm
      obtain ⟨rfl, rfl⟩ : AV.fro fl es xs = p ∧ ([] : List Nat) = ids := by simpa using hs
      obtain ⟨ℓ', g1, g2, g3, g4⟩ := h.objs id _ hm
      rw [hl] at g1; obtain rfl := Option.some.inj g1
      exact g4.more (fun k hk => .inl hk)
    · cases hs
  | view id lo hi =>
    obtain ⟨ℓ, A, cp, hl, rfl, hA0, hA1, hcp⟩ := hc.viewI
    simp only [snapCell] at hs
    split at hs
    · rename_i fl es mc xs hm
      split at hs
      case isFalse => cases hs
      rename_i hb
      obtain ⟨rfl, rfl⟩ : AV.fro fl es ((xs.take hi).drop lo) = p ∧ [id] = ids := by simpa using hs
      obtain ⟨i1, i2, i3⟩ := live hm hl
      exact part (id := id) hA1 hcp hb.1 hb.2 i2 i3 i1
    · rename_i fl es xs hm
      split at hs
      case isFalse => cases hs
      rename_i hb
      obtain ⟨rfl, rfl⟩ : AV.fro fl es ((xs.take hi).drop lo) = p ∧ ([] : List Nat) = ids := by simpa using hs
      obtain ⟨ℓ', g1, g2, g3, g4⟩ := h.objs id _ hm
      rw [hl] at g1; obtain rfl := Option.some.inj g1
      exact part (id := id) hA1 hcp hb.1 hb.2 g2 g3 (g4.more (fun k hk => .inl hk))
    · cases hs
  | i => exact pl (c := AV.i _ _) hs hc
  | b => exact pl (c := AV.b _) hs hc
  | s => exact pl (c := AV.s _) hs hc
  | emp => exact pl (c := AV.emp) hs hc
  | fro => exact pl (c := AV.fro _ _ _) hs hc
  | fptr => exact pl (c := AV.fptr _ _) hs hc
  | _ => simp [snapCell, AV.plain] at hs
theorem FS.left {ids ids' : List Nat} {k : Nat} (h : FS σ m F ids k) : FS σ m F (ids ++ ids') k := by
  rcases h with h | ⟨id, h1, h2⟩
  · exact .inl h
  · exact .inr ⟨id, List.mem_append_left _ h1, h2⟩
theorem FS.right {ids ids' : List Nat} {k : Nat} (h : FS σ m F ids' k) : FS σ m F (ids ++ ids') k := by
  rcases h with h | ⟨id, h1, h2⟩
  · exact .inl h
  · exact .inr ⟨id, List.mem_append_right _ h1, h2⟩
end
theorem snapCells_ok {C : Ctx} {w : World} {σ : Sig} {F : Nat → Prop} {m : Mem} (h : Inv C w σ F m) : ∀ {cs ps : List AV} {ids : List Nat} {vs : List Value}, snapCells m cs = some (ps, ids) → vs.length = cs.length →
    (∀ (k : Nat) c v, cs[k]? = some c → vs[k]? = some v → RelL w σ F c v) → ps.length = cs.length ∧ BdCs w (FS σ m F ids) ps vs [] ∧ ∀ (k : Nat) c v, ps[k]? = some c → vs[k]? = some v → RelF w (FS σ m F ids) c v
  | [], ps, ids, vs, hs, hl, hr => by
    obtain ⟨rfl, rfl⟩ : ([] : List AV) = ps ∧ ([] : List Nat) = ids := by simpa [snapCells] using hs
    obtain rfl : vs = [] := List.eq_nil_of_length_eq_zero (by simpa using hl)
    exact ⟨rfl, .nil, fun k c v hk => by simp at hk⟩
  | c :: cs, ps, ids, [], hs, hl, hr => by simp at hl
  | c :: cs, ps, ids, v :: vs, hs, hl, hr => by
    simp only [snapCells, Option.bind_eq_some_iff] at hs
    obtain ⟨p, hp, q, hq, he⟩ := hs
    obtain ⟨rfl, rfl⟩ : p.1 :: q.1 = ps ∧ p.2 ++ q.2 = ids := by simpa using he
    have r1 := snapCell_ok h (p := p.1) (ids := p.2) hp (hr 0 c v rfl rfl)
    obtain ⟨l2, b2, r2⟩ := snapCells_ok h (ps := q.1) (ids := q.2) (vs := vs) hq (by simpa using hl) (fun k c v hk hv => hr (k + 1) c v hk hv)
    refine ⟨by simp [l2], .cons (L := []) (.fz (r1.more fun k hk => hk.left)) (b2.more fun k hk => hk.right), fun k c' v' hk hv => ?_⟩
    cases k with
    | zero =>
      obtain rfl := Option.some.inj hk
      obtain rfl := Option.some.inj hv
      exact r1.more fun k hk => hk.left
    | succ k => exact (r2 k c' v' hk hv).more fun k hk => hk.right
theorem snapPtr_ok {C : Ctx} {w : World} {σ : Sig} {F : Nat → Prop} {m : Mem} (h : Inv C w σ F m) {c p : AV} {ids : List Nat} {v : Value} (hs : snapPtr m c = some (p, ids)) (hc : RelL w σ F c v) : RelF w (FS σ m F ids) p v := by
  cases c with
  | elt id i j =>
    obtain ⟨ℓ, ad, hl, hA, rfl⟩ := hc.eltI
    simp only [snapPtr] at hs
    split at hs
    case h_2 => cases hs
    rename_i cs hm
    split at hs
    case isFalse => cases hs
    rename_i hi
    subst hi
    simp only [Option.bind_eq_some_iff, Option.some.injEq, Prod.mk.injEq] at hs
    obtain ⟨q, hq, rfl, rfl⟩ := hs
    obtain ⟨ℓ', g, t, arr, g1, g2, g3, g4, g5⟩ := h.objs id _ hm
    rw [hl] at g1; obtain rfl := Option.some.inj g1
    rw [hA] at g2; obtain rfl := Option.some.inj g2
    obtain ⟨l2, b2, r2⟩ := snapCells_ok h (ps := q.1) (ids := q.2) (vs := arr.toList) hq (by rw [Array.length_toList, g4.1]) (fun k c v hk hv => by
      obtain ⟨v', j1, j2, j3⟩ := g4.2 k c hk
      have : arr[k]? = some v := by simpa using hv
      rw [this] at j1; obtain rfl := Option.some.inj j1; exact j2)
    rw [Nat.zero_mul, Nat.zero_add]
    refine .fptr arr.toList (by rw [Array.length_toList, g4.1, l2]) (.inr ⟨id, by simp, _, hm, ℓ, hl, hA⟩) (fun k v hk => ?_) (fun k u v hu hv => (r2 k u v hu hv).more fun k hk => ?_)
    · rw [addr_add_plain, cell_of_row w g k arr t (0, 0) g3]; simpa using hk
    · exact FS.right (ids := [id]) hk
  | _ => exact snapCell_ok h (by simpa only [snapPtr] using hs) hc
theorem snapPtrs_ok {C : Ctx} {w : World} {σ : Sig} {F : Nat → Prop} {m : Mem} (h : Inv C w σ F m) : ∀ {cs ps : List AV} {ids : List Nat} {vs : List Value}, snapPtrs m cs = some (ps, ids) → vs.length = cs.length →
    (∀ (k : Nat) c v, cs[k]? = some c → vs[k]? = some v → RelL w σ F c v) → ps.length = cs.length ∧ ∀ (k : Nat) c v, ps[k]? = some c → vs[k]? = some v → RelF w (FS σ m F ids) c v
  | [], ps, ids, vs, hs, hl, hr => by
    obtain ⟨rfl, rfl⟩ : ([] : List AV) = ps ∧ ([] : List Nat) = ids := by simpa [snapPtrs] using hs
    exact ⟨rfl, fun k c v hk => by simp at hk⟩
  | c :: cs, ps, ids, [], hs, hl, hr => by simp at hl
  | c :: cs, ps, ids, v :: vs, hs, hl, hr => by
    simp only [snapPtrs, Option.bind_eq_some_iff] at hs
    obtain ⟨p, hp, q, hq, he⟩ := hs
    obtain ⟨rfl, rfl⟩ : p.1 :: q.1 = ps ∧ p.2 ++ q.2 = ids := by simpa using he
    have r1 := snapPtr_ok h (p := p.1) (ids := p.2) hp (hr 0 c v rfl rfl)
    obtain ⟨l2, r2⟩ := snapPtrs_ok h (ps := q.1) (ids := q.2) (vs := vs) hq (by simpa using hl) (fun k c v hk hv => hr (k + 1) c v hk hv)
    refine ⟨by simp [l2], fun k c' v' hk hv => ?_⟩
    cases k with
    | zero =>
      obtain rfl := Option.some.inj hk
      obtain rfl := Option.some.inj hv
      exact r1.more fun k hk => hk.left
    | succ k => exact (r2 k c' v' hk hv).more fun k hk => hk.right
theorem snapVal_ok {C : Ctx} {w : World} {σ : Sig} {F : Nat → Prop} {m : Mem} (h : Inv C w σ F m) {c p : AV} {ids : List Nat} {v : Value} (hs : snapVal m c = some (p, ids)) (hc : RelL w σ F c v) : BdV w (FS σ m F ids) p v [] := by
  cases c with
  | agg cs =>
    simp only [snapVal, Option.bind_eq_some_iff, Option.some.injEq, Prod.mk.injEq] at hs
    obtain ⟨q, hq, rfl, rfl⟩ := hs
    obtain ⟨us, rfl, h1, h2, h3⟩ := hc.aggI
    exact .agg (snapCells_ok h (ps := q.1) (ids := q.2) (vs := us.toList) hq (by rw [Array.length_toList, h1]) (fun k c v hk hv => h3 k c v hk (by simpa using hv))).2.1
  | clo f cs =>
    simp only [snapVal, Option.bind_eq_some_iff, Option.some.injEq, Prod.mk.injEq] at hs
    obtain ⟨q, hq, rfl, rfl⟩ := hs
    obtain ⟨us, rfl, h1, h2⟩ := hc.cloI
    obtain ⟨l2, r2⟩ := snapPtrs_ok h (ps := q.1) (ids := q.2) (vs := us.toList) hq (by rw [Array.length_toList, h1]) (fun k c v hk hv => h2 k c v hk (by simpa using hv))
    exact .clo (by rw [h1, l2]) (fun k u v hu hv => r2 k u v hu (by simpa using hv))
  | junk =>
    obtain ⟨rfl, rfl⟩ : AV.junk = p ∧ ([] : List Nat) = ids := by simpa [snapVal] using hs
    exact .junk
  | _ => exact .c (.fz (snapPtr_ok h (by simpa only [snapVal] using hs) hc))

/-- Arguments. -/
theorem prep_ok {C : Ctx} {w : World} {σ : Sig} {F : Nat → Prop} {M1 : Mem} : ∀ {md : List Bool} {as ps : List AV} {d : Ups} {sn : List Nat} {vs : List Value} {m : Mem}, Inv C w σ F m → prep m md as = some (ps, d, sn) → vs.length = as.length →
    (∀ (k : Nat) c v, as[k]? = some c → vs[k]? = some v → RelL w σ F c v) → Less (putM m d) M1 → (∀ id, id ∈ sn → LiveM M1 id) → ∃ L, BdVs w (FS σ M1 F sn) ps vs L ∧ Out C w σ F m (putM m d) L
  | md, [], ps, d, sn, vs, m, h, hp, hl, hr, hM, hlive => by
    obtain ⟨rfl, rfl, rfl⟩ : ([] : List AV) = ps ∧ ([] : Ups) = d ∧ ([] : List Nat) = sn := by cases md <;> simpa [prep] using hp
    obtain rfl : vs = [] := List.eq_nil_of_length_eq_zero (by simpa using hl)
    exact ⟨[], .nil, Out.refl h⟩
  | md, c :: cs, ps, d, sn, [], m, h, hp, hl, hr, hM, hlive => by simp at hl
  | md, c :: cs, ps, d, sn, v :: vs, m, h, hp, hl, hr, hM, hlive => by
    unfold prep at hp
    split at hp
    · simp only [Option.bind_eq_some_iff] at hp
      obtain ⟨p, hp, q, hq, he⟩ := hp
      obtain ⟨rfl, rfl, rfl⟩ : p.1 :: q.1 = ps ∧ p.2 ++ q.2.1 = d ∧ q.2.2 = sn := by simpa using he
      obtain ⟨L, b1, o1⟩ := expPtr_ok h (p := p.1) (u := p.2) hp (hr 0 c v rfl rfl)
      rw [putM_append] at hM
      obtain ⟨K, b2, o2⟩ := prep_ok (M1 := M1) o1.inv (ps := q.1) (d := q.2.1) (sn := q.2.2) (vs := vs) hq (by simpa using hl) (fun k c v hk hv => hr (k + 1) c v hk hv) hM hlive
      exact ⟨L ++ K, .cons (b1.more fun k hk => .inl hk) b2, by rw [putM_append]; exact o1.append o2⟩
    · simp only [Option.bind_eq_some_iff] at hp
      obtain ⟨p, hp, q, hq, he⟩ := hp
      obtain ⟨rfl, rfl, rfl⟩ : p.1 :: q.1 = ps ∧ q.2.1 = d ∧ p.2 ++ q.2.2 = sn := by simpa using he
      have b1 := snapVal_ok h (p := p.1) (ids := p.2) hp (hr 0 c v rfl rfl)
      obtain ⟨K, b2, o2⟩ := prep_ok (M1 := M1) h (ps := q.1) (d := q.2.1) (sn := q.2.2) (vs := vs) hq (by simpa using hl) (fun k c v hk hv => hr (k + 1) c v hk hv) hM (fun id hid => hlive id (List.mem_append_right _ hid))
      refine ⟨K, .cons (L := []) (b1.more fun k hk => ?_) (b2.more fun k hk => FS.right hk), o2⟩
      rcases hk with hk | ⟨id, h1, o, h2, h3⟩
      · exact .inl hk
      · have hl1 := hlive id (List.mem_append_left _ h1)
        have : M1 id = m id := by
          rcases (o2.less.trans hM) id with e | e
          · exact e
          · obtain ⟨o', j1, j2⟩ := hl1
            rw [e] at j1; exact (j2 (Option.some.inj j1).symm).elim
        exact .inr ⟨id, List.mem_append_left _ h1, o, this ▸ h2, h3⟩
end Go.Eng
