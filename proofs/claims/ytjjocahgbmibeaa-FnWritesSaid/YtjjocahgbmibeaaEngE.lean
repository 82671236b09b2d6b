/- The abstract machine's memory: objects made, turned, frozen. -/
import Derived.Test.YtjjocahgbmibeaaEngD
namespace Go.Eng
set_option linter.unusedVariables false

theorem setM_same (m : Mem) (id : Nat) (o : AObj) : setM m id o id = some o := by simp [setM]
theorem setM_other (m : Mem) {id k : Nat} (o : AObj) (h : k ≠ id) : setM m id o k = m k := by simp [setM, h]
theorem putM_nil (m : Mem) : putM m [] = m := rfl
theorem putM_cons (m : Mem) (p : Nat × AObj) (u : Ups) : putM m (p :: u) = putM (setM m p.1 p.2) u := rfl
theorem putM_append (m : Mem) (u u' : Ups) : putM m (u ++ u') = putM (putM m u) u' := by simp [putM, List.foldl_append]
theorem setS_other (σ : Sig) {id k : Nat} (ℓ : Loc) (h : k ≠ id) : setS σ id ℓ k = σ k := by simp [setS, h]

section
variable {C : Ctx} {w w' : World} {σ σ' : Sig} {F F' : Nat → Prop} {m : Mem}

/-- A new object in a new block. -/
theorem Inv.add (h : Inv C w σ F m) {nid : Nat} (hn : σ nid = none) {ob : Obj} {ℓ : Loc} {o : AObj} (hok : ObjOk C (w.alloc ob) (setS σ nid ℓ) F nid o)
    (hown : ∀ g, Owns (setS σ nid ℓ) nid o g → g = w.heap.size) : Inv C (w.alloc ob) (setS σ nid ℓ) F (setM m nid o) := by
  refine h.go (fun _ => False) (fun id => id = nid) (turns_alloc w ob _) (fun k hk => hk.elim) (fun k hk => hk) (sub_setS hn) (fun k hk => .inl hk) (fun id hid => setM_other m o hid)
    (fun id o' g hid ho hg => ⟨fun hf => hf, (hg.lt (h.objs id o' ho)).2.1⟩) (fun id o' hid ho => ?_) (fun id id' o1 o2 g hid ho ho' hg hg' => ?_)
  · subst hid
    rw [setM_same] at ho; obtain rfl := Option.some.inj ho
    exact hok
  · subst hid
    rw [setM_same] at ho; obtain rfl := Option.some.inj ho
    by_cases hid' : id' = id
    · exact hid'.symm
    · rw [setM_other m _ hid'] at ho'
      have h1 := Owns.sub (h.objs id' o2 ho') (sub_setS hn) hg'
      have h2 := (h1.lt (h.objs id' o2 ho')).1
      have h3 := hown g hg
      omega
/-- An object is turned; of memory its own block at most. -/
theorem Inv.turn (h : Inv C w σ F m) {id : Nat} {o o' : AObj} {g : Nat} (hm : m id = some o) (hg : Owns σ id o g) (ht : Turns w w' (fun k => k = g)) (hok : ObjOk C w' σ F id o')
    (hown : ∀ g', Owns σ id o' g' → g' = g) : Inv C w' σ F (setM m id o') := by
  have hlt := hg.lt (h.objs id o hm)
  refine h.go (fun k => k = g) (fun k => k = id) ht (fun k hk => hk ▸ hlt.2) (fun k hk => hk) (Sub.refl _) (fun k hk => .inl hk) (fun k hk => setM_other m o' hk)
    (fun k o2 g2 hk ho hg2 => ⟨fun he => hk (h.apart k id o2 o g2 ho hm hg2 (he ▸ hg)), (hg2.lt (h.objs k o2 ho)).2.1⟩) (fun k o2 hk ho => ?_) (fun k k' o1 o2 g2 hk ho ho' hg1 hg2 => ?_)
  · subst hk
    rw [setM_same] at ho; obtain rfl := Option.some.inj ho
    exact hok
  · subst hk
    rw [setM_same] at ho; obtain rfl := Option.some.inj ho
    by_cases hk' : k' = k
    · exact hk'.symm
    · rw [setM_other m _ hk'] at ho'
      have := hown g2 hg1
      subst this
      exact h.apart k k' o o2 _ hm ho' hg hg2
/-- An object's attributes are turned, no memory. -/
theorem Inv.same (h : Inv C w σ F m) {id : Nat} {o' : AObj} (hok : ObjOk C w σ F id o') (hown : ∀ g, Owns σ id o' g → ∃ o, m id = some o ∧ Owns σ id o g) : Inv C w σ F (setM m id o') := by
  refine h.go (fun _ => False) (fun k => k = id) (Turns.refl w _) (fun k hk => hk.elim) (fun k hk => hk) (Sub.refl _) (fun k hk => .inl hk) (fun k hk => setM_other m o' hk)
    (fun k o2 g2 hk ho hg2 => ⟨fun he => he, (hg2.lt (h.objs k o2 ho)).2.1⟩) (fun k o2 hk ho => ?_) (fun k k' o1 o2 g2 hk ho ho' hg1 hg2 => ?_)
  · subst hk
    rw [setM_same] at ho; obtain rfl := Option.some.inj ho
    exact hok
  · subst hk
    rw [setM_same] at ho; obtain rfl := Option.some.inj ho
    by_cases hk' : k' = k
    · exact hk'.symm
    · rw [setM_other m _ hk'] at ho'
      obtain ⟨o, ho, hg⟩ := hown g2 hg1
      exact h.apart k k' o o2 _ ho ho' hg hg2
theorem Inv.kill (h : Inv C w σ F m) (id : Nat) : Inv C w σ F (setM m id .dead) := h.same trivial (fun g hg => hg.elim)
/-- Worlds that differ by draws. -/
theorem Inv.step (h : Inv C w σ F m) (ht : Turns w w' (fun _ => False)) : Inv C w' σ F m :=
  h.go (fun _ => False) (fun _ => False) ht (fun k hk => hk.elim) (fun k hk => hk) (Sub.refl _) (fun k hk => .inl hk) (fun k hk => rfl)
    (fun k o2 g2 hk ho hg2 => ⟨fun he => he, (hg2.lt (h.objs k o2 ho)).2.1⟩) (fun k o2 hk ho => hk.elim) (fun k k' o1 o2 g2 hk => hk.elim)

/-- A row is frozen. -/
theorem Inv.freeze (h : Inv C w σ F m) {id : Nat} {fl : Bool} {es mc : Nat} {xs : List (List AV)} (hm : m id = some (.row fl es mc xs)) :
    ∃ F', Inv C w σ F' (setM m id (.frow fl es xs)) ∧ Mono w F w F' ∧ ∃ ℓ, σ id = some ℓ ∧ ℓ.es = es ∧ ℓ.len = xs.length ∧ RelF w F' (.fro fl es xs) (.slice ℓ.A ℓ.len ℓ.cap) := by
  obtain ⟨ℓ, vs, h1, h2, h3, h4, h5, h6, h7, h8⟩ := h.readRow hm
  rcases Nat.eq_zero_or_pos ℓ.cap with h0 | h0
  · have hx : xs = [] := List.eq_nil_of_length_eq_zero (by omega)
    have hr : RelF w F (.fro fl es xs) (.slice ℓ.A ℓ.len ℓ.cap) := by rw [h3]; exact h7.fro h5 (fun hne => (hne hx).elim)
    exact ⟨F, h.same ⟨ℓ, h1, h2, h3, hr⟩ (fun g hg => hg.elim), Mono.refl _ _, ℓ, h1, h2, h3, hr⟩
  · obtain ⟨g, t, arr, g1, g2, g3, g4, g5⟩ := h8 h0
    have hown : Owns σ id (.row fl es mc xs) g := ⟨ℓ, h1, g1, h0⟩
    have hlt := hown.lt (h.objs id _ hm)
    let F' : Nat → Prop := fun k => F k ∨ k = g
    have hmono : Mono w F w F' := fun k hk => ⟨.inl hk, rfl⟩
    have hr : RelF w F' (.fro fl es xs) (.slice ℓ.A ℓ.len ℓ.cap) := by
      rw [h3]
      refine Reads'.fro ⟨h7.es, h7.len, h7.at_, fun q u v hu hv => (h7.rel q u v hu hv).mono (hmono.ff _)⟩ h5 (fun _ => ⟨_, g1, .inr rfl⟩)
    refine ⟨F', ?_, hmono, ℓ, h1, h2, h3, hr⟩
    refine h.go (fun _ => False) (fun k => k = id) (Turns.refl w _) (fun k hk => hk.elim) (fun k hk => .inl hk) (Sub.refl _) (fun k hk => ?_) (fun k hk => setM_other m _ hk)
      (fun k o2 g2' hk ho hg2 => ⟨fun he => he, fun he => ?_⟩) (fun k o2 hk ho => ?_) (fun k k' o1 o2 g2' hk ho ho' hg1 hg2 => ?_)
    · rcases hk with hk | rfl
      · exact .inl hk
      · exact .inr ⟨hlt.1, hlt.2.2⟩
    · rcases he with he | rfl
      · exact (hg2.lt (h.objs k o2 ho)).2.1 he
      · exact hk (h.apart k id o2 _ _ ho hm hg2 hown)
    · subst hk
      rw [setM_same] at ho; obtain rfl := Option.some.inj ho
      exact ⟨ℓ, h1, h2, h3, hr⟩
    · subst hk
      rw [setM_same] at ho; obtain rfl := Option.some.inj ho
      exact hg1.elim

/-- A cell is made fit for a row. -/
theorem Inv.fzCell_ok (h : Inv C w σ F m) {c c' : AV} {u : Ups} {v : Value} (hf : fzCell m c = some (c', u)) (hc : RelL w σ F c v) : ∃ F', Inv C w σ F' (putM m u) ∧ Mono w F w F' ∧ RelF w F' c' v := by
  have pl : ∀ {c : AV}, (if c.plain = true then some (c, ([] : Ups)) else none) = some (c', u) → RelL w σ F c v → ∃ F', Inv C w σ F' (putM m u) ∧ Mono w F w F' ∧ RelF w F' c' v := by
    intro c hf hc
    split at hf
    · rename_i hp
      obtain ⟨rfl, rfl⟩ : c = c' ∧ ([] : Ups) = u := by simpa using hf
      exact ⟨F, h, Mono.refl _ _, hc.plain hp⟩
    · cases hf
  cases c with
  | row id =>
    obtain ⟨ℓ, hl, rfl⟩ := hc.rowI
    simp only [fzCell] at hf
    split at hf
    · rename_i fl es mc xs hm
      obtain ⟨rfl, rfl⟩ : AV.fro fl es xs = c' ∧ [(id, AObj.frow fl es xs)] = u := by simpa using hf
      obtain ⟨F', h1, h2, ℓ', h3, h4, h5, h6⟩ := h.freeze hm
      rw [hl] at h3; obtain rfl := Option.some.inj h3
      exact ⟨F', h1, h2, h6⟩
    · rename_i fl es xs hm
      obtain ⟨rfl, rfl⟩ : AV.fro fl es xs = c' ∧ ([] : Ups) = u := by simpa using hf
      obtain ⟨ℓ', h3, h4, h5, h6⟩ := h.objs id _ hm
      rw [hl] at h3; obtain rfl := Option.some.inj h3
      exact ⟨F, h, Mono.refl _ _, h6⟩
    · cases hf
  | view id lo hi =>
    obtain ⟨ℓ, A, c, hl, rfl, hA0, hA, hcc⟩ := hc.viewI
    have part : ∀ {F' : Nat → Prop} {fl : Bool} {es : Nat} {xs : List (List AV)}, lo ≤ hi → hi ≤ xs.length → ℓ.es = es → ℓ.len = xs.length → RelF w F' (.fro fl es xs) (.slice ℓ.A ℓ.len ℓ.cap) →
        RelF w F' (.fro fl es ((xs.take hi).drop lo)) (.slice A (hi - lo) c) := by
      intro F' fl es xs h1 h2 he hlen hr
      obtain ⟨A1, c1, vs, h5, h6, h7, h8⟩ := hr.reads
      simp only [Value.slice.injEq] at h5
      obtain ⟨rfl, _, rfl⟩ := h5
      have hlen' := part_len xs lo hi h2
      have := (h7.part lo hi h1 h2 (A' := A) (fun hlt => by rw [hA hlt, he])).fro (c := c) (by rw [hlen']; exact hcc) (fun hne => by
        have hlt : lo < hi := by
          rcases Nat.lt_or_ge lo hi with hlt | hge
          · exact hlt
          · exfalso; apply hne; apply List.drop_eq_nil_of_le; rw [List.length_take]; omega
        obtain ⟨a, ha, hF⟩ := h8 (fun e => by subst e; simp at h2; omega)
        refine ⟨a.add (lo * es), ?_, by rw [addr_add_block]; exact hF⟩
        rw [hA hlt, he, ha]; rfl)
      rwa [hlen'] at this
    simp only [fzCell] at hf
    split at hf
    · rename_i fl es mc xs hm
      split at hf
      · rename_i hb
        obtain ⟨rfl, rfl⟩ : AV.fro fl es ((xs.take hi).drop lo) = c' ∧ [(id, AObj.frow fl es xs)] = u := by simpa using hf
        obtain ⟨F', h1, h2, ℓ', h3, h4, h5, h6⟩ := h.freeze hm
        rw [hl] at h3; obtain rfl := Option.some.inj h3
        exact ⟨F', h1, h2, part hb.1 hb.2 h4 h5 h6⟩
      · cases hf
    · rename_i fl es xs hm
      split at hf
      · rename_i hb
        obtain ⟨rfl, rfl⟩ : AV.fro fl es ((xs.take hi).drop lo) = c' ∧ ([] : Ups) = u := by simpa using hf
        obtain ⟨ℓ', h3, h4, h5, h6⟩ := h.objs id _ hm
        rw [hl] at h3; obtain rfl := Option.some.inj h3
        exact ⟨F, h, Mono.refl _ _, part hb.1 hb.2 h4 h5 h6⟩
      · cases hf
    · cases hf
  | i => exact pl (c := AV.i _ _) hf hc
  | b => exact pl (c := AV.b _) hf hc
  | s => exact pl (c := AV.s _) hf hc
  | emp => exact pl (c := AV.emp) hf hc
  | fro => exact pl (c := AV.fro _ _ _) hf hc
  | fptr => exact pl (c := AV.fptr _ _) hf hc
  | _ => simp [fzCell, AV.plain] at hf
end
/-- Cells are made fit for a row. -/
theorem fzCells_ok {C : Ctx} {w : World} {σ : Sig} : ∀ {cs cs' : List AV} {u : Ups} {vs : List Value} {F : Nat → Prop} {m : Mem}, Inv C w σ F m → fzCells m cs = some (cs', u) → vs.length = cs.length → (∀ (k : Nat) c v, cs[k]? = some c → vs[k]? = some v → RelL w σ F c v) →
    ∃ F', Inv C w σ F' (putM m u) ∧ Mono w F w F' ∧ cs'.length = cs.length ∧ ∀ (k : Nat) c v, cs'[k]? = some c → vs[k]? = some v → RelF w F' c v
  | [], cs', u, vs, F, m, h, hf, hl, hr => by
    obtain ⟨rfl, rfl⟩ : ([] : List AV) = cs' ∧ ([] : Ups) = u := by simpa [fzCells] using hf
    exact ⟨F, h, Mono.refl _ _, rfl, fun k c v hk => by simp at hk⟩
  | c :: cs, cs', u, [], F, m, h, hf, hl, hr => by simp at hl
  | c :: cs, cs', u, v :: vs, F, m, h, hf, hl, hr => by
    simp only [fzCells, Option.bind_eq_some_iff] at hf
    obtain ⟨p, hp, q, hq, he⟩ := hf
    obtain ⟨rfl, rfl⟩ : p.1 :: q.1 = cs' ∧ p.2 ++ q.2 = u := by simpa using he
    obtain ⟨F1, h1, h2, h3⟩ := h.fzCell_ok (c' := p.1) (u := p.2) hp (hr 0 c v rfl rfl)
    obtain ⟨F2, g1, g2, g3, g4⟩ := fzCells_ok (cs := cs) (cs' := q.1) (u := q.2) (vs := vs) h1 hq (by simpa using hl) (fun k c v hk hv => (hr (k + 1) c v hk hv).mono (Sub.refl _) h2)
    refine ⟨F2, by rw [putM_append]; exact g1, h2.trans g2, by simp [g3], fun k c' v' hk hv => ?_⟩
    cases k with
    | zero =>
      obtain rfl := Option.some.inj hk
      obtain rfl := Option.some.inj hv
      exact h3.mono g2
    | succ k => exact g4 k c' v' hk hv
end Go.Eng
