/- Operations: struct and slice literals, loads, stores. -/
import Derived.Test.YtjjocahgbmibeaaEngF
namespace Go.Eng
set_option linter.unusedVariables false
set_option linter.unusedSimpArgs false

theorem mapM_get {α β : Type} {f : α → Option β} : ∀ {l : List α} {r : List β}, l.mapM f = some r → r.length = l.length ∧ ∀ k : Nat, r[k]? = l[k]?.bind f
  | [], r, h => by
    have : r = [] := by simpa using h.symm
    subst this; exact ⟨rfl, fun k => by simp⟩
  | x :: l, r, h => by
    simp only [List.mapM_cons, Option.bind_eq_bind, Option.bind_eq_some_iff, Option.pure_def, Option.some.injEq] at h
    obtain ⟨y, hy, ys, hys, rfl⟩ := h
    obtain ⟨h1, h2⟩ := mapM_get hys
    refine ⟨by simp [h1], fun k => ?_⟩
    cases k with
    | zero => simp [hy]
    | succ k => simpa using h2 k
theorem mapM_some {α β : Type} {f : α → Option β} : ∀ {l : List α}, (∀ x, x ∈ l → (f x).isSome = true) → ∃ r, l.mapM f = some r
  | [], _ => ⟨[], by simp⟩
  | x :: l, h => by
    obtain ⟨y, hy⟩ := Option.isSome_iff_exists.1 (h x List.mem_cons_self)
    obtain ⟨ys, hys⟩ := mapM_some (fun z hz => h z (List.mem_cons_of_mem _ hz))
    exact ⟨y :: ys, by simp [hy, hys]⟩

section
variable {P : Program} {C : Ctx} {w w' : World} {σ σ' : Sig} {F F' : Nat → Prop} {m : Mem} {nid : Nat} {ups : Ups} {av : AV} {v : Value} {e : Nat → AV} {a : Act}

/-! ### A struct literal. -/
theorem buildOf_ok (he : EnvR w σ F e a.tmps) (fs : Array Field) (pl : Nat → Option (Nat × Nat)) (hpl : ∀ k f n, fs[k]? = some f → szOf P f.type = some n → pl k = some (f.offset, n)) :
    ∀ (ps : List (Nat × Operand)) (qs : List (Nat × Nat × AOpd)) (cs cs' : List AV) (arr : Array Value), ps.mapM (fun p => (fs[p.1]?).bind fun f => (szOf P f.type).map fun n => (f.offset, n, opd p.2)) = some qs →
      buildOf cs (qs.map fun p => (p.1, p.2.1, p.2.2.get e)) = some cs' → CellsL w σ F cs arr → ∃ arr', Instr.fill pl arr (ps.map fun p => (p.1, a.eval p.2)) = some arr' ∧ CellsL w σ F cs' arr'
  | [], qs, cs, cs', arr, hq, hb, hc => by
    have : qs = [] := by simpa using hq.symm
    subst this
    obtain rfl : cs = cs' := by simpa [buildOf] using hb
    exact ⟨arr, rfl, hc⟩
  | p :: ps, qs, cs, cs', arr, hq, hb, hc => by
    simp only [List.mapM_cons, Option.bind_eq_bind, Option.bind_eq_some_iff, Option.map_eq_some_iff, Option.pure_def, Option.some.injEq] at hq
    obtain ⟨q, ⟨f, hf, n, hn, rfl⟩, qs', hq', rfl⟩ := hq
    simp only [List.map_cons, buildOf, Option.bind_eq_some_iff] at hb
    obtain ⟨us, hus, hb⟩ := hb
    split at hb
    · rename_i hcond
      have hv := (opd_rel (σ := σ) (F := F) he p.2).cellsL hus
      have hsz : (a.eval p.2).cells.size = n := hv.1.trans hcond.1
      have hplk := hpl p.1 f n hf hn
      have hle : f.offset + (a.eval p.2).cells.size ≤ arr.size := by rw [hsz, hc.1]; exact hcond.2
      obtain ⟨arr', h1, h2⟩ := buildOf_ok he fs pl hpl ps qs' _ cs' _ hq' hb (hc.lay hv (by rw [hcond.1]; exact hcond.2))
      refine ⟨arr', ?_, h2⟩
      rw [List.map_cons, Instr.fill, hplk]
      simp only
      rw [if_neg (by simp; omega)]
      rw [show (fun (cs : Array Value) (x : Value × Nat) => match x with | (c, j) => cs.setIfInBounds (f.offset + j) c) = (fun cs p => cs.setIfInBounds (f.offset + p.2) p.1) from rfl, fill_step f.offset (a.eval p.2) arr hle]
      exact h1
    · cases hb
theorem op_build (h : Inv C w σ F m) (he : EnvR w σ F e a.tmps) {o : Oper} {t : TypeId} {ps : Array (Nat × Operand)} (ho : o.op = .build t ps) (hact : act nid m ((opOf P o).map (AOpd.get e)) = some (av, ups)) : OpGood P o a C w σ F m nid ups av := by
  simp only [opOf, ho] at hact
  split at hact
  · rename_i fs z hu hz
    split at hact
    · rename_i qs hq
      split at hact
      · rename_i hc
        simp only [AOp.map, act, Option.bind_eq_some_iff, Option.some.injEq, Prod.mk.injEq] at hact
        obtain ⟨cs, hb, rfl, rfl⟩ := hact
        obtain ⟨it, hit, hzz⟩ := Option.bind_eq_some_iff.1 hz
        obtain ⟨places, hpl⟩ : ∃ places, fs.toList.mapM (fun f => (P.info? f.type).map fun i => (f.offset, i.size)) = some places :=
          mapM_some (fun f hf => by have := List.all_eq_true.1 hc.2 f hf; simpa using this)
        have hpl' : ∀ (k : Nat) (f : Field) (n : Nat), fs[k]? = some f → szOf P f.type = some n → (places.toArray[·]?) k = some (f.offset, n) := by
          intro k f n hf hn
          have := (mapM_get hpl).2 k
          rw [show fs.toList[k]? = some f by simpa using hf] at this
          simp only [Option.bind_some] at this
          obtain ⟨i, hi, rfl⟩ := Option.map_eq_some_iff.1 hn
          simpa [hi] using this
        obtain ⟨arr', h1, h2⟩ := buildOf_ok he fs _ hpl' ps.toList qs (cellsOf z) cs z.cells hq hb (cellsOf_rel hc.1)
        have hbt : P.built t (ps.map fun (i, x) => (i, a.eval x)).toList = some arr' := by
          unfold Program.built
          simp only [hit, hu, hzz, hpl, Array.toList_map]
          exact h1
        refine .inl ⟨.agg arr', w, ?_, good_quiet h (.agg h2.1 (fun u hu => ?_) (fun k u v hu hv => ?_))⟩
        · simp [execOp, ho, run_build w t _ _ hbt]
        · obtain ⟨k, hk, rfl⟩ := Array.getElem_of_mem hu
          obtain ⟨v, g1, g2, g3⟩ := h2.2 k _ (List.getElem?_eq_getElem (by rw [← h2.1]; exact hk))
          rw [Array.getElem?_eq_getElem hk] at g1
          obtain rfl := Option.some.inj g1
          exact g3
        · obtain ⟨v', g1, g2, g3⟩ := h2.2 k u hu
          rw [g1] at hv; obtain rfl := Option.some.inj hv; exact g2
      · simp [AOp.map, act] at hact
    · simp [AOp.map, act] at hact
  · simp [AOp.map, act] at hact

/-! ### A slice literal. -/
theorem litRow_rel {xs : List (List AV)} {arr : Array Value} (h : RowsF w F xs arr) : RowsF w (FF (litRow xs) F) xs arr := by
  intro q u hu
  obtain ⟨v, h1, h2⟩ := h q u hu
  refine ⟨v, h1, ?_⟩
  cases hl : litRow xs
  · exact h2
  · refine h2.lit ?_
    obtain ⟨x, hx, hux⟩ := List.mem_flatten.1 (List.mem_of_getElem? hu)
    exact List.all_eq_true.1 (List.all_eq_true.1 hl x hx) u hux
theorem rowParts_ok (he' : ∀ {F : Nat → Prop}, EnvR w σ F e a.tmps → ∀ x, RelL w σ F ((opd x).get e) (a.eval x)) (es n : Nat) :
    ∀ (ps : List (Nat × Operand)) (xs ys : List (List AV)) (u : Ups) (arr : Array Value) (F : Nat → Prop) (m : Mem), EnvR w σ F e a.tmps → Inv C w σ F m → rowParts m es n xs (ps.map fun p => (p.1, (opd p.2).get e)) = some (ys, u) →
      (∀ x, x ∈ xs → x.length = es) → xs.length = n → arr.size = n * es → RowsF w F xs arr →
      ∃ F' arr', Inv C w σ F' (putM m u) ∧ Mono w F w F' ∧ Instr.fill (fun i => some (i * es, es)) arr (ps.map fun p => (p.1, a.eval p.2)) = some arr' ∧ arr'.size = n * es ∧ (∀ x, x ∈ ys → x.length = es) ∧ ys.length = n ∧ RowsF w F' ys arr'
  | [], xs, ys, u, arr, F, m, he, h, hp, hes, hn, hsz, hr => by
    obtain ⟨rfl, rfl⟩ : xs = ys ∧ ([] : Ups) = u := by simpa [rowParts] using hp
    exact ⟨F, arr, h, Mono.refl _ _, rfl, hsz, hes, hn, hr⟩
  | p :: ps, xs, ys, u, arr, F, m, he, h, hp, hes, hn, hsz, hr => by
    simp only [List.map_cons, rowParts, Option.bind_eq_some_iff] at hp
    obtain ⟨cs, hcs, hp⟩ := hp
    split at hp
    · rename_i hc
      simp only [Option.bind_eq_some_iff, Option.some.injEq, Prod.mk.injEq] at hp
      obtain ⟨q, hq, r, hrr, rfl, rfl⟩ := hp
      have hv := (he' he p.2).cellsL hcs
      obtain ⟨F1, g1, g2, g3, g4⟩ := fzCells_ok (cs := cs) (cs' := q.1) (u := q.2) (vs := (a.eval p.2).cells.toList) h hq (by rw [Array.length_toList]; exact hv.1) (fun k c v hk hv' => by
        obtain ⟨v', h1, h2, _⟩ := hv.2 k c hk
        have : (a.eval p.2).cells[k]? = some v := by simpa using hv'
        rw [this] at h1; obtain rfl := Option.some.inj h1; exact h2)
      have hql : q.1.length = es := g3.trans hc.1
      have hsz' : (a.eval p.2).cells.size = es := hv.1.trans hc.1
      have hlt : p.1 < xs.length := by rw [hn]; exact hc.2
      have hle : p.1 * es + es ≤ n * es := by rw [← Nat.succ_mul]; exact Nat.mul_le_mul_right _ hc.2
      have hfl := flat_len hes
      have hes' : ∀ x, x ∈ xs.set p.1 q.1 → x.length = es := fun x hx => by
        rcases List.mem_or_eq_of_mem_set hx with hx | rfl
        · exact hes x hx
        · exact hql
      have hr' : RowsF w F1 (xs.set p.1 q.1) (lay arr.toList (p.1 * es) (a.eval p.2).cells.toList).toArray := by
        intro k c hk
        rw [flat_set hes hlt hql, lay_get _ _ _ (by rw [hql, hfl, hn]; exact hle)] at hk
        rw [List.getElem?_toArray, lay_get _ _ _ (by rw [Array.length_toList, Array.length_toList, hsz', hsz]; exact hle), Array.length_toList, hsz']
        rw [hql] at hk
        split at hk
        · rename_i k1
          obtain ⟨v, h1, h2⟩ := hr k c hk
          exact ⟨v, by rw [if_pos k1]; simpa using h1, h2.mono g2⟩
        · rename_i k1
          split at hk
          · rename_i k2
            rw [if_neg k1, if_pos k2]
            have hlt2 : k - p.1 * es < (a.eval p.2).cells.toList.length := by rw [Array.length_toList, hsz']; omega
            exact ⟨_, List.getElem?_eq_getElem hlt2, g4 _ c _ hk (List.getElem?_eq_getElem hlt2)⟩
          · rename_i k2
            obtain ⟨v, h1, h2⟩ := hr k c hk
            exact ⟨v, by rw [if_neg k1, if_neg k2]; simpa using h1, h2.mono g2⟩
      obtain ⟨F2, arr', i1, i2, i3, i4, i5, i6, i7⟩ := rowParts_ok he' es n ps _ r.1 r.2 _ F1 _ (he.mono (Sub.refl _) g2) g1 hrr hes' (by rw [List.length_set]; exact hn)
        (by rw [List.size_toArray, lay_len _ _ _ (by rw [Array.length_toList, Array.length_toList, hsz', hsz]; exact hle), Array.length_toList]; exact hsz) hr'
      refine ⟨F2, arr', by rw [putM_append]; exact i1, g2.trans i2, ?_, i4, i5, i6, i7⟩
      rw [List.map_cons, Instr.fill]
      simp only
      rw [if_neg (by simp; omega)]
      rw [show (fun (cs : Array Value) (x : Value × Nat) => match x with | (c, j) => cs.setIfInBounds (p.1 * es + j) c) = (fun cs q => cs.setIfInBounds (p.1 * es + q.2) q.1) from rfl, fill_step (p.1 * es) (a.eval p.2) arr (by omega)]
      exact i3
    · cases hp
theorem elemOf_ok {t e' : TypeId} {es bytes : Nat} {z : Value} (h : elemOf' P t = some (e', es, bytes, z)) :
    P.underlying t = some (.slice e') ∧ ∃ i, P.info? e' = some i ∧ i.zero = some z ∧ i.size = es ∧ i.bytes = bytes ∧ 0 < es ∧ 0 < bytes ∧ z.cells.size = es ∧ z.cells.all Value.oneCell' = true := by
  unfold elemOf' at h
  split at h
  · rename_i e2 hu
    simp only [Option.bind_eq_some_iff] at h
    obtain ⟨i, hi, z', hz, h⟩ := h
    split at h
    · rename_i hc
      simp only [Option.some.injEq, Prod.mk.injEq] at h
      obtain ⟨rfl, rfl, rfl, rfl⟩ := h
      exact ⟨hu, i, hi, hz, rfl, rfl, hc.1, hc.2.1, hc.2.2.1, hc.2.2.2⟩
    · cases h
  · cases h
theorem made_rows {z : Value} {es n : Nat} (hz : z.cells.size = es) (h1 : z.cells.all Value.oneCell' = true) (hl : (cellsOf z).all AV.lit = true) (k : Nat) (hk : n * es ≤ k) (F : Nat → Prop) :
    RowsF w F (List.replicate n (cellsOf z)) ((Array.range k).map (z.cells[· % z.cells.size]!)) := by
  intro q u hu
  have hcl : (cellsOf z).length = es := by rw [← hz]; simp [cellsOf]
  have hes : ∀ x, x ∈ List.replicate n (cellsOf z) → x.length = es := fun x hx => by rw [flat_rep n _ x hx, hcl]
  have hlt : q < n * es := by
    have := (List.getElem?_eq_some_iff.1 hu).1
    rwa [flat_len hes, List.length_replicate] at this
  have hpos : 0 < es := by
    rcases Nat.eq_zero_or_pos es with h0 | h0
    · subst h0; simp at hlt
    · exact h0
  have hdiv : q / es < n := Nat.div_lt_of_lt_mul (by rw [Nat.mul_comm]; exact hlt)
  have hmod : q % es < es := Nat.mod_lt _ hpos
  have hq : q / es * es + q % es = q := by rw [Nat.mul_comm]; exact Nat.div_add_mod q es
  have hrow : (List.replicate n (cellsOf z))[q / es]? = some (cellsOf z) := by rw [List.getElem?_replicate, if_pos hdiv]
  have := flat_get hes hrow hmod
  rw [hq] at this
  rw [this] at hu
  obtain ⟨v, g1, g2, g3⟩ := (cellsOf_rel (w := w) (σ := fun _ => none) (F := F) h1).2 _ u hu
  refine ⟨v, ?_, ?_⟩
  · have hzq : q % es < z.cells.size := by rw [hz]; exact hmod
    have e1 : ((Array.range k).map (z.cells[· % z.cells.size]!))[q]? = some (z.cells[q % z.cells.size]!) := by
      simp only [Array.getElem?_map, Array.getElem?_range]
      rw [if_pos (by omega)]; rfl
    rw [e1, hz, getElem!_pos z.cells (q % es) hzq]
    rw [Array.getElem?_eq_getElem hzq] at g1
    exact g1
  · have hlit : u.lit = true := List.all_eq_true.1 hl u (List.mem_of_getElem? hu)
    refine g2.plain ?_
    cases u <;> simp_all [AV.lit, AV.plain]
theorem op_rowOf (h : Inv C w σ F m) (he : EnvR w σ F e a.tmps) (hn : σ nid = none) {o : Oper} {t : TypeId} {n : Nat} {ps : Array (Nat × Operand)} (ho : o.op = .buildSlice t n ps) (hact : act nid m ((opOf P o).map (AOpd.get e)) = some (av, ups)) : OpGood P o a C w σ F m nid ups av := by
  simp only [opOf, ho] at hact
  split at hact
  · rename_i e' es bytes z hel
    obtain ⟨hu, i, hi, hz, rfl, rfl, hes0, _, hzs, hz1⟩ := elemOf_ok hel
    split at hact
    · rename_i hz0
      obtain ⟨rfl, _, hps⟩ := hz0
      have hpa : ps = #[] := Array.eq_empty_of_size_eq_zero hps
      subst hpa
      simp only [AOp.map, act, AOpd.get, Option.some.injEq, Prod.mk.injEq] at hact
      obtain ⟨rfl, rfl⟩ := hact
      have hm : Mono w F (w.alloc (.cells #[] e')) F := fun k hk => ⟨hk, heap_alloc_old w _ k (h.fnew k hk).1⟩
      have hg : Good C w σ F m nid [] .emp (.slice (some ⟨w.heap.size, 0, none⟩) 0 0) (w.alloc (.cells #[] e')) := ⟨σ, F, h.step (turns_alloc w _ _), .fz .emp, hm, Sub.refl _, fun id hid => .inl hid⟩
      refine .inl ⟨_, _, ?_, hg⟩
      have h0 : (Array.range 0) = #[] := by simp
      simp [execOp, ho, Instr.buildSlice, run_underlying hu, sizeOf, typeInfo, hi, Instr.fill, newRow, h0]
    split at hact
    · rename_i hsmall
      simp only [AOp.map, act, Option.bind_eq_some_iff] at hact
      obtain ⟨p, hp, hact⟩ := hact
      split at hact
      · rename_i hzl
        simp only [Option.some.injEq, Prod.mk.injEq] at hact
        obtain ⟨rfl, rfl⟩ := hact
        rw [List.map_map] at hp
        have hes : ∀ x, x ∈ List.replicate n (cellsOf z) → x.length = i.size := fun x hx => by rw [flat_rep n _ x hx, hzl.1]
        obtain ⟨F1, arr', i1, i2, i3, i4, i5, i6, i7⟩ := rowParts_ok (C := C) (w := w) (σ := σ) (e := e) (a := a) (fun he x => opd_rel he x) i.size n ps.toList _ p.1 p.2 ((Array.range (n * i.size)).map (z.cells[· % z.cells.size]!)) F m he h hp hes (by simp) (by simp) (made_rows hzs hz1 hzl.2 _ (Nat.le_refl _) F)
        have hg := (good_row (nid := nid) i1 hn (fl := litRow p.1) (es := i.size) (mc := n) (cap := n) (xs := p.1) (arr := arr') e' i5 (Nat.le_refl _) (by rw [i6]; exact Nat.le_refl _) (by
          have h1 : n ≤ n * i.size := Nat.le_mul_of_pos_right _ hes0
          have : n * i.size ≤ 16777216 := hsmall
          simp only [maxLen]; omega) i4 (litRow_rel i7)).after (u1 := p.2) i2
        rw [i6] at hg
        refine .inl ⟨_, _, ?_, hg⟩
        rcases Nat.eq_zero_or_pos n with h0 | h0
        · subst h0
          have hps : ps.toList = [] := by
            cases hpl : ps.toList with
            | nil => rfl
            | cons x l =>
              rw [hpl] at hp
              simp only [List.map_cons, rowParts, Option.bind_eq_some_iff] at hp
              obtain ⟨_, _, hp⟩ := hp
              simp at hp
          have hpa : ps = #[] := by cases ps; simp_all
          subst hpa
          have harr : arr' = #[] := Array.eq_empty_of_size_eq_zero (by simpa using i4)
          subst harr
          have h0 : (Array.range 0) = #[] := by simp
          simp [execOp, ho, Instr.buildSlice, run_underlying hu, sizeOf, typeInfo, hi, Instr.fill, newRow, h0]
        · have hb := run_buildSlice (P := P) w t e' n (ps.map fun (i, x) => (i, a.eval x)) arr' i z hu hi hz (by omega) (Nat.ne_of_gt (Nat.mul_pos h0 hes0)) (by rw [Array.toList_map]; exact i3)
          simp only [execOp, ho, Sem.run_bind, hb, Result.andThen_ok, Sem.run_pure]
      · cases hact
    · simp [AOp.map, act] at hact
  · simp [AOp.map, act] at hact
end
end Go.Eng
