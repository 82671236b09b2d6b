/- How a law's arguments that are read as data are read as values of the printed kinds: structs, slices of structs, trees. A text of this session. -/
import Derived.Test.YtfnndcpaldkkoaaPFnExactTreeRangewWords
import Derived.SizedLaws
import Derived.ChangeArms
import Derived.DataReads
namespace Go.Proofs.YtfnndcpaldkkoaaOpen
open Go.RowKit Go.Proofs.YtfnndcpaldkkoaaW.PrintWords

/-- Data of a type, read with at most so many steps, are a value of a kind, of which Ok holds. -/
structure Opens {α : Type} (P : Program) (n : Nat) (t : TypeId) (d : Kd α) (Ok : α → Prop) : Prop where
  run : ∀ {H : Type} (enc : TypeId × Value → H) (w : World) (fuel : Nat) (cs : List Value) (dd : DataW H) (ps : List MemPlace), fuel ≤ n →
    DataW.trod enc P w 0 (fun _ => true) true fuel t cs = some (dd, ps) → (∀ m ∈ dd.weights P t, m ≤ reachBytes) → ∃ x, d.K w x cs ∧ Ok x

theorem list_of {α : Type} {Q : Nat → α → Prop} : ∀ {n : Nat}, (∀ i, i < n → ∃ x, Q i x) → ∃ xs : List α, xs.length = n ∧ ∀ i x, xs[i]? = some x → Q i x := by
  intro n
  induction n with
  | zero => intro _; exact ⟨[], rfl, fun i x h => by simp at h⟩
  | succ n ih =>
    intro h
    obtain ⟨xs, hl, hx⟩ := ih (fun i hi => h i (by omega))
    obtain ⟨y, hy⟩ := h n (by omega)
    refine ⟨xs ++ [y], by simp [hl], fun i x hi => ?_⟩
    rcases Nat.lt_or_ge i xs.length with hlt | hge
    · rw [List.getElem?_append_left hlt] at hi
      exact hx i x hi
    · rw [List.getElem?_append_right hge] at hi
      have : i = n := by
        have := (List.getElem?_eq_some_iff.1 hi).1
        simp at this
        omega
      subst this
      simp [hl] at hi
      subst hi
      exact hy

section
variable {α β : Type} {P : Program}

theorem Opens.mono {n m : Nat} {t : TypeId} {d : Kd α} {Ok : α → Prop} (h : Opens P n t d Ok) (hm : m ≤ n) : Opens P m t d Ok :=
  ⟨fun enc w fuel cs dd ps hf ht hw => h.run enc w fuel cs dd ps (Nat.le_trans hf hm) ht hw⟩

theorem Opens.zero (t : TypeId) (d : Kd α) (Ok : α → Prop) : Opens P 0 t d Ok := by
  refine ⟨?_⟩
  intro H enc w fuel cs dd ps hf ht _
  obtain rfl : fuel = 0 := by omega
  simp [DataW.trod] at ht

theorem Opens.imp {n : Nat} {t : TypeId} {d : Kd α} {Ok Ok' : α → Prop} (h : Opens P n t d Ok) (hi : ∀ x, Ok x → Ok' x) : Opens P n t d Ok' := by
  refine ⟨?_⟩
  intro H enc w fuel cs dd ps hf ht hw
  obtain ⟨x, hk, ho⟩ := h.run enc w fuel cs dd ps hf ht hw
  exact ⟨x, hk, hi x ho⟩

theorem opens_int (n : Nat) {t : TypeId} {k : IntKind} (hu : P.underlying t = some (.int k)) : Opens P n t (Kd.int k) (fun x => (Lit.int k x).wf = true) := by
  refine ⟨?_⟩
  intro H enc w fuel cs dd ps _ ht _
  obtain ⟨x, rfl, _, hw⟩ := DataW.trod_int hu ht
  exact ⟨x, rfl, hw⟩

theorem opens_bool (n : Nat) {t : TypeId} (hu : P.underlying t = some .bool) : Opens P n t Kd.bool (fun _ => True) := by
  refine ⟨?_⟩
  intro H enc w fuel cs dd ps _ ht _
  obtain ⟨x, rfl, _⟩ := DataW.trod_bool hu ht
  exact ⟨x, rfl, trivial⟩

/-- A slice: its length by its bytes, and each of its elements. -/
theorem opens_slice {n B : Nat} {t e : TypeId} {d : Kd α} {Ok : α → Prop} (hu : P.underlying t = some (.slice e)) (hc : P.cellsOf e = d.sz) (hB : P.bytesOf e = B) (h : Opens P n e d Ok) :
    Opens P (n + 1) t (Kd.slice e d) (fun xs => xs.length * B ≤ 140737488351232 ∧ ∀ x ∈ xs, Ok x) := by
  subst hB
  refine ⟨?_⟩
  intro H enc w fuel cs dd ps hf ht hw
  rcases DataW.trod_slice hu ht with ⟨rfl, _⟩ | ⟨a, len, cap, elems, rest, m, rfl, rfl, hdd, _, hl, hcap, hlen, hget0, hrest, _⟩
  · exact ⟨[], ⟨none, 0, rfl, Nat.le_refl _, rfl, by simp, fun h => absurd h (by simp)⟩, by simp⟩
  · obtain ⟨rfl, _⟩ := Prod.mk.inj hdd
    have hget : ∀ i, i < len → ∃ (cs' : List Value) (y : DataW H × List MemPlace), w.cells? 0 (a.add (i * d.sz)) d.sz = some cs' ∧ elems[i]? = some y ∧ DataW.trod enc P w 0 (fun _ => true) true m e cs' = some y := by
      intro i hi
      have h1 := hget0 i hi
      rw [List.getElem?_eq_getElem (by omega), hc] at h1
      obtain ⟨cs', hcs, hy⟩ := Option.bind_eq_some_iff.1 h1
      exact ⟨cs', _, hcs, List.getElem?_eq_getElem (by omega), hy⟩
    have hwt : ∀ (i : Nat) (y : DataW H × List MemPlace), elems[i]? = some y → ∀ q ∈ y.1.weights P e, q ≤ reachBytes := by
      intro i y hy q hq
      refine hw q ?_
      simp only [DataW.weights, hu]
      refine List.mem_cons_of_mem _ (List.mem_append_left _ ?_)
      have key : ∀ (l : List (DataW H × List MemPlace)) (i : Nat), l[i]? = some y → q ∈ DataW.weightsAll P e (l.map (·.1)) := by
        intro l
        induction l with
        | nil => intro i h; simp at h
        | cons z l ih =>
          intro i h
          simp only [List.map_cons, DataW.weightsAll, List.mem_append]
          cases i with
          | zero => simp at h; subst h; exact .inl hq
          | succ i => simp at h; exact .inr (ih i h)
      exact key elems i hy
    have hex : ∀ i, i < len → ∃ x : α, (∃ c, c.length = d.sz ∧ d.K w x c ∧ ∀ j u, c[j]? = some u → w.cell? (a.add (i * d.sz + j)) = some u) ∧ Ok x := by
      intro i hi
      obtain ⟨cs', y, h1, h2, h3⟩ := hget i hi
      obtain ⟨x, hk, ho⟩ := h.run enc w m cs' y.1 y.2 (by omega) h3 (hwt i y h2)
      obtain ⟨_, hcl, hcc⟩ := World.cells?_some h1
      refine ⟨x, ⟨cs', hcl, hk, fun j u hu => ?_⟩, ho⟩
      have hj : j < d.sz := by have := (List.getElem?_eq_some_iff.1 hu).1; omega
      rw [← hu, ← hcc j hj]
      congr 1
      unfold Addr.add
      by_cases h1 : i * d.sz = 0 <;> by_cases h2 : j = 0 <;> simp [h1, h2, Nat.add_assoc]
    obtain ⟨xs, hxl, hx⟩ := list_of hex
    have hwl : (elems.length + rest.length) * P.bytesOf e ≤ reachBytes := by
      have := hw ((elems.length + rest.length) * P.bytesOf e) (by simp [DataW.weights, hu])
      exact this
    refine ⟨xs, ⟨some a, cap, by rw [hxl], by omega, rfl, by rw [hxl]; simp only [maxLen] at hcap; omega, fun _ => ⟨a, rfl, fun j p hp => ?_⟩⟩, ?_, fun x hxm => ?_⟩
    · exact (hx j p hp).1
    · refine Nat.le_trans (Nat.mul_le_mul_right _ ?_) (Nat.le_trans hwl (by decide))
      omega
    · obtain ⟨i, hi, he⟩ := List.mem_iff_getElem.1 hxm
      exact (hx i x (by rw [List.getElem?_eq_getElem hi, he])).2

/-- The fields of a struct, from a cell on. -/
structure OpensFs {α : Type} (P : Program) (n : Nat) (fs : List Field) (off : Nat) (d : Kd α) (Ok : α → Prop) : Prop where
  run : ∀ {H : Type} (enc : TypeId × Value → H) (w : World) (fuel : Nat) (cs : List Value) (xs : List (DataW H × List MemPlace)), fuel ≤ n → cs.length = off + d.sz →
    (fs.mapM fun f => DataW.trod enc P w 0 (fun _ => true) true fuel f.type ((cs.drop f.offset).take (P.cellsOf f.type))) = some xs →
    (∀ m ∈ DataW.weightsEach P (fs.map (·.type)) (xs.map (·.1)), m ≤ reachBytes) → ∃ x, d.K w x (cs.drop off) ∧ Ok x

theorem opens_last {n : Nat} {f : Field} {off : Nat} {d : Kd α} {Ok : α → Prop} (ho : f.offset = off) (hc : P.cellsOf f.type = d.sz) (h : Opens P n f.type d Ok) : OpensFs P n [f] off d Ok := by
  refine ⟨?_⟩
  intro H enc w fuel cs xs hf hl hm hw
  rw [List.mapM_cons] at hm
  obtain ⟨y, hy, hm⟩ := Option.bind_eq_some_iff.1 hm
  simp at hm
  subst hm
  rw [ho, hc, List.take_of_length_le (by rw [List.length_drop]; omega)] at hy
  exact h.run enc w fuel _ y.1 y.2 hf hy (fun m hm' => hw m (by simp [DataW.weightsEach, hm']))

theorem opens_field {n : Nat} {f : Field} {fs : List Field} {off : Nat} {d : Kd α} {e : Kd β} {Ok : α → Prop} {Ok' : β → Prop} (ho : f.offset = off) (hc : P.cellsOf f.type = d.sz) (h : Opens P n f.type d Ok) (hr : OpensFs P n fs (off + d.sz) e Ok') :
    OpensFs P n (f :: fs) off (Kd.pair d e) (fun x => Ok x.1 ∧ Ok' x.2) := by
  refine ⟨?_⟩
  intro H enc w fuel cs xs hf hl hm hw
  have hsz : (Kd.pair d e).sz = d.sz + e.sz := rfl
  rw [hsz] at hl
  rw [List.mapM_cons] at hm
  obtain ⟨y, hy, hm⟩ := Option.bind_eq_some_iff.1 hm
  obtain ⟨ys, hys, hm⟩ := Option.bind_eq_some_iff.1 hm
  simp at hm
  subst hm
  rw [ho, hc] at hy
  obtain ⟨x, hk, hox⟩ := h.run enc w fuel _ y.1 y.2 hf hy (fun m hm' => hw m (by simp [DataW.weightsEach, hm']))
  obtain ⟨x', hk', hox'⟩ := hr.run enc w fuel cs ys hf (by omega) hys (fun m hm' => hw m (by simp only [List.map_cons, DataW.weightsEach]; exact List.mem_append_right _ hm'))
  refine ⟨(x, x'), ⟨(cs.drop off).take d.sz, cs.drop (off + d.sz), ?_, hk, hk'⟩, hox, hox'⟩
  rw [← List.drop_drop]
  exact (List.take_append_drop _ _).symm

theorem opens_struct {n : Nat} {t : TypeId} {fs : Array Field} {d : Kd α} {Ok : α → Prop} (hu : P.underlying t = some (.struct fs)) (hc : P.cellsOf t = d.sz) (h : OpensFs P n fs.toList 0 d Ok) : Opens P (n + 1) t d Ok := by
  refine ⟨?_⟩
  intro H enc w fuel cs dd ps hf ht hw
  cases fuel with
  | zero => simp [DataW.trod] at ht
  | succ m =>
    unfold DataW.trod at ht
    rw [hu] at ht
    simp only at ht
    split at ht
    · rename_i hlen
      obtain ⟨xs, hxs, he⟩ := Option.map_eq_some_iff.1 ht
      obtain ⟨rfl, rfl⟩ := Prod.mk.inj he
      obtain ⟨x, hk, ho⟩ := h.run enc w m cs xs (by omega) (by omega) hxs (fun q hq => hw q (by simp only [DataW.weights, hu]; exact hq))
      exact ⟨x, by simpa using hk, ho⟩
    · cases ht

theorem opens_iso {n : Nat} {t : TypeId} {d : Kd α} {Ok : α → Prop} {f : β → α} (g : α → β) (hg : ∀ x, f (g x) = x) (h : Opens P n t d Ok) : Opens P n t (Kd.iso d f) (fun y => Ok (f y)) := by
  refine ⟨?_⟩
  intro H enc w fuel cs dd ps hf ht hw
  obtain ⟨x, hk, ho⟩ := h.run enc w fuel cs dd ps hf ht hw
  exact ⟨g x, show d.K w (f (g x)) cs by rw [hg]; exact hk, show Ok (f (g x)) by rw [hg]; exact ho⟩

/-- A type nested in itself: what holds at each depth, and the same of Ok. -/
theorem opens_fix {t : TypeId} {F : Kd α → Kd α} {sz : Nat} {E : List Nat} {hs : ∀ n, (Kd.upto F sz E n).sz = sz} {hE : ∀ n q, q ∈ (Kd.upto F sz E n).E → q ∈ E} (O : (α → Prop) → α → Prop)
    (h : ∀ n (d : Kd α) (Ok : α → Prop), d.sz = sz → Opens P n t d Ok → Opens P (n + 1) t (F d) (O Ok)) (n : Nat) : Opens P n t (Kd.fix F sz E hs hE) (fun x => ∃ m, (Nat.rec (motive := fun _ => α → Prop) (fun _ => False) (fun _ Ok => O Ok) m) x) := by
  have key : ∀ n, Opens P n t (Kd.upto F sz E n) (Nat.rec (motive := fun _ => α → Prop) (fun _ => False) (fun _ Ok => O Ok) n) := by
    intro n
    induction n with
    | zero => exact Opens.zero _ _ _
    | succ n ih => exact h n _ _ (hs n) ih
  refine ⟨?_⟩
  intro H enc w fuel cs dd ps hf ht hw
  obtain ⟨x, hk, ho⟩ := (key n).run enc w fuel cs dd ps hf ht hw
  exact ⟨x, ⟨n, hk⟩, ⟨n, ho⟩⟩
end

section
variable {α : Type} {P : Program} {H : Type} {enc : TypeId × Value → H} {W : World} {t : TypeId} {v : Value} {dd : DataW H} {ps : List MemPlace} {d : Kd α} {Ok : α → Prop}

/-- An argument, at whatever number of steps. -/
theorem open_arg {ts : List TypeId} {ds : List (DataW H)} {j : Nat} (hsz : (DataW.weightsEach P ts ds).all (· ≤ reachBytes) = true) (ht : ts[j]? = some t) (hd : ds[j]? = some dd)
    (h : DataW.Trod enc P W 0 (fun _ => true) true t v dd ps) (ho : ∀ n, Opens P n t d Ok) : ∃ x, d.K W x v.cells.toList ∧ Ok x := by
  obtain ⟨fuel, hf⟩ := h
  exact (ho fuel).run enc W fuel _ dd ps (Nat.le_refl _) hf (fun m hm => by
    have := List.all_eq_true.1 hsz m (DataW.weights_mem_each ht hd m hm)
    simpa using this)

theorem trod_lt0 (h : DataW.Trod enc P W 0 (fun _ => true) true t v dd ps) : ∀ x ∈ ps, x.block < W.heap.size := by
  obtain ⟨m, hm⟩ := h
  exact DataW.trod_lt m _ _ _ hm

theorem okWide_agg {r : Reach} {b : Nat} {fs : Array Field} (hu : P.underlying t = some (.struct fs)) (h : Value.okWide P W r b t v) : ∃ cs, v = .agg cs := by
  unfold Value.okWide at h
  rw [hu] at h
  obtain ⟨cs, h, _⟩ := h
  exact ⟨cs, h⟩

theorem agg_of {cs : Array Value} {l : List Value} (hv : v = .agg cs) (hk : v.cells.toList = l) : v = .agg l.toArray := by
  subst hv
  simp only [Value.cells] at hk
  rw [← hk]
end
end Go.Proofs.YtfnndcpaldkkoaaOpen
