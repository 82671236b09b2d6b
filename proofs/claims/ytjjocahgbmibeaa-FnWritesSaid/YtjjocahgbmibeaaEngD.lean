/- Slices, pointers and cells of the abstract machine, read in a world. -/
import Derived.Test.YtjjocahgbmibeaaEngC
namespace Go.Eng
set_option linter.unusedVariables false

section lists
variable {α : Type} {es : Nat}
theorem flat_len : ∀ {xs : List (List α)}, (∀ x, x ∈ xs → x.length = es) → xs.flatten.length = xs.length * es
  | [], _ => by simp
  | x :: xs, h => by
    rw [List.flatten_cons, List.length_append, flat_len (fun y hy => h y (List.mem_cons_of_mem _ hy)), h x List.mem_cons_self, List.length_cons, Nat.add_mul, Nat.one_mul, Nat.add_comm]
theorem flat_take : ∀ {xs : List (List α)} (k : Nat), (∀ x, x ∈ xs → x.length = es) → (xs.take k).flatten = xs.flatten.take (k * es)
  | [], k, _ => by simp
  | x :: xs, 0, h => by simp
  | x :: xs, k + 1, h => by
    have hx := h x List.mem_cons_self
    rw [List.take_succ_cons, List.flatten_cons, List.flatten_cons, flat_take k (fun y hy => h y (List.mem_cons_of_mem _ hy)), List.take_append, Nat.add_mul, Nat.one_mul]
    have h1 : x.take (k * es + es) = x := List.take_of_length_le (by omega)
    rw [h1, show k * es + es - x.length = k * es by omega]
theorem flat_drop : ∀ {xs : List (List α)} (k : Nat), (∀ x, x ∈ xs → x.length = es) → (xs.drop k).flatten = xs.flatten.drop (k * es)
  | [], k, _ => by simp
  | x :: xs, 0, h => by simp
  | x :: xs, k + 1, h => by
    have hx := h x List.mem_cons_self
    rw [List.drop_succ_cons, List.flatten_cons, flat_drop k (fun y hy => h y (List.mem_cons_of_mem _ hy)), List.drop_append, Nat.add_mul, Nat.one_mul]
    have h1 : x.drop (k * es + es) = [] := List.drop_eq_nil_of_le (by omega)
    rw [h1, show k * es + es - x.length = k * es by omega, List.nil_append]
theorem flat_get {xs : List (List α)} (h : ∀ x, x ∈ xs → x.length = es) {k : Nat} {x : List α} (hk : xs[k]? = some x) {j : Nat} (hj : j < es) : xs.flatten[k * es + j]? = x[j]? := by
  have h1 : (xs.drop k).flatten = xs.flatten.drop (k * es) := flat_drop k h
  have h2 : xs.flatten[k * es + j]? = (xs.flatten.drop (k * es))[j]? := by rw [List.getElem?_drop]
  rw [h2, ← h1]
  obtain ⟨hk', rfl⟩ := List.getElem?_eq_some_iff.1 hk
  rw [List.drop_eq_getElem_cons hk', List.flatten_cons, List.getElem?_append_left (by rw [h _ (List.getElem_mem hk')]; exact hj)]
theorem flat_row {xs : List (List α)} (h : ∀ x, x ∈ xs → x.length = es) {k : Nat} {x : List α} (hk : xs[k]? = some x) : (xs.flatten.drop (k * es)).take es = x := by
  have h1 : (xs.drop k).flatten = xs.flatten.drop (k * es) := flat_drop k h
  rw [← h1]
  obtain ⟨hk', rfl⟩ := List.getElem?_eq_some_iff.1 hk
  rw [List.drop_eq_getElem_cons hk', List.flatten_cons, List.take_append_of_le_length (by rw [h _ (List.getElem_mem hk')]; exact Nat.le_refl _), List.take_of_length_le (by rw [h _ (List.getElem_mem hk')]; exact Nat.le_refl _)]
theorem flat_set {xs : List (List α)} (h : ∀ x, x ∈ xs → x.length = es) {k : Nat} (hk : k < xs.length) {x : List α} (hx : x.length = es) : (xs.set k x).flatten = lay xs.flatten (k * es) x := by
  rw [List.set_eq_take_append_cons_drop, if_pos hk, List.flatten_append, List.flatten_cons, flat_take k h, flat_drop (k + 1) h, lay, hx, Nat.add_mul, Nat.one_mul, List.append_assoc]
theorem lay_len (cs : List α) (off : Nat) (ps : List α) (h : off + ps.length ≤ cs.length) : (lay cs off ps).length = cs.length := by
  simp only [lay, List.length_append, List.length_take, List.length_drop]; omega
theorem lay_get (cs : List α) (off : Nat) (ps : List α) (h : off + ps.length ≤ cs.length) (q : Nat) : (lay cs off ps)[q]? = if q < off then cs[q]? else if q < off + ps.length then ps[q - off]? else cs[q]? := by
  unfold lay
  split
  · rename_i hq
    rw [List.append_assoc, List.getElem?_append_left (by rw [List.length_take]; omega), List.getElem?_take, if_pos hq]
  · rename_i hq
    split
    · rename_i hq'
      rw [List.append_assoc, List.getElem?_append_right (by rw [List.length_take]; omega), List.length_take, Nat.min_eq_left (by omega), List.getElem?_append_left (by omega)]
    · rename_i hq'
      rw [List.getElem?_append_right (by rw [List.length_append, List.length_take]; omega), List.length_append, List.length_take, List.getElem?_drop]
      congr 1; omega
theorem part_len (ys : List α) (lo hi : Nat) (h : hi ≤ ys.length) : ((ys.take hi).drop lo).length = hi - lo := by rw [List.length_drop, List.length_take]; omega
theorem flat_rep (n : Nat) (z : List α) : ∀ x, x ∈ List.replicate n z → x.length = z.length := fun x hx => by rw [List.eq_of_mem_replicate hx]
end lists

section inv
variable {w : World} {σ : Sig} {F : Nat → Prop} {v : Value}
theorem RelL.iI {k : IntKind} {n : Int} (h : RelL w σ F (.i k n) v) : v = .int k n := by cases h with | fz h => cases h; rfl
theorem RelL.bI {x : Bool} (h : RelL w σ F (.b x) v) : v = .bool x := by cases h with | fz h => cases h; rfl
theorem RelL.sI {x : ByteArray} (h : RelL w σ F (.s x) v) : v = .string x := by cases h with | fz h => cases h; rfl
theorem RelL.empI (h : RelL w σ F .emp v) : ∃ A, v = .slice A 0 0 := by cases h with | fz h => cases h with | emp => exact ⟨_, rfl⟩
theorem RelL.froI {fl : Bool} {es : Nat} {xs : List (List AV)} (h : RelL w σ F (.fro fl es xs) v) : RelF w F (.fro fl es xs) v := by cases h with | fz h => exact h
theorem RelL.fptrI {cs : List AV} {j : Nat} (h : RelL w σ F (.fptr cs j) v) : RelF w F (.fptr cs j) v := by cases h with | fz h => exact h
theorem RelL.rowI {id : Nat} (h : RelL w σ F (.row id) v) : ∃ ℓ, σ id = some ℓ ∧ v = .slice ℓ.A ℓ.len ℓ.cap := by
  cases h with
  | fz h => cases h
  | row h => exact ⟨_, h, rfl⟩
theorem RelL.viewI {id lo hi : Nat} (h : RelL w σ F (.view id lo hi) v) : ∃ ℓ A c, σ id = some ℓ ∧ v = .slice A (hi - lo) c ∧ (lo = 0 → A = ℓ.A ∧ c = ℓ.cap) ∧ (lo < hi → A = ℓ.A.map (·.add (lo * ℓ.es))) ∧ hi - lo ≤ c := by
  cases h with
  | fz h => cases h
  | view h h1 h2 h3 => exact ⟨_, _, _, h, rfl, h1, h2, h3⟩
theorem RelL.pastI {id : Nat} (h : RelL w σ F (.past id) v) : ∃ ℓ A n c lo, σ id = some ℓ ∧ v = .slice A n c ∧ ℓ.len ≤ lo ∧ lo + n ≤ ℓ.cap ∧ (0 < n → A = ℓ.A.map (·.add (lo * ℓ.es))) := by
  cases h with
  | fz h => cases h
  | past h h1 h2 h3 => exact ⟨_, _, _, _, _, h, rfl, h1, h2, h3⟩
theorem RelL.eltI {id i j : Nat} (h : RelL w σ F (.elt id i j) v) : ∃ ℓ a, σ id = some ℓ ∧ ℓ.A = some a ∧ v = .pointer (some (a.add (i * ℓ.es + j))) := by
  cases h with
  | fz h => cases h
  | elt h h1 => exact ⟨_, _, h, h1, rfl⟩
theorem RelL.aggI {cs : List AV} (h : RelL w σ F (.agg cs) v) : ∃ us, v = .agg us ∧ us.size = cs.length ∧ (∀ u, u ∈ us → u.oneCell' = true) ∧ (∀ (k : Nat) u v, cs[k]? = some u → us[k]? = some v → RelL w σ F u v) := by
  cases h with
  | fz h => cases h
  | agg h h1 h2 => exact ⟨_, rfl, h, h1, h2⟩
theorem RelL.tupI {cs : List AV} (h : RelL w σ F (.tup cs) v) : ∃ us, v = .tuple us ∧ us.size = cs.length ∧ (∀ (k : Nat) u v, cs[k]? = some u → us[k]? = some v → RelL w σ F u v) := by
  cases h with
  | fz h => cases h
  | tup h h2 => exact ⟨_, rfl, h, h2⟩
theorem RelL.cloI {f : Nat} {cs : List AV} (h : RelL w σ F (.clo f cs) v) : ∃ us, v = .func (.func f) #[] us ∧ us.size = cs.length ∧ (∀ (k : Nat) u v, cs[k]? = some u → us[k]? = some v → RelL w σ F u v) := by
  cases h with
  | fz h => cases h
  | clo h h2 => exact ⟨_, rfl, h, h2⟩

/-- The cells of a value are the cells of the other. -/
theorem RelL.cellsL {x : AV} {cs : List AV} (h : RelL w σ F x v) (hc : x.cells = some cs) : CellsL w σ F cs v.cells := by
  have one : ∀ {x : AV} {v : Value}, RelL w σ F x v → v.oneCell' = true → v.cells = #[v] → CellsL w σ F [x] v.cells := by
    intro x v h h1 h2
    rw [h2]
    refine ⟨rfl, fun k u hk => ?_⟩
    cases k with
    | zero => obtain rfl := Option.some.inj hk; exact ⟨v, rfl, h, h1⟩
    | succ k => simp at hk
  cases h with
  | fz h =>
    rw [h.cells] at hc; obtain rfl := Option.some.inj hc
    exact one (.fz h) h.one (by cases h <;> rfl)
  | row h => obtain rfl := Option.some.inj hc; exact one (.row h) rfl rfl
  | view h h1 h2 h3 => obtain rfl := Option.some.inj hc; exact one (.view h h1 h2 h3) rfl rfl
  | past h h1 h2 h3 => obtain rfl := Option.some.inj hc; exact one (.past h h1 h2 h3) rfl rfl
  | elt h h1 => obtain rfl := Option.some.inj hc; exact one (.elt h h1) rfl rfl
  | agg h h1 h2 =>
    obtain rfl := Option.some.inj hc
    refine ⟨h, fun k u hk => ?_⟩
    have hlt : k < _ := (List.getElem?_eq_some_iff.1 hk).1
    rw [← h] at hlt
    exact ⟨_, Array.getElem?_eq_getElem hlt, h2 k u _ hk (Array.getElem?_eq_getElem hlt), h1 _ (Array.getElem_mem hlt)⟩
  | tup => simp [AV.cells] at hc
  | clo h h2 => obtain rfl := Option.some.inj hc; exact one (.clo h h2) rfl rfl
  | anyb => obtain rfl := Option.some.inj hc; exact one .anyb rfl rfl
  | junk => simp [AV.cells] at hc

/-- The elements of a slice, read. -/
structure Reads' (w : World) (F : Nat → Prop) (es : Nat) (xs : List (List AV)) (A : Option Addr) (vs : List Value) : Prop where
  es : ∀ x, x ∈ xs → x.length = es
  len : vs.length = xs.flatten.length
  at_ : xs ≠ [] → ∃ a, A = some a ∧ ∀ (q : Nat) v, vs[q]? = some v → w.cell? (a.add q) = some v
  rel : ∀ (q : Nat) u v, xs.flatten[q]? = some u → vs[q]? = some v → RelF w F u v

theorem Reads'.part {es : Nat} {xs : List (List AV)} {A A' : Option Addr} {vs : List Value} (h : Reads' w F es xs A vs) (lo hi : Nat) (h1 : lo ≤ hi) (h2 : hi ≤ xs.length)
    (hA : lo < hi → A' = A.map (·.add (lo * es))) : Reads' w F es ((xs.take hi).drop lo) A' ((vs.take (hi * es)).drop (lo * es)) := by
  have hflat : ((xs.take hi).drop lo).flatten = (xs.flatten.take (hi * es)).drop (lo * es) := by
    rw [flat_drop lo (fun x hx => h.es x (List.mem_of_mem_take hx)), flat_take hi h.es]
  refine ⟨fun x hx => h.es x (List.mem_of_mem_take (List.mem_of_mem_drop hx)), ?_, fun hne => ?_, fun q u v hu hv => ?_⟩
  · rw [hflat, List.length_drop, List.length_drop, List.length_take, List.length_take, h.len]
  · have hlt : lo < hi := by
      rcases Nat.lt_or_ge lo hi with hlt | hge
      · exact hlt
      · exfalso; apply hne; apply List.drop_eq_nil_of_le; rw [List.length_take]; omega
    obtain ⟨a, rfl, hcell⟩ := h.at_ (fun e => by subst e; simp at h2; omega)
    refine ⟨a.add (lo * es), by rw [hA hlt]; rfl, fun q v hq => ?_⟩
    rw [addr_add_add]
    refine hcell _ v ?_
    rw [List.getElem?_drop, List.getElem?_take] at hq
    split at hq
    · exact hq
    · cases hq
  · rw [hflat] at hu
    rw [List.getElem?_drop, List.getElem?_take] at hu hv
    split at hu
    · rename_i hc; rw [if_pos hc] at hv; exact h.rel _ u v hu hv
    · cases hu

theorem RelF.reads {fl : Bool} {es : Nat} {xs : List (List AV)} (h : RelF w F (.fro fl es xs) v) : ∃ A c vs, v = .slice A xs.length c ∧ xs.length ≤ c ∧ Reads' w (FF fl F) es xs A vs ∧ (xs ≠ [] → ∃ a, A = some a ∧ F a.block) := by
  cases h with
  | fro vs hes hc hl hA hv =>
    exact ⟨_, _, vs, rfl, hc, ⟨hes, hl, fun hx => let ⟨a, h1, _, h3⟩ := hA hx; ⟨a, h1, h3⟩, hv⟩, fun hx => let ⟨a, h1, h2, _⟩ := hA hx; ⟨a, h1, h2⟩⟩
theorem Reads'.fro {fl : Bool} {es : Nat} {xs : List (List AV)} {A : Option Addr} {c : Nat} {vs : List Value} (h : Reads' w (FF fl F) es xs A vs) (hc : xs.length ≤ c) (hF : xs ≠ [] → ∃ a, A = some a ∧ F a.block) : RelF w F (.fro fl es xs) (.slice A xs.length c) :=
  .fro vs h.es hc h.len (fun hx => by
    obtain ⟨a, h1, h2⟩ := h.at_ hx
    obtain ⟨a', h1', h3⟩ := hF hx
    rw [h1] at h1'; obtain rfl := Option.some.inj h1'
    exact ⟨a, h1, h3, h2⟩) h.rel

variable {C : Ctx} {m : Mem}
/-- A live row, read. -/
theorem Inv.readRow (h : Inv C w σ F m) {id : Nat} {fl : Bool} {es mc : Nat} {xs : List (List AV)} (hm : m id = some (.row fl es mc xs)) : ∃ ℓ vs, σ id = some ℓ ∧ ℓ.es = es ∧ ℓ.len = xs.length ∧ mc ≤ ℓ.cap ∧ xs.length ≤ ℓ.cap ∧ ℓ.cap ≤ maxLen ∧ Reads' w (FF fl F) es xs ℓ.A vs ∧
    (0 < ℓ.cap → ∃ g t arr, ℓ.A = some ⟨g, 0, none⟩ ∧ w.heap[g]? = some (.cells arr t (0, 0)) ∧ arr.size = ℓ.cap * es ∧ Ours C F g ∧ vs = arr.toList.take (xs.length * es)) := by
  obtain ⟨ℓ, h1, h2, h3, h4, h5, h6, h7, h8⟩ := h.objs id _ hm
  have hlen := flat_len h7
  rcases Nat.eq_zero_or_pos ℓ.cap with h0 | h0
  · have hx : xs = [] := List.eq_nil_of_length_eq_zero (by omega)
    subst hx
    exact ⟨ℓ, [], h1, h2, h3, h4, h5, h6, ⟨h7, rfl, fun hx => (hx rfl).elim, fun q u v hu => by simp at hu⟩, fun h => by omega⟩
  · obtain ⟨g, t, arr, g1, g2, g3, g4, g5⟩ := h8 h0
    have hsz : xs.length * es ≤ arr.size := by rw [g3]; exact Nat.mul_le_mul_right _ h5
    refine ⟨ℓ, arr.toList.take (xs.length * es), h1, h2, h3, h4, h5, h6, ⟨h7, ?_, fun hx => ⟨_, g1, fun q v hq => ?_⟩, fun q u v hu hv => ?_⟩, fun _ => ⟨g, t, arr, g1, g2, g3, g5, rfl⟩⟩
    · rw [List.length_take, Array.length_toList, hlen]; exact Nat.min_eq_left hsz
    · rw [addr_add_plain, cell_of_row w g q arr t (0, 0) g2]
      rw [List.getElem?_take] at hq
      split at hq
      · simpa using hq
      · cases hq
    · obtain ⟨v', h1, h2⟩ := g4 q u hu
      rw [List.getElem?_take] at hv
      split at hv
      · have : arr[q]? = some v := by simpa using hv
        rw [this] at h1; obtain rfl := Option.some.inj h1; exact h2
      · cases hv
theorem Inv.readFrow (h : Inv C w σ F m) {id : Nat} {fl : Bool} {es : Nat} {xs : List (List AV)} (hm : m id = some (.frow fl es xs)) : ∃ ℓ vs, σ id = some ℓ ∧ ℓ.es = es ∧ ℓ.len = xs.length ∧ xs.length ≤ ℓ.cap ∧ Reads' w (FF fl F) es xs ℓ.A vs ∧ (xs ≠ [] → ∃ a, ℓ.A = some a ∧ F a.block) := by
  obtain ⟨ℓ, h1, h2, h3, h4⟩ := h.objs id _ hm
  obtain ⟨A, c, vs, h5, h6, h7, h8⟩ := h4.reads
  simp only [Value.slice.injEq] at h5
  obtain ⟨rfl, _, rfl⟩ := h5
  exact ⟨ℓ, vs, h1, h2, h3, h6, h7, h8⟩

/-- 'sliceOf' reads a slice. -/
theorem Inv.sliceOf_ok (h : Inv C w σ F m) {es : Nat} {x : AV} {fl : Bool} {xs : List (List AV)} (hs : sliceOf m es x = some (fl, xs)) (hx : RelL w σ F x v) : ∃ A c vs, v = .slice A xs.length c ∧ xs.length ≤ c ∧ Reads' w (FF fl F) es xs A vs := by
  cases x with
  | emp =>
    obtain ⟨A, rfl⟩ := hx.empI
    simp only [sliceOf, Option.some.injEq, Prod.mk.injEq] at hs
    obtain ⟨rfl, rfl⟩ := hs
    exact ⟨A, 0, [], rfl, Nat.le_refl _, ⟨by simp, rfl, fun h => (h rfl).elim, fun q u v hu => by simp at hu⟩⟩
  | fro fl' es' ys =>
    simp only [sliceOf] at hs
    split at hs
    · rename_i he
      subst he
      obtain ⟨rfl, rfl⟩ : fl' = fl ∧ ys = xs := by simpa using hs
      obtain ⟨A, c, vs, h1, h2, h3, _⟩ := hx.froI.reads
      exact ⟨A, c, vs, h1, h2, h3⟩
    · cases hs
  | row id =>
    obtain ⟨ℓ, hl, rfl⟩ := hx.rowI
    simp only [sliceOf] at hs
    split at hs
    · rename_i fl' es' mc ys hm
      split at hs
      · rename_i he
        subst he
        obtain ⟨rfl, rfl⟩ : fl' = fl ∧ ys = xs := by simpa using hs
        obtain ⟨ℓ', vs, h1, h2, h3, h4, h5, h6, h7, _⟩ := h.readRow hm
        rw [hl] at h1; obtain rfl := Option.some.inj h1
        exact ⟨_, _, vs, by rw [h3], h5, h7⟩
      · cases hs
    · rename_i fl' es' ys hm
      split at hs
      · rename_i he
        subst he
        obtain ⟨rfl, rfl⟩ : fl' = fl ∧ ys = xs := by simpa using hs
        obtain ⟨ℓ', vs, h1, h2, h3, h5, h7, _⟩ := h.readFrow hm
        rw [hl] at h1; obtain rfl := Option.some.inj h1
        exact ⟨_, _, vs, by rw [h3], h5, h7⟩
      · cases hs
    · cases hs
  | view id lo hi =>
    obtain ⟨ℓ, A, c, hl, rfl, hA0, hA, hc⟩ := hx.viewI
    simp only [sliceOf] at hs
    split at hs
    · rename_i fl' es' mc ys hm
      split at hs
      · rename_i he
        obtain ⟨rfl, h1, h2⟩ := he
        obtain ⟨rfl, rfl⟩ : fl' = fl ∧ (ys.take hi).drop lo = xs := by simpa using hs
        obtain ⟨ℓ', vs, g1, g2, g3, g4, g5, g6, g7, _⟩ := h.readRow hm
        rw [hl] at g1; obtain rfl := Option.some.inj g1
        have hlen := part_len ys lo hi h2
        exact ⟨A, c, _, by rw [hlen], by rw [hlen]; exact hc, g7.part lo hi h1 h2 (fun hlt => by rw [hA hlt, g2])⟩
      · cases hs
    · rename_i fl' es' ys hm
      split at hs
      · rename_i he
        obtain ⟨rfl, h1, h2⟩ := he
        obtain ⟨rfl, rfl⟩ : fl' = fl ∧ (ys.take hi).drop lo = xs := by simpa using hs
        obtain ⟨ℓ', vs, g1, g2, g3, g5, g7, _⟩ := h.readFrow hm
        rw [hl] at g1; obtain rfl := Option.some.inj g1
        have hlen := part_len ys lo hi h2
        exact ⟨A, c, _, by rw [hlen], by rw [hlen]; exact hc, g7.part lo hi h1 h2 (fun hlt => by rw [hA hlt, g2])⟩
      · cases hs
    · cases hs
  | _ => simp [sliceOf] at hs
theorem Inv.lenOf_ok (h : Inv C w σ F m) {x : AV} {n : Nat} (hs : lenOf m x = some n) (hx : RelL w σ F x v) : ∃ A c, v = .slice A n c := by
  cases x with
  | emp =>
    obtain ⟨A, rfl⟩ := hx.empI
    simp only [lenOf, Option.some.injEq] at hs
    exact ⟨A, 0, by rw [← hs]⟩
  | fro fl' es' ys =>
    simp only [lenOf, Option.some.injEq] at hs
    obtain ⟨A, c, vs, h1, h2, h3, _⟩ := hx.froI.reads
    exact ⟨A, c, by rw [h1, hs]⟩
  | row id =>
    obtain ⟨ℓ, hl, rfl⟩ := hx.rowI
    simp only [lenOf] at hs
    split at hs
    · rename_i fl' es' mc ys hm
      obtain ⟨ℓ', vs, h1, h2, h3, h4, h5, h6, h7, _⟩ := h.readRow hm
      rw [hl] at h1; obtain rfl := Option.some.inj h1
      exact ⟨_, _, by rw [h3, Option.some.inj hs]⟩
    · rename_i fl' es' ys hm
      obtain ⟨ℓ', vs, h1, h2, h3, h5, h7, _⟩ := h.readFrow hm
      rw [hl] at h1; obtain rfl := Option.some.inj h1
      exact ⟨_, _, by rw [h3, Option.some.inj hs]⟩
    · cases hs
  | view id lo hi =>
    obtain ⟨ℓ, A, c, hl, rfl, hA0, hA, hc⟩ := hx.viewI
    simp only [lenOf] at hs
    split at hs
    · exact ⟨A, c, by rw [Option.some.inj hs]⟩
    · cases hs
  | _ => simp [lenOf] at hs

/-- Cells that a pointer leads to. -/
theorem Inv.ptrCells_ok (h : Inv C w σ F m) {x : AV} {cs : List AV} {j : Nat} (hp : ptrCells m x = some (cs, j)) (hx : RelL w σ F x v) : ∃ (p : Addr) (vs : List Value), v = .pointer (some (p.add j)) ∧ vs.length = cs.length ∧ (∀ (q : Nat) u, vs[q]? = some u → w.cell? (p.add q) = some u) ∧
    (∀ (q : Nat) u v, cs[q]? = some u → vs[q]? = some v → RelL w σ F u v ∧ v.oneCell' = true) := by
  have rowcase : ∀ {id i j' : Nat} {ys : List (List AV)} {fl : Bool} {es : Nat} {ℓ : Loc} {a : Addr} {vs : List Value} {x : List AV}, ys[i]? = some x → ℓ.es = es → ℓ.A = some a → Reads' w (FF fl F) es ys ℓ.A vs →
      ∃ (p : Addr) (us : List Value), (Value.pointer (some (a.add (i * ℓ.es + j'))) = .pointer (some (p.add j'))) ∧ us.length = x.length ∧ (∀ (q : Nat) u, us[q]? = some u → w.cell? (p.add q) = some u) ∧
      (∀ (q : Nat) u v, x[q]? = some u → us[q]? = some v → RelL w σ F u v ∧ v.oneCell' = true) := by
    intro id i j' ys fl es ℓ a vs x hi he hA hr
    subst he
    have hx := hr.es x (List.mem_of_getElem? hi)
    have hilt : i < ys.length := (List.getElem?_eq_some_iff.1 hi).1
    obtain ⟨a', ha', hcell⟩ := hr.at_ (fun e => by subst e; simp at hilt)
    rw [hA] at ha'; obtain rfl := Option.some.inj ha'
    have hfl := flat_len hr.es
    have hle : i * ℓ.es + ℓ.es ≤ ys.length * ℓ.es := by rw [← Nat.succ_mul]; exact Nat.mul_le_mul_right _ hilt
    refine ⟨a.add (i * ℓ.es), (vs.drop (i * ℓ.es)).take ℓ.es, by rw [addr_add_add], ?_, fun q u hq => ?_, fun q u v hu hv => ?_⟩
    · rw [List.length_take, List.length_drop, hr.len, hfl, hx]; omega
    · rw [addr_add_add]
      refine hcell _ u ?_
      rw [List.getElem?_take] at hq
      split at hq
      · rwa [List.getElem?_drop] at hq
      · cases hq
    · rw [List.getElem?_take] at hv
      split at hv
      · rename_i hq
        rw [List.getElem?_drop] at hv
        rw [← flat_get hr.es hi hq] at hu
        have := hr.rel _ u v hu hv
        refine ⟨.fz ?_, this.one⟩
        refine this.mono ?_
        cases fl
        · exact Mono.refl _ _
        · exact mono_noF _ _ _
      · cases hv
  cases x with
  | elt id i j' =>
    obtain ⟨ℓ, a, hl, hA, rfl⟩ := hx.eltI
    simp only [ptrCells] at hp
    split at hp
    · rename_i cs' hm
      split at hp
      · rename_i hi
        subst hi
        obtain ⟨rfl, rfl⟩ : cs' = cs ∧ j' = j := by simpa using hp
        obtain ⟨ℓ', g, t, arr, h1, h2, h3, h4, h5⟩ := h.objs id _ hm
        rw [hl] at h1; obtain rfl := Option.some.inj h1
        rw [hA] at h2; obtain rfl := Option.some.inj h2
        refine ⟨⟨g, 0, none⟩, arr.toList, by rw [Nat.zero_mul, Nat.zero_add], by rw [Array.length_toList, h4.1], fun q u hq => ?_, fun q u v hu hv => ?_⟩
        · rw [addr_add_plain, cell_of_row w g q arr t (0, 0) h3]; simpa using hq
        · obtain ⟨v', g1, g2, g3⟩ := h4.2 q u hu
          have : arr[q]? = some v := by simpa using hv
          rw [this] at g1; obtain rfl := Option.some.inj g1
          exact ⟨g2, g3⟩
      · cases hp
    · rename_i fl es mc ys hm
      obtain ⟨x, hi, hxj⟩ := Option.map_eq_some_iff.1 hp
      obtain ⟨rfl, rfl⟩ : x = cs ∧ j' = j := by simpa using hxj
      obtain ⟨ℓ', vs, h1, h2, h3, h4, h5, h6, h7, _⟩ := h.readRow hm
      rw [hl] at h1; obtain rfl := Option.some.inj h1
      exact rowcase (id := id) hi h2 hA h7
    · rename_i fl es ys hm
      obtain ⟨x, hi, hxj⟩ := Option.map_eq_some_iff.1 hp
      obtain ⟨rfl, rfl⟩ : x = cs ∧ j' = j := by simpa using hxj
      obtain ⟨ℓ', vs, h1, h2, h3, h5, h7, _⟩ := h.readFrow hm
      rw [hl] at h1; obtain rfl := Option.some.inj h1
      exact rowcase (id := id) hi h2 hA h7
    · cases hp
  | fptr cs' j' =>
    obtain ⟨rfl, rfl⟩ : cs' = cs ∧ j' = j := by simpa [ptrCells] using hp
    cases hx.fptrI with
    | fptr vs hl hF hA hv => exact ⟨_, vs, rfl, hl, hA, fun q u v hu hv' => ⟨.fz (hv q u v hu hv'), (hv q u v hu hv').one⟩⟩
  | _ => simp [ptrCells] at hp
end inv
end Go.Eng
