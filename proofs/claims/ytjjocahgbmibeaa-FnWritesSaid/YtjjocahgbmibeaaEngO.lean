/- Calls' borders: what goes out, what comes in. -/
import Derived.Test.YtjjocahgbmibeaaEngN
namespace Go.Eng
set_option linter.unusedVariables false
set_option linter.unusedSimpArgs false

/-- A cell at a border; the blocks that it owns. -/
inductive BdC (w : World) (F : Nat → Prop) : AV → Value → List Nat → Prop where
  | fz {a v} : RelF w F a v → BdC w F a v []
  | ownE {fl es A} : BdC w F (.own fl es 0 []) (.slice A 0 0) []
  | own {fl es mc xs g t cap} {arr : Array Value} : w.heap[g]? = some (.cells arr t (0, 0)) → arr.size = cap * es → xs.length ≤ cap → mc ≤ cap → cap ≤ maxLen → 0 < cap → (∀ x, x ∈ xs → x.length = es) → RowsF w (FF fl F) xs arr →
      BdC w F (.own fl es mc xs) (.slice (some ⟨g, 0, none⟩) xs.length cap) [g]
  | junk {v : Value} : v.oneCell' = true → BdC w F .junk v []
inductive BdCs (w : World) (F : Nat → Prop) : List AV → List Value → List Nat → Prop where
  | nil : BdCs w F [] [] []
  | cons {a v L as vs M} : BdC w F a v L → BdCs w F as vs M → BdCs w F (a :: as) (v :: vs) (L ++ M)
inductive BdV (w : World) (F : Nat → Prop) : AV → Value → List Nat → Prop where
  | c {a v L} : BdC w F a v L → BdV w F a v L
  | agg {cs L} {us : Array Value} : BdCs w F cs us.toList L → BdV w F (.agg cs) (.agg us) L
  | obx {cs j g t L} {arr : Array Value} : w.heap[g]? = some (.cells arr t (0, 0)) → BdCs w F cs arr.toList L → BdV w F (.obx cs j) (.pointer (some ⟨g, j, none⟩)) (g :: L)
  | clo {f cs} {us : Array Value} : us.size = cs.length → (∀ (k : Nat) u v, cs[k]? = some u → us[k]? = some v → RelF w F u v) → BdV w F (.clo f cs) (.func (.func f) #[] us) []
  | junk {v} : BdV w F .junk v []
inductive BdVs (w : World) (F : Nat → Prop) : List AV → List Value → List Nat → Prop where
  | nil : BdVs w F [] [] []
  | cons {a v L as vs M} : BdV w F a v L → BdVs w F as vs M → BdVs w F (a :: as) (v :: vs) (L ++ M)
inductive BdR (w : World) (F : Nat → Prop) : AV → Value → List Nat → Prop where
  | v {a v L} : BdV w F a v L → BdR w F a v L
  | tup {cs L} {us : Array Value} : BdVs w F cs us.toList L → BdR w F (.tup cs) (.tuple us) L

def Free (σ : Sig) (m : Mem) (g : Nat) : Prop := ∀ id o, m id = some o → ¬ Owns σ id o g
/-- Blocks that are the frame's to give: nobody's now. -/
structure Given (C : Ctx) (w : World) (σ : Sig) (F : Nat → Prop) (m : Mem) (L : List Nat) : Prop where
  nodup : L.Nodup
  ours : ∀ g, g ∈ L → Ours C F g
  lt : ∀ g, g ∈ L → g < w.heap.size
  free : ∀ g, g ∈ L → Free σ m g

section
variable {C : Ctx} {w : World} {σ σ' : Sig} {F : Nat → Prop} {m : Mem}
theorem given_nil : Given C w σ F m [] := ⟨List.nodup_nil, fun g hg => by simp at hg, fun g hg => by simp at hg, fun g hg => by simp at hg⟩

/-- What a giving leaves: objects as they were, or dead. -/
def Less (m m' : Mem) : Prop := ∀ id, m' id = m id ∨ m' id = some .dead
theorem Less.refl (m : Mem) : Less m m := fun _ => .inl rfl
theorem Less.trans {a b c : Mem} (h : Less a b) (k : Less b c) : Less a c := fun id => by
  rcases k id with e | e
  · rw [e]; exact h id
  · exact .inr e
theorem Less.free {m m' : Mem} {g : Nat} (h : Less m m') (hf : Free σ m g) : Free σ m' g := fun id o ho => by
  rcases h id with e | e
  · exact hf id o (e ▸ ho)
  · rw [e] at ho; obtain rfl := Option.some.inj ho; exact fun hg => hg
theorem less_kill (m : Mem) (id : Nat) : Less m (setM m id .dead) := fun k => by
  by_cases hk : k = id
  · subst hk; exact .inr (setM_same _ _ _)
  · exact .inl (setM_other _ _ hk)

/-- What goes out. -/
structure Out (C : Ctx) (w : World) (σ : Sig) (F : Nat → Prop) (m m' : Mem) (L : List Nat) : Prop where
  inv : Inv C w σ F m'
  less : Less m m'
  given : Given C w σ F m' L
  was : ∀ g, g ∈ L → ∃ id o, m id = some o ∧ Owns σ id o g
theorem Out.refl (h : Inv C w σ F m) : Out C w σ F m m [] := ⟨h, Less.refl m, given_nil, fun g hg => by simp at hg⟩
theorem Out.append {m1 m2 : Mem} {L M : List Nat} (h : Out C w σ F m m1 L) (k : Out C w σ F m1 m2 M) : Out C w σ F m m2 (L ++ M) := by
  refine ⟨k.inv, h.less.trans k.less, ⟨?_, fun g hg => ?_, fun g hg => ?_, fun g hg => ?_⟩, fun g hg => ?_⟩
  · refine List.nodup_append.2 ⟨h.given.nodup, k.given.nodup, fun a ha b hb e => ?_⟩
    subst e
    obtain ⟨id, o, ho, hg⟩ := k.was a hb
    exact h.given.free a ha id o ho hg
  · rcases List.mem_append.1 hg with hg | hg
    · exact h.given.ours g hg
    · exact k.given.ours g hg
  · rcases List.mem_append.1 hg with hg | hg
    · exact h.given.lt g hg
    · exact k.given.lt g hg
  · rcases List.mem_append.1 hg with hg | hg
    · exact k.less.free (h.given.free g hg)
    · exact k.given.free g hg
  · rcases List.mem_append.1 hg with hg | hg
    · exact h.was g hg
    · obtain ⟨id, o, ho, hg⟩ := k.was g hg
      rcases h.less id with e | e
      · exact ⟨id, o, e ▸ ho, hg⟩
      · rw [e] at ho; obtain rfl := Option.some.inj ho; exact hg.elim
/-- One object goes out. -/
theorem out_one (h : Inv C w σ F m) {id : Nat} {o : AObj} {g : Nat} (hm : m id = some o) (hg : Owns σ id o g) : Out C w σ F m (setM m id .dead) [g] := by
  have hlt := hg.lt (h.objs id o hm)
  refine ⟨h.kill id, less_kill m id, ⟨by simp, fun k hk => ?_, fun k hk => ?_, fun k hk => ?_⟩, fun k hk => ?_⟩
  · obtain rfl := List.mem_singleton.1 hk; exact hlt.2
  · obtain rfl := List.mem_singleton.1 hk; exact hlt.1
  · obtain rfl := List.mem_singleton.1 hk
    intro id' o' ho' hg'
    by_cases hid : id' = id
    · subst hid; rw [setM_same] at ho'; obtain rfl := Option.some.inj ho'; exact hg'
    · rw [setM_other _ _ hid] at ho'
      exact hid (h.apart id' id o' o k ho' hm hg' hg)
  · obtain rfl := List.mem_singleton.1 hk; exact ⟨id, o, hm, hg⟩

/-- A cell goes out. -/
theorem expCell_ok (h : Inv C w σ F m) {c p : AV} {u : Ups} {v : Value} (he : expCell m c = some (p, u)) (hc : RelL w σ F c v) (h1 : v.oneCell' = true) : ∃ L, BdC w F p v L ∧ Out C w σ F m (putM m u) L := by
  have pl : ∀ {c : AV}, (if c.plain = true then some (c, ([] : Ups)) else none) = some (p, u) → RelL w σ F c v → ∃ L, BdC w F p v L ∧ Out C w σ F m (putM m u) L := by
    intro c he hc
    split at he
    · rename_i hp
      obtain ⟨rfl, rfl⟩ : c = p ∧ ([] : Ups) = u := by simpa using he
      exact ⟨[], .fz (hc.plain hp), Out.refl h⟩
    · cases he
  have jk : some (AV.junk, ([] : Ups)) = some (p, u) → ∃ L, BdC w F p v L ∧ Out C w σ F m (putM m u) L := by
    intro he
    obtain ⟨rfl, rfl⟩ : AV.junk = p ∧ ([] : Ups) = u := by simpa using he
    exact ⟨[], .junk h1, Out.refl h⟩
  have live : ∀ {id : Nat} {ℓ : Loc} {fl : Bool} {es mc : Nat} {xs : List (List AV)} (k : Nat), m id = some (.row fl es mc xs) → σ id = some ℓ → k ≤ xs.length → ∃ L, BdC w F (.own fl es mc (xs.take k)) (.slice ℓ.A k ℓ.cap) L ∧ Out C w σ F m (setM m id .dead) L := by
    intro id ℓ fl es mc xs k hm hl hk
    obtain ⟨ℓ', g1, g2, g3, g4, g5, g6, g7, g8⟩ := h.objs id _ hm
    rw [hl] at g1; obtain rfl := Option.some.inj g1
    have hlen : (xs.take k).length = k := by rw [List.length_take]; omega
    rcases Nat.eq_zero_or_pos ℓ.cap with h0 | h0
    · have hx : xs = [] := List.eq_nil_of_length_eq_zero (by omega)
      have hmc : mc = 0 := by omega
      subst hx; subst hmc
      have hk0 : k = 0 := by simpa using hk
      subst hk0
      rw [h0]
      refine ⟨[], .ownE, h.kill id, less_kill m id, given_nil, fun g hg => by simp at hg⟩
    · obtain ⟨g, t, arr, i1, i2, i3, i4, i5⟩ := g8 h0
      have hown : Owns σ id (.row fl es mc xs) g := ⟨ℓ, hl, i1, h0⟩
      refine ⟨[g], ?_, out_one h hm hown⟩
      rw [i1]
      have := BdC.own (w := w) (F := F) (fl := fl) (xs := xs.take k) i2 i3 (by rw [hlen]; omega) g4 g6 h0 (fun x hx => g7 x (List.mem_of_mem_take hx)) (fun q u hu => by
        rw [flat_take k g7, List.getElem?_take] at hu
        split at hu
        · exact i4 q u hu
        · cases hu)
      rw [hlen] at this
      exact this
  cases c with
  | row id =>
    obtain ⟨ℓ, hl, rfl⟩ := hc.rowI
    simp only [expCell] at he
    split at he
    · rename_i fl es mc xs hm
      obtain ⟨rfl, rfl⟩ : AV.own fl es mc xs = p ∧ [(id, AObj.dead)] = u := by simpa using he
      obtain ⟨ℓ', g1, g2, g3, _⟩ := h.objs id _ hm
      rw [hl] at g1; obtain rfl := Option.some.inj g1
      have := live xs.length hm hl (Nat.le_refl _)
      rw [List.take_length] at this
      rw [g3]; exact this
    · rename_i fl es xs hm
      obtain ⟨rfl, rfl⟩ : AV.fro fl es xs = p ∧ ([] : Ups) = u := by simpa using he
      obtain ⟨ℓ', g1, g2, g3, g4⟩ := h.objs id _ hm
      rw [hl] at g1; obtain rfl := Option.some.inj g1
      exact ⟨[], .fz g4, Out.refl h⟩
    · exact jk he
  | view id lo hi =>
    obtain ⟨ℓ, A, cp, hl, rfl, hA0, hA1, hcp⟩ := hc.viewI
    simp only [expCell] at he
    split at he
    · rename_i fl es mc xs hm
      split at he
      case isFalse => cases he
      rename_i hb
      obtain ⟨rfl, rfl⟩ : AV.own fl es mc (xs.take hi) = p ∧ [(id, AObj.dead)] = u := by simpa using he
      obtain ⟨rfl, hb⟩ := hb
      obtain ⟨rfl, rfl⟩ := hA0 rfl
      exact live hi hm hl hb
    · rename_i fl es xs hm
      split at he
      case isFalse => cases he
      rename_i hb
      obtain ⟨rfl, rfl⟩ : AV.fro fl es ((xs.take hi).drop lo) = p ∧ ([] : Ups) = u := by simpa using he
      have hf : fzCell m (.view id lo hi) = some (.fro fl es ((xs.take hi).drop lo), []) := by
        simp only [fzCell, hm]; rw [if_pos hb]
      obtain ⟨F', i1, i2, i3⟩ := h.fzCell_ok hf hc
      refine ⟨[], .fz ?_, Out.refl h⟩
      -- frozen already: the very blocks of F
      obtain ⟨ℓ', vs, g1, g2, g3, g5, g7, g8⟩ := h.readFrow hm
      rw [hl] at g1; obtain rfl := Option.some.inj g1
      have hlen := part_len xs lo hi hb.2
      have := (g7.part lo hi hb.1 hb.2 (A' := A) (fun hlt => by rw [hA1 hlt, g2])).fro (c := cp) (by rw [hlen]; exact hcp) (fun hne => by
        have hlt : lo < hi := by
          rcases Nat.lt_or_ge lo hi with hlt | hge
          · exact hlt
          · exfalso; apply hne; apply List.drop_eq_nil_of_le; rw [List.length_take]; omega
        obtain ⟨ad, ha, hF⟩ := g8 (fun e => by rw [e] at hb; simp at hb; omega)
        exact ⟨ad.add (lo * es), by rw [hA1 hlt, g2, ha]; rfl, by rw [addr_add_block]; exact hF⟩)
      rwa [hlen] at this
    · exact jk he
  | junk => exact jk he
  | i => exact pl (c := AV.i _ _) he hc
  | b => exact pl (c := AV.b _) he hc
  | s => exact pl (c := AV.s _) he hc
  | emp => exact pl (c := AV.emp) he hc
  | fro => exact pl (c := AV.fro _ _ _) he hc
  | fptr => exact pl (c := AV.fptr _ _) he hc
  | _ => simp [expCell, AV.plain] at he
end
theorem expCells_ok {C : Ctx} {w : World} {σ : Sig} {F : Nat → Prop} : ∀ {cs ps : List AV} {u : Ups} {vs : List Value} {m : Mem}, Inv C w σ F m → expCells m cs = some (ps, u) → vs.length = cs.length →
    (∀ (k : Nat) c v, cs[k]? = some c → vs[k]? = some v → RelL w σ F c v ∧ v.oneCell' = true) → ∃ L, BdCs w F ps vs L ∧ Out C w σ F m (putM m u) L
  | [], ps, u, vs, m, h, he, hl, hr => by
    obtain ⟨rfl, rfl⟩ : ([] : List AV) = ps ∧ ([] : Ups) = u := by simpa [expCells] using he
    obtain rfl : vs = [] := List.eq_nil_of_length_eq_zero (by simpa using hl)
    exact ⟨[], .nil, Out.refl h⟩
  | c :: cs, ps, u, [], m, h, he, hl, hr => by simp at hl
  | c :: cs, ps, u, v :: vs, m, h, he, hl, hr => by
    simp only [expCells, Option.bind_eq_some_iff] at he
    obtain ⟨p, hp, q, hq, he⟩ := he
    obtain ⟨rfl, rfl⟩ : p.1 :: q.1 = ps ∧ p.2 ++ q.2 = u := by simpa using he
    obtain ⟨L, b1, o1⟩ := expCell_ok h (p := p.1) (u := p.2) hp (hr 0 c v rfl rfl).1 (hr 0 c v rfl rfl).2
    obtain ⟨M, b2, o2⟩ := expCells_ok (vs := vs) o1.inv (ps := q.1) (u := q.2) hq (by simpa using hl) (fun k c v hk hv => hr (k + 1) c v hk hv)
    exact ⟨L ++ M, .cons b1 b2, by rw [putM_append]; exact o1.append o2⟩
theorem expPtr_ok {C : Ctx} {w : World} {σ : Sig} {F : Nat → Prop} {m : Mem} (h : Inv C w σ F m) {c p : AV} {u : Ups} {v : Value} (he : expPtr m c = some (p, u)) (hc : RelL w σ F c v) : ∃ L, BdV w F p v L ∧ Out C w σ F m (putM m u) L := by
  have cell : ∀ {c : AV}, c ≠ .junk → (∀ i j k, c ≠ .elt i j k) → (∀ cs, c ≠ .agg cs) → (∀ cs, c ≠ .tup cs) → expCell m c = some (p, u) → RelL w σ F c v → ∃ L, BdV w F p v L ∧ Out C w σ F m (putM m u) L := by
    intro c n1 n2 n3 n4 he hc
    have h1 : v.oneCell' = true := by
      cases hc with
      | fz h => exact h.one
      | agg => exact (n3 _ rfl).elim
      | tup => exact (n4 _ rfl).elim
      | junk => exact (n1 rfl).elim
      | _ => rfl
    obtain ⟨L, b, o⟩ := expCell_ok h he hc h1
    exact ⟨L, .c b, o⟩
  cases c with
  | elt id i j =>
    obtain ⟨ℓ, ad, hl, hA, rfl⟩ := hc.eltI
    simp only [expPtr] at he
    split at he
    case h_2 => cases he
    rename_i cs hm
    split at he
    case isFalse => cases he
    rename_i hi
    subst hi
    simp only [Option.bind_eq_some_iff, Option.some.injEq, Prod.mk.injEq] at he
    obtain ⟨q, hq, rfl, rfl⟩ := he
    obtain ⟨ℓ', g, t, arr, g1, g2, g3, g4, g5⟩ := h.objs id _ hm
    rw [hl] at g1; obtain rfl := Option.some.inj g1
    rw [hA] at g2; obtain rfl := Option.some.inj g2
    have o1 := out_one h hm (g := g) ⟨ℓ, hl, hA⟩
    obtain ⟨M, b2, o2⟩ := expCells_ok (vs := arr.toList) o1.inv (ps := q.1) (u := q.2) hq (by rw [Array.length_toList, g4.1]) (fun k c v hk hv => by
      obtain ⟨v', j1, j2, j3⟩ := g4.2 k c hk
      have : arr[k]? = some v := by simpa using hv
      rw [this] at j1; obtain rfl := Option.some.inj j1; exact ⟨j2, j3⟩)
    rw [Nat.zero_mul, Nat.zero_add, addr_add_plain]
    exact ⟨g :: M, .obx g3 b2, o1.append o2⟩
  | junk =>
    obtain ⟨rfl, rfl⟩ : AV.junk = p ∧ ([] : Ups) = u := by simpa [expPtr, expCell] using he
    exact ⟨[], .junk, Out.refl h⟩
  | i => exact cell (c := AV.i _ _) (by simp) (by simp) (by simp) (by simp) he hc
  | b => exact cell (c := AV.b _) (by simp) (by simp) (by simp) (by simp) he hc
  | s => exact cell (c := AV.s _) (by simp) (by simp) (by simp) (by simp) he hc
  | emp => exact cell (c := AV.emp) (by simp) (by simp) (by simp) (by simp) he hc
  | fro => exact cell (c := AV.fro _ _ _) (by simp) (by simp) (by simp) (by simp) he hc
  | fptr => exact cell (c := AV.fptr _ _) (by simp) (by simp) (by simp) (by simp) he hc
  | row => exact cell (c := AV.row _) (by simp) (by simp) (by simp) (by simp) he hc
  | view => exact cell (c := AV.view _ _ _) (by simp) (by simp) (by simp) (by simp) he hc
  | _ => simp [expPtr, expCell, AV.plain] at he
theorem expVal_ok {C : Ctx} {w : World} {σ : Sig} {F : Nat → Prop} {m : Mem} (h : Inv C w σ F m) {c p : AV} {u : Ups} {v : Value} (he : expVal m c = some (p, u)) (hc : RelL w σ F c v) : ∃ L, BdV w F p v L ∧ Out C w σ F m (putM m u) L := by
  cases c with
  | agg cs =>
    simp only [expVal, Option.bind_eq_some_iff, Option.some.injEq, Prod.mk.injEq] at he
    obtain ⟨q, hq, rfl, rfl⟩ := he
    obtain ⟨us, rfl, h1, h2, h3⟩ := hc.aggI
    obtain ⟨L, b, o⟩ := expCells_ok (vs := us.toList) h (ps := q.1) (u := q.2) hq (by rw [Array.length_toList, h1]) (fun k c v hk hv => by
      have hv' : us[k]? = some v := by simpa using hv
      exact ⟨h3 k c v hk hv', h2 v (Array.mem_of_getElem? hv')⟩)
    exact ⟨L, .agg b, o⟩
  | _ => exact expPtr_ok h (by simpa only [expVal] using he) hc
theorem expVals_ok {C : Ctx} {w : World} {σ : Sig} {F : Nat → Prop} : ∀ {cs ps : List AV} {u : Ups} {vs : List Value} {m : Mem}, Inv C w σ F m → expVals m cs = some (ps, u) → vs.length = cs.length →
    (∀ (k : Nat) c v, cs[k]? = some c → vs[k]? = some v → RelL w σ F c v) → ∃ L, BdVs w F ps vs L ∧ Out C w σ F m (putM m u) L
  | [], ps, u, vs, m, h, he, hl, hr => by
    obtain ⟨rfl, rfl⟩ : ([] : List AV) = ps ∧ ([] : Ups) = u := by simpa [expVals] using he
    obtain rfl : vs = [] := List.eq_nil_of_length_eq_zero (by simpa using hl)
    exact ⟨[], .nil, Out.refl h⟩
  | c :: cs, ps, u, [], m, h, he, hl, hr => by simp at hl
  | c :: cs, ps, u, v :: vs, m, h, he, hl, hr => by
    simp only [expVals, Option.bind_eq_some_iff] at he
    obtain ⟨p, hp, q, hq, he⟩ := he
    obtain ⟨rfl, rfl⟩ : p.1 :: q.1 = ps ∧ p.2 ++ q.2 = u := by simpa using he
    obtain ⟨L, b1, o1⟩ := expVal_ok h (p := p.1) (u := p.2) hp (hr 0 c v rfl rfl)
    obtain ⟨M, b2, o2⟩ := expVals_ok (vs := vs) o1.inv (ps := q.1) (u := q.2) hq (by simpa using hl) (fun k c v hk hv => hr (k + 1) c v hk hv)
    exact ⟨L ++ M, .cons b1 b2, by rw [putM_append]; exact o1.append o2⟩
theorem expRes_ok {C : Ctx} {w : World} {σ : Sig} {F : Nat → Prop} {m : Mem} (h : Inv C w σ F m) {c p : AV} {u : Ups} {v : Value} (he : expRes m c = some (p, u)) (hc : RelL w σ F c v) : ∃ L, BdR w F p v L ∧ Out C w σ F m (putM m u) L := by
  cases c with
  | tup cs =>
    simp only [expRes, Option.bind_eq_some_iff, Option.some.injEq, Prod.mk.injEq] at he
    obtain ⟨q, hq, rfl, rfl⟩ := he
    obtain ⟨us, rfl, h1, h2⟩ := hc.tupI
    obtain ⟨L, b, o⟩ := expVals_ok (vs := us.toList) h (ps := q.1) (u := q.2) hq (by rw [Array.length_toList, h1]) (fun k c v hk hv => by
      have hv' : us[k]? = some v := by simpa using hv
      exact h2 k c v hk hv')
    exact ⟨L, .tup b, o⟩
  | _ =>
    obtain ⟨L, b, o⟩ := expVal_ok h (by simpa only [expRes] using he) hc
    exact ⟨L, .v b, o⟩
end Go.Eng
