/- Operations: appends, clear, and the one law of operations. -/
import Derived.Test.YtjjocahgbmibeaaEngK
namespace Go.Eng
set_option linter.unusedVariables false
set_option linter.unusedSimpArgs false

section
variable {P : Program} {C : Ctx} {w w' : World} {σ σ' : Sig} {F F' : Nat → Prop} {m : Mem} {nid : Nat} {ups : Ups} {av : AV} {v : Value} {e : Nat → AV} {a : Act}

/-- A row without memory. -/
theorem good_nowhere (h : Inv C w σ F m) (hn : σ nid = none) (fl : Bool) (es : Nat) (A : Option Addr) : Good C w σ F m nid [(nid, .row fl es 0 [])] (.row nid) (.slice A 0 0) w := by
  let ℓ : Loc := ⟨A, 0, 0, es⟩
  refine ⟨setS σ nid ℓ, F, ?_, .row (ℓ := ℓ) (setS_same _ _ _), Mono.refl _ _, sub_setS hn, fun id hid => ?_⟩
  · refine h.go (fun _ => False) (fun k => k = nid) (Turns.refl w _) (fun k hk => hk.elim) (fun k hk => hk) (sub_setS hn) (fun k hk => .inl hk) (fun k hk => setM_other m _ hk)
      (fun k o2 g2 hk ho hg2 => ⟨fun he => he, (hg2.lt (h.objs k o2 ho)).2.1⟩) (fun k o2 hk ho => ?_) (fun k k' o1 o2 g2 hk ho ho' hg1 hg2 => ?_)
    · subst hk
      rw [putM_cons, putM_nil, setM_same] at ho; obtain rfl := Option.some.inj ho
      exact ⟨ℓ, setS_same _ _ _, rfl, rfl, Nat.le_refl _, Nat.le_refl _, Nat.zero_le _, fun x hx => by simp at hx, fun h0 => by simp [ℓ] at h0⟩
    · subst hk
      rw [putM_cons, putM_nil, setM_same] at ho; obtain rfl := Option.some.inj ho
      obtain ⟨ℓ', h1, h2, h3⟩ := hg1
      rw [setS_same] at h1; obtain rfl := Option.some.inj h1
      simp [ℓ] at h3
  · by_cases hid' : id = nid
    · exact .inr ⟨by omega, by omega⟩
    · rw [setS_other σ ℓ hid'] at hid; exact .inl hid

/-- What an append grows. -/
structure ApDst (C : Ctx) (w : World) (σ : Sig) (F : Nat → Prop) (m : Mem) (es : Nat) (fl : Bool) (mc : Nat) (xs : List (List AV)) (d : Ups) (A : Option Addr) (cap : Nat) (vs : List Value) : Prop where
  mc : mc ≤ cap
  len : xs.length ≤ cap
  max : cap ≤ maxLen
  reads : Reads' w (FF fl F) es xs A vs
  inv : Inv C w σ F (putM m d)
  own : cap = 0 ∨ ∃ id ℓ g t arr fl' mc' ys, d = [(id, .dead)] ∧ m id = some (.row fl' es mc' ys) ∧ σ id = some ℓ ∧ ℓ.A = A ∧ A = some ⟨g, 0, none⟩ ∧ w.heap[g]? = some (.cells arr t (0, 0)) ∧ arr.size = cap * es ∧ vs = arr.toList.take (xs.length * es) ∧ Ours C F g ∧
    Owns σ id (.row fl' es mc' ys) g
theorem apDst_ok (h : Inv C w σ F m) {es : Nat} {x : AV} {fl : Bool} {mc : Nat} {xs : List (List AV)} {d : Ups} (hd : apDst m es x = some (fl, mc, xs, d)) (hx : RelL w σ F x v) :
    ∃ A cap vs, v = .slice A xs.length cap ∧ ApDst C w σ F m es fl mc xs d A cap vs := by
  cases x with
  | emp =>
    obtain ⟨A, rfl⟩ := hx.empI
    simp only [apDst, Option.some.injEq, Prod.mk.injEq] at hd
    obtain ⟨rfl, rfl, rfl, rfl⟩ := hd
    exact ⟨A, 0, [], rfl, Nat.le_refl _, Nat.le_refl _, Nat.zero_le _, ⟨by simp, rfl, fun h => (h rfl).elim, fun q u v hu => by simp at hu⟩, h, .inl rfl⟩
  | row id =>
    obtain ⟨ℓ, hl, rfl⟩ := hx.rowI
    simp only [apDst] at hd
    split at hd
    · rename_i fl' es' mc' ys hm
      split at hd
      case isFalse => cases hd
      rename_i hes
      subst hes
      simp only [Option.some.injEq, Prod.mk.injEq] at hd
      obtain ⟨rfl, rfl, rfl, rfl⟩ := hd
      obtain ⟨ℓ', vs, g1, g2, g3, g4, g5, g6, g7, g8⟩ := h.readRow hm
      rw [hl] at g1; obtain rfl := Option.some.inj g1
      refine ⟨_, _, vs, by rw [g3], g4, g5, g6, g7, h.kill id, ?_⟩
      rcases Nat.eq_zero_or_pos ℓ.cap with h0 | h0
      · exact .inl h0
      · obtain ⟨g, t, arr, i1, i2, i3, i4, i5⟩ := g8 h0
        exact .inr ⟨id, ℓ, g, t, arr, _, _, _, rfl, hm, hl, rfl, i1, i2, i3, i5, i4, ⟨ℓ, hl, i1, h0⟩⟩
    · cases hd
  | view id lo hi =>
    obtain ⟨ℓ, A, cap, hl, rfl, hA0, hA1, hcap⟩ := hx.viewI
    simp only [apDst] at hd
    split at hd
    · rename_i fl' es' mc' ys hm
      split at hd
      case isFalse => cases hd
      rename_i hc
      obtain ⟨rfl, rfl, hle⟩ := hc
      simp only [Option.some.injEq, Prod.mk.injEq] at hd
      obtain ⟨rfl, rfl, rfl, rfl⟩ := hd
      obtain ⟨ℓ', vs, g1, g2, g3, g4, g5, g6, g7, g8⟩ := h.readRow hm
      rw [hl] at g1; obtain rfl := Option.some.inj g1
      obtain ⟨rfl, rfl⟩ := hA0 rfl
      have hlen : (ys.take hi).length = hi := by rw [List.length_take]; omega
      have hp := g7.part 0 hi (Nat.zero_le _) hle (A' := ℓ.A) (fun _ => by cases ℓ.A <;> simp [Addr.add])
      simp only [List.drop_zero, Nat.zero_mul] at hp
      refine ⟨_, _, vs.take (hi * es'), by rw [hlen, Nat.sub_zero], g4, by rw [hlen]; omega, g6, hp, h.kill id, ?_⟩
      rcases Nat.eq_zero_or_pos ℓ.cap with h0 | h0
      · exact .inl h0
      · obtain ⟨g, t, arr, i1, i2, i3, i4, i5⟩ := g8 h0
        refine .inr ⟨id, ℓ, g, t, arr, _, _, _, rfl, hm, hl, rfl, i1, i2, i3, ?_, i4, ⟨ℓ, hl, i1, h0⟩⟩
        rw [i5, hlen, List.take_take, Nat.min_eq_left (Nat.mul_le_mul_right _ hle)]
    · cases hd
  | _ => simp [apDst] at hd

/-- The new elements go behind the old ones, in the old block. -/
theorem good_room (h : Inv C w σ F m) (hn : σ nid = none) {es : Nat} {fl fl' : Bool} {mc : Nat} {xs ys : List (List AV)} {d : Ups} {A : Option Addr} {cap : Nat} {vs : List Value} (hd : ApDst C w σ F m es fl mc xs d A cap vs)
    (hys : ∀ y, y ∈ ys → y.length = es) {us : List Value} (hul : us.length = ys.flatten.length) (hur : ∀ (q : Nat) u v, ys.flatten[q]? = some u → us[q]? = some v → RelF w (FF fl' F) u v) (hroom : xs.length + ys.length ≤ cap) :
    (cap = 0 ∧ Good C w σ F m nid (d ++ [(nid, .row (fl && fl') es (max mc (xs.length + ys.length)) (xs ++ ys))]) (.row nid) (.slice A 0 0) w ∧ xs.length + ys.length = 0) ∨
    ∃ g t arr, A = some ⟨g, 0, none⟩ ∧ w.heap[g]? = some (.cells arr t (0, 0)) ∧ arr.size = cap * es ∧
      Good C w σ F m nid (d ++ [(nid, .row (fl && fl') es (max mc (xs.length + ys.length)) (xs ++ ys))]) (.row nid) (.slice A (xs.length + ys.length) cap) (w.setRow g (lay arr.toList (xs.length * es) us).toArray) := by
  rcases hd.own with h0 | ⟨id, ℓ, g, t, arr, fl0, mc0, zs, rfl, hm, hl, hA, rfl, hg, hsz, hvs, hours, hown⟩
  · refine .inl ⟨h0, ?_, by omega⟩
    have hx : xs = [] := List.eq_nil_of_length_eq_zero (by omega)
    have hy : ys = [] := List.eq_nil_of_length_eq_zero (by omega)
    have hmc : mc = 0 := by have := hd.mc; omega
    subst hx; subst hy; subst hmc
    exact (good_nowhere hd.inv hn _ es A).after (Mono.refl _ _)
  · refine .inr ⟨g, t, arr, rfl, hg, hsz, ?_⟩
    have hxl := flat_len hd.reads.es
    have hyl := flat_len hys
    have harr : arr.toList.length = cap * es := by simpa using hsz
    have hle : xs.length * es + us.length ≤ arr.toList.length := by
      rw [harr, hul, hyl, ← Nat.add_mul]; exact Nat.mul_le_mul_right _ hroom
    let w' := w.setRow g (lay arr.toList (xs.length * es) us).toArray
    have ht := turns_setRow w g (lay arr.toList (xs.length * es) us).toArray
    have hmono : Mono w F w' F := fun k hk => ⟨hk, ht.block k (h.fnew k hk).1 (fun e => hours.1 (e ▸ hk))⟩
    let ℓ' : Loc := ⟨some ⟨g, 0, none⟩, xs.length + ys.length, cap, es⟩
    have hrows : RowsF w' (FF (fl && fl') F) (xs ++ ys) (lay arr.toList (xs.length * es) us).toArray := by
      intro q u hu
      rw [List.flatten_append] at hu
      rw [List.getElem?_toArray, lay_get _ _ _ hle]
      by_cases hq : q < xs.length * es
      · rw [List.getElem?_append_left (by rw [hxl]; exact hq)] at hu
        rw [if_pos hq]
        have hvq : vs[q]? = arr.toList[q]? := by rw [hvs, List.getElem?_take, if_pos hq]
        have hlt : q < vs.length := by rw [hd.reads.len, hxl]; exact hq
        have hr := hd.reads.rel q u _ hu (List.getElem?_eq_getElem hlt)
        refine ⟨vs[q], by rw [← hvq]; exact List.getElem?_eq_getElem hlt, ?_⟩
        cases fl
        · exact hr.mono hmono
        · exact hr.mono (mono_noF _ _ _)
      · rw [List.getElem?_append_right (by rw [hxl]; omega), hxl] at hu
        have hlt : q - xs.length * es < us.length := by rw [hul]; exact (List.getElem?_eq_some_iff.1 hu).1
        rw [if_neg hq, if_pos (by omega)]
        refine ⟨us[q - xs.length * es], List.getElem?_eq_getElem hlt, ?_⟩
        have hr := hur _ u _ hu (List.getElem?_eq_getElem hlt)
        cases fl' with
        | true => exact hr.mono (mono_noF _ _ _)
        | false => rw [Bool.and_false]; exact hr.mono hmono
    have hsub := sub_setS (ℓ := ℓ') hn
    have hne : nid ≠ id := fun e => by rw [e, hl] at hn; cases hn
    refine ⟨setS σ nid ℓ', F, ?_, ?_, hmono, hsub, fun k hk => ?_⟩
    · refine h.go (fun k => k = g) (fun k => k = id ∨ k = nid) ht (fun k hk => hk ▸ hours) (fun k hk => hk) hsub (fun k hk => .inl hk) (fun k hk => ?_)
        (fun k o2 g2 hk ho hg2 => ⟨fun he => hk (.inl (h.apart k id o2 _ g2 ho hm hg2 (he ▸ hown))), (hg2.lt (h.objs k o2 ho)).2.1⟩) (fun k o2 hk ho => ?_) (fun k k' o1 o2 g2 hk ho ho' hg1 hg2 => ?_)
      · rw [List.singleton_append, putM_cons, putM_cons, putM_nil, setM_other _ _ (fun e => hk (.inr e)), setM_other _ _ (fun e => hk (.inl e))]
      · rw [List.singleton_append, putM_cons, putM_cons, putM_nil] at ho
        rcases hk with rfl | rfl
        · rw [setM_other _ _ (fun e => hne e.symm), setM_same] at ho; obtain rfl := Option.some.inj ho; trivial
        · rw [setM_same] at ho; obtain rfl := Option.some.inj ho
          refine ⟨ℓ', setS_same _ _ _, rfl, by simp [ℓ'], by have := hd.mc; simp only [ℓ']; omega, by simp only [ℓ', List.length_append]; exact hroom, hd.max, fun x hx => ?_, fun _ => ⟨g, t, _, rfl, setRow_heap w g arr _ t (0, 0) hg, ?_, hrows, hours⟩⟩
          · rcases List.mem_append.1 hx with hx | hx
            · exact hd.reads.es x hx
            · exact hys x hx
          · rw [List.size_toArray, lay_len _ _ _ hle, harr]
      · rw [List.singleton_append, putM_cons, putM_cons, putM_nil] at ho ho'
        have key : ∀ k'' o'', setM (setM m id .dead) nid (.row (fl && fl') es (max mc (xs.length + ys.length)) (xs ++ ys)) k'' = some o'' → Owns (setS σ nid ℓ') k'' o'' g → k'' = nid := by
          intro k'' o'' ho'' hg''
          by_cases h1 : k'' = nid
          · exact h1
          · rw [setM_other _ _ h1] at ho''
            by_cases h2 : k'' = id
            · rw [h2, setM_same] at ho''; obtain rfl := Option.some.inj ho''; exact hg''.elim
            · rw [setM_other _ _ h2] at ho''
              exact (h2 (h.apart k'' id o'' _ g ho'' hm (Owns.sub (h.objs _ _ ho'') hsub hg'') hown)).elim
        rcases hk with rfl | rfl
        · rw [setM_other _ _ (fun e => hne e.symm), setM_same] at ho; obtain rfl := Option.some.inj ho; exact hg1.elim
        · rw [setM_same] at ho; obtain rfl := Option.some.inj ho
          obtain ⟨ℓ2, i1, i2, i3⟩ := hg1
          rw [setS_same] at i1; obtain rfl := Option.some.inj i1
          have : g2 = g := by simpa [ℓ'] using i2.symm
          subst this
          exact (key k' o2 ho' hg2).symm
    · exact .row (ℓ := ℓ') (setS_same _ _ _)
    · by_cases hk' : k = nid
      · exact .inr ⟨by omega, by omega⟩
      · rw [setS_other σ ℓ' hk'] at hk; exact .inl hk
/-- The elements go into a new block. -/
theorem good_grow (h : Inv C w σ F m) (hn : σ nid = none) {es : Nat} {fl fl' : Bool} {mc : Nat} {xs ys : List (List AV)} {d : Ups} {A : Option Addr} {cap : Nat} {vs : List Value} (hd : ApDst C w σ F m es fl mc xs d A cap vs)
    (hys : ∀ y, y ∈ ys → y.length = es) {us : List Value} (hul : us.length = ys.flatten.length) (hur : ∀ (q : Nat) u v, ys.flatten[q]? = some u → us[q]? = some v → RelF w (FF fl' F) u v) (hgrow : cap < xs.length + ys.length)
    (t : TypeId) (cap' : Nat) (hcap : xs.length + ys.length ≤ cap') (hmax : cap' ≤ maxLen) (rest : Array Value) (hrest : rest.size = (cap' - (xs.length + ys.length)) * es) :
    Good C w σ F m nid (d ++ [(nid, .row (fl && fl') es (max mc (xs.length + ys.length)) (xs ++ ys))]) (.row nid) (.slice (some ⟨w.heap.size, 0, none⟩) (xs.length + ys.length) cap') (w.drew.alloc (.cells (vs.toArray ++ us.toArray ++ rest) t)) := by
  have hxl := flat_len hd.reads.es
  have hyl := flat_len hys
  have hmono : Mono w F w.drew F := fun k hk => ⟨hk, rfl⟩
  have hrows : RowsF w.drew (FF (fl && fl') F) (xs ++ ys) (vs.toArray ++ us.toArray ++ rest) := by
    intro q u hu
    rw [List.flatten_append] at hu
    rw [Array.append_assoc]
    by_cases hq : q < xs.length * es
    · rw [List.getElem?_append_left (by rw [hxl]; exact hq)] at hu
      have hlt : q < vs.length := by rw [hd.reads.len, hxl]; exact hq
      have hr := hd.reads.rel q u _ hu (List.getElem?_eq_getElem hlt)
      refine ⟨vs[q], by rw [Array.getElem?_append_left (by simpa using hlt)]; simp, ?_⟩
      cases fl
      · exact hr.mono hmono
      · exact hr.mono (mono_noF _ _ _)
    · rw [List.getElem?_append_right (by rw [hxl]; omega), hxl] at hu
      have hlt : q - xs.length * es < us.length := by rw [hul]; exact (List.getElem?_eq_some_iff.1 hu).1
      refine ⟨us[q - xs.length * es], ?_, ?_⟩
      · rw [Array.getElem?_append_right (by simp; rw [hd.reads.len, hxl]; omega), Array.getElem?_append_left (by simp; rw [hd.reads.len, hxl]; exact hlt)]
        simp [hd.reads.len, hxl]
      · have hr := hur _ u _ hu (List.getElem?_eq_getElem hlt)
        cases fl' with
        | true => exact hr.mono (mono_noF _ _ _)
        | false => rw [Bool.and_false]; exact hr.mono hmono
  have hinv : Inv C w.drew σ F (putM m d) := hd.inv.step (turns_drew w _)
  have hg := good_row hinv hn (fl := fl && fl') (es := es) (mc := max mc (xs.length + ys.length)) (cap := cap') (xs := xs ++ ys) (arr := vs.toArray ++ us.toArray ++ rest) t (fun x hx => by
      rcases List.mem_append.1 hx with hx | hx
      · exact hd.reads.es x hx
      · exact hys x hx) (by have := hd.mc; omega) (by rw [List.length_append]; exact hcap) hmax (by
      simp only [Array.size_append, List.size_toArray, hrest, hd.reads.len, hul, hxl, hyl]
      rw [← Nat.add_mul, ← Nat.add_mul]; congr 1; omega) hrows
  rw [List.length_append] at hg
  exact ((Good.ahead (turns_drew w _) hd.inv hg)).after (Mono.refl _ _)
end
end Go.Eng
