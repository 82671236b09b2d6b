/- What a tree tells: its map, what a key has, what is pending, a range; plain laws. -/
import Derived.Test.YtjjocahgbmibeaaW9
import Derived.Test.YtjjocahgbmibeaaW10
namespace Go.Proofs.Ytjjocahgbmibeaa
open Go.Eng
set_option linter.unusedVariables false
set_option linter.unusedSimpArgs false
def stepG (m : Ms) (x : Int × Bool) : Int × Bool := if m.op = 1 then (m.v, true) else if m.op = 2 then (0, false) else if m.op = 3 then (clamp (x.1 + m.v), true) else x
def getAll (k : Int) (x : Int × Bool) (ms : List Ms) : Int × Bool := ms.foldl (fun x m => if m.ok = true ∧ m.k = k then stepG m x else x) x
theorem get_without (k k' : Int) : ∀ ps : List Pr, mapGet k (without k' ps) = if k = k' then (0, false) else mapGet k ps
  | [] => by simp [without, mapGet]
  | p :: ps => by
    have ih := get_without k k' ps
    unfold without at ih ⊢
    by_cases h : p.k = k'
    · rw [List.filter_cons, if_neg (by simp [h]), ih]
      by_cases h2 : k = k'
      · simp [h2]
      · rw [if_neg h2, if_neg h2, mapGet, if_neg (by omega)]
    · rw [List.filter_cons, if_pos (by simp [h]), mapGet, ih]
      by_cases h2 : k = k'
      · rw [if_pos h2, if_pos h2, if_neg (by omega)]
      · rw [if_neg h2, if_neg h2, mapGet]
theorem get_put (k k' v : Int) : ∀ ps : List Pr, mapGet k (put k' v ps) = if k = k' then (v, true) else mapGet k ps
  | [] => by
    by_cases h : k = k'
    · simp [put, putGo, mapGet, h]
    · simp [put, putGo, mapGet, h, Ne.symm h]
  | p :: ps => by
    by_cases hlt : p.k < k'
    · have e3 : put k' v (p :: ps) = p :: put k' v ps := by have hne : ¬ p.k = k' := (by omega); simp [put, putGo, hne]; intro; omega
      rw [e3, mapGet, get_put k k' v ps, mapGet]
      by_cases h : k = k'
      · rw [if_pos h, if_pos h, if_neg (by omega)]
      · rw [if_neg h, if_neg h]
    · have hw := get_without k k' ps
      by_cases he : p.k = k'
      · have e : put k' v (p :: ps) = ⟨k', v⟩ :: without k' ps := by simp [put, putGo, he, putGo_true]
        rw [e, mapGet, mapGet, hw]
        by_cases h : k = k'
        · simp [h]
        · simp only [if_neg h, he, if_neg (Ne.symm h)]
      · have e : put k' v (p :: ps) = ⟨k', v⟩ :: p :: without k' ps := by simp [put, putGo, he, putGo_true]; omega
        rw [e, mapGet, mapGet, mapGet, hw]
        by_cases h : k = k'
        · simp [h]
        · simp only [if_neg h, if_neg (Ne.symm h)]
theorem get_do {ps : List Pr} {m : Ms} (k : Int) (h : mapOk ps = true) : mapGet k (mapDo ps m) = if m.ok = true ∧ m.k = k then stepG m (mapGet k ps) else mapGet k ps := by
  by_cases hm : m.ok = true
  · unfold mapDo stepG
    rw [if_pos (show mapOk ps = true ∧ m.ok = true from ⟨h, hm⟩)]
    by_cases hk : m.k = k
    · subst hk
      rw [if_pos (show m.ok = true ∧ m.k = m.k from ⟨hm, rfl⟩)]
      by_cases o1 : m.op = 1
      · rw [if_pos o1, if_pos o1, get_put, if_pos rfl]
      · rw [if_neg o1, if_neg o1]
        by_cases o2 : m.op = 2
        · rw [if_pos o2, if_pos o2, get_without, if_pos rfl]
        · rw [if_neg o2, if_neg o2]
          by_cases o3 : m.op = 3
          · rw [if_pos o3, if_pos o3, get_put, if_pos rfl]
          · rw [if_neg o3, if_neg o3]
    · have hk' : ¬ k = m.k := fun q => hk q.symm
      rw [if_neg (show ¬ (m.ok = true ∧ m.k = k) from fun q => hk q.2)]
      by_cases o1 : m.op = 1
      · rw [if_pos o1, get_put, if_neg hk']
      · rw [if_neg o1]
        by_cases o2 : m.op = 2
        · rw [if_pos o2, get_without, if_neg hk']
        · rw [if_neg o2]
          by_cases o3 : m.op = 3
          · rw [if_pos o3, get_put, if_neg hk']
          · rw [if_neg o3]
  · rw [mapDo_bad ps (by simpa using hm), if_neg (fun q => hm q.1)]
theorem mapAll_ok : ∀ (ms : List Ms) {ps : List Pr}, mapOk ps = true → mapOk (mapAll ps ms) = true
  | [], _, h => h
  | m :: ms, _, h => mapAll_ok ms (mapDo_ok (m := m) h)
theorem get_mapAll (k : Int) : ∀ (ms : List Ms) {ps : List Pr}, mapOk ps = true → mapGet k (mapAll ps ms) = getAll k (mapGet k ps) ms
  | [], _, _ => rfl
  | m :: ms, ps, h => by
    have := get_mapAll k ms (mapDo_ok (m := m) h)
    rw [get_do k h] at this
    exact this
theorem getAll_filter (k : Int) : ∀ (ms : List Ms) (x : Int × Bool), getAll k x (ms.filter fun m => decide (m.k = k)) = getAll k x ms
  | [], _ => rfl
  | m :: ms, x => by
    by_cases h : m.k = k
    · rw [List.filter_cons, if_pos (by simp [h])]
      exact getAll_filter k ms _
    · rw [List.filter_cons, if_neg (by simp [h]), getAll_filter k ms x]
      unfold getAll
      rw [List.foldl_cons, if_neg (fun q => h q.2)]
theorem getAll_app (k : Int) (x : Int × Bool) (a b : List Ms) : getAll k x (a ++ b) = getAll k (getAll k x a) b := List.foldl_append
theorem mapGet_none (k : Int) : ∀ {ps : List Pr}, (∀ p, p ∈ ps → p.k ≠ k) → mapGet k ps = (0, false)
  | [], _ => rfl
  | p :: ps, h => by rw [mapGet, if_neg (h p List.mem_cons_self), mapGet_none k fun q hq => h q (List.mem_cons_of_mem _ hq)]
theorem mapGet_app (k : Int) : ∀ {a b : List Pr}, (∀ p, p ∈ a → p.k ≠ k) → mapGet k (a ++ b) = mapGet k b
  | [], _, _ => rfl
  | p :: a, b, h => by rw [List.cons_append, mapGet, if_neg (h p List.mem_cons_self), mapGet_app k fun q hq => h q (List.mem_cons_of_mem _ hq)]
theorem mapGet_app' (k : Int) : ∀ {a b : List Pr}, (∀ p, p ∈ b → p.k ≠ k) → mapGet k (a ++ b) = mapGet k a
  | [], b, h => by rw [List.nil_append, mapGet_none k h]; rfl
  | p :: a, b, h => by rw [List.cons_append, mapGet, mapGet, mapGet_app' k h]
/-- A map that is right, with keys from lo on, below hi. -/
def In (lo hi : Int) (ps : List Pr) : Prop := mOk (lo - 1) ps = true ∧ ∀ p, p ∈ ps → p.k < hi
theorem mOk_any : ∀ {ps : List Pr} {lo : Int}, mOk lo ps = true → mapOk ps = true
  | [], _, _ => rfl
  | p :: ps, lo, h => by
    simp only [mOk, mapOk, Bool.and_eq_true, decide_eq_true_eq] at h ⊢
    exact ⟨by omega, h.2⟩
theorem mOk_low : ∀ {ps : List Pr} {lo : Int}, mOk lo ps = true → ∀ p, p ∈ ps → lo < p.k
  | p :: ps, lo, h, q, hq => by
    simp only [mOk, Bool.and_eq_true, decide_eq_true_eq] at h
    rcases List.mem_cons.1 hq with rfl | hq
    · exact h.1.1
    · have := mOk_low h.2 q hq; omega
theorem mOk_raise {ps : List Pr} {lo lo' : Int} (h : mOk lo ps = true) (hl : ∀ p, p ∈ ps → lo' < p.k) : mOk lo' ps = true := by
  cases ps with
  | nil => rfl
  | cons p ps =>
    simp only [mOk, Bool.and_eq_true, decide_eq_true_eq] at h ⊢
    have := hl p List.mem_cons_self
    exact ⟨by omega, h.2⟩
theorem mOk_app {c : Int} : ∀ {a b : List Pr} {lo : Int}, mOk lo a = true → (∀ p, p ∈ a → p.k < c) → mOk (c - 1) b = true → lo < c → mOk lo (a ++ b) = true
  | [], b, lo, _, _, hb, hl => mOk_mono (by omega) hb
  | p :: a, b, lo, ha, hc, hb, hl => by
    simp only [List.cons_append, mOk, Bool.and_eq_true, decide_eq_true_eq] at ha ⊢
    exact ⟨ha.1, mOk_app ha.2 (fun q hq => hc q (List.mem_cons_of_mem _ hq)) hb (hc p List.mem_cons_self)⟩
theorem In.low {lo hi : Int} {ps : List Pr} (h : In lo hi ps) (p : Pr) (hp : p ∈ ps) : lo ≤ p.k := by have := mOk_low h.1 p hp; omega
theorem In.app {lo c hi : Int} {a b : List Pr} (h1 : In lo c a) (h2 : In c hi b) (hl : lo ≤ c) (hh : c ≤ hi) : In lo hi (a ++ b) :=
  ⟨mOk_app h1.1 h1.2 h2.1 (by omega), fun p hp => (List.mem_append.1 hp).elim (fun q => by have := h1.2 p q; omega) (h2.2 p)⟩
theorem put_mem {k v : Int} {ps : List Pr} {p : Pr} (h : p ∈ put k v ps) : p.k = k ∨ p ∈ ps := by
  have key : ∀ (ps : List Pr) (pt : Bool), p ∈ putGo k v pt ps → p.k = k ∨ p ∈ ps := by
    intro ps
    induction ps with
    | nil => intro pt h; cases pt <;> simp [putGo] at h; left; rw [h]
    | cons q ps ih =>
      intro pt h
      simp only [putGo] at h
      split at h
      · rcases List.mem_cons.1 h with rfl | h
        · exact .inl rfl
        · rcases List.mem_append.1 h with h | h
          · split at h
            · simp at h
            · exact .inr (by simp at h; simp [h])
          · exact (ih _ h).imp id (List.mem_cons_of_mem _)
      · rcases List.mem_append.1 h with h | h
        · split at h
          · simp at h
          · exact .inr (by simp at h; simp [h])
        · exact (ih _ h).imp id (List.mem_cons_of_mem _)
  exact key ps false h
theorem In.do {lo hi : Int} {ps : List Pr} {m : Ms} (h : In lo hi ps) (hm : lo ≤ m.k ∧ m.k < hi) : In lo hi (mapDo ps m) := by
  refine ⟨mapDo_mOk (fun _ => by omega) h.1, fun p hp => ?_⟩
  have key : p.k = m.k ∨ p ∈ ps := by
    unfold mapDo at hp
    split at hp
    · split at hp
      · exact put_mem hp
      · split at hp
        · exact .inr (List.mem_filter.1 hp).1
        · split at hp
          · exact put_mem hp
          · exact .inr hp
    · exact .inr hp
  rcases key with q | q
  · omega
  · exact h.2 p q
theorem In.all {lo hi : Int} : ∀ {ms : List Ms} {ps : List Pr}, In lo hi ps → (∀ m, m ∈ ms → lo ≤ m.k ∧ m.k < hi) → In lo hi (mapAll ps ms)
  | [], _, h, _ => h
  | m :: ms, _, h, hm => In.all (ms := ms) (h.do (hm m List.mem_cons_self)) fun x hx => hm x (List.mem_cons_of_mem _ hx)
theorem In.ok {lo hi : Int} {ps : List Pr} (h : In lo hi ps) : mapOk ps = true := mOk_any h.1
mutual
/-- What a tree tells. -/
def mapT : Tr → List Pr
  | .mk _ ps _ ks bs => mapAll (ps ++ mapTL ks) bs
def mapTL : List Tr → List Pr
  | [] => []
  | k :: ks => mapT k ++ mapTL ks
end
theorem mapT_eq (t : Tr) : mapT t = mapAll (t.ps ++ mapTL t.ks) t.bs := by cases t; rfl
theorem mapTL_app : ∀ a b : List Tr, mapTL (a ++ b) = mapTL a ++ mapTL b
  | [], b => rfl
  | k :: a, b => by rw [List.cons_append, mapTL, mapTL, mapTL_app a b, List.append_assoc]
mutual
theorem mapT_len : ∀ t : Tr, (mapT t).length ≤ t.sz
  | .mk l ps cs ks bs => by
    have h1 := mapTL_len ks
    have h2 := mapAll_len bs (ps ++ mapTL ks)
    rw [List.length_append] at h2
    simp only [mapT, Tr.sz]; omega
theorem mapTL_len : ∀ ks : List Tr, (mapTL ks).length ≤ Tr.szL ks
  | [] => by simp [mapTL, Tr.szL]
  | k :: ks => by
    have h1 := mapT_len k
    have h2 := mapTL_len ks
    simp only [mapTL, Tr.szL, List.length_append]; omega
end
def kidAt (t : Tr) (k : Int) : Tr := t.ks.getD (kidP k t.cs) default
def leafF : Nat → Tr → Int → Tr
  | 0, t, _ => t
  | n + 1, t, k => if t.leaf = true then t else leafF n (kidAt t k) k
def pend : Nat → Tr → Int → List Ms
  | 0, _, _ => []
  | n + 1, t, k => if t.leaf = true then [] else pend n (kidAt t k) k ++ t.bs.filter fun m => decide (m.k = k)
theorem bufOk_in {lo hi : Int} {m : Ms} (h : bufOk lo hi m = true) : m.ok = true ∧ m.op ≠ 4 ∧ lo ≤ m.k ∧ m.k < hi := by
  simp only [bufOk, inK, Bool.and_eq_true, decide_eq_true_eq] at h
  exact ⟨h.1.1, h.1.2, by omega, by omega⟩
/-- What depth says of a tree. -/
theorem depth_node {n : Nat} {t : Tr} {lo hi : Int} (h : 0 < depth (n + 1) t lo hi) :
    (t.leaf = true ∧ In lo hi t.ps ∧ t.ps.length ≤ 4 ∧ t.cs = [] ∧ t.ks = [] ∧ t.bs = []) ∨
    (t.leaf = false ∧ t.ps = [] ∧ 2 ≤ t.ks.length ∧ t.ks.length ≤ 4 ∧ t.cs.length + 1 = t.ks.length ∧ t.bs.length ≤ 6 ∧ (∀ m, m ∈ t.bs → bufOk lo hi m = true) ∧ 0 < kidsD (depth n) hi t.ks t.cs lo none ∧ depth (n + 1) t lo hi = kidsD (depth n) hi t.ks t.cs lo none) := by
  rw [depth] at h ⊢
  split at h
  · rename_i hl
    split at h
    · rename_i hk
      simp only [leafOk, Bool.and_eq_true, decide_eq_true_eq, List.all_eq_true, inK] at hk
      refine .inl ⟨hl, ⟨mOk_raise hk.1.1.1 fun p hp => ?_, fun p hp => ?_⟩, hk.1.1.2, List.eq_nil_of_length_eq_zero (by omega), List.eq_nil_of_length_eq_zero (by omega), List.eq_nil_of_length_eq_zero (by omega)⟩
      · have := hk.2 p hp; omega
      · have := hk.2 p hp; omega
    · omega
  · rename_i hl
    split at h
    · rename_i hk
      have hno := hk.1
      simp only [nodeOk, Bool.and_eq_true, decide_eq_true_eq] at hno
      rw [if_neg hl]
      rw [if_pos hk]
      exact .inr ⟨by simpa using hl, List.eq_nil_of_length_eq_zero (by omega), by omega, by omega, by omega, by omega, by simpa [List.all_eq_true] using hk.2, h, rfl⟩
    · omega
theorem kids_right {d : Tr → Int → Int → Nat} {hi : Int} : ∀ {ks : List Tr} {cs : List Int} {lo : Int} {acc : Option Nat}, 0 < kidsD d hi ks cs lo acc → ∀ k, k ∈ ks → ∃ lo' hi', 0 < d k lo' hi' := by
  intro ks
  induction ks with
  | nil => intro cs lo acc _ k hk; simp at hk
  | cons x ks ih =>
    intro cs lo acc h k hk
    cases cs with
    | nil =>
      simp only [kidsD] at h
      split at h
      · omega
      · rename_i q
        rcases List.mem_cons.1 hk with rfl | hk
        · exact ⟨lo, hi, Nat.pos_of_ne_zero fun e => q (.inl e)⟩
        · exact ih h k hk
    | cons c cs =>
      simp only [kidsD] at h
      split at h
      · omega
      · split at h
        · omega
        · rename_i q
          rcases List.mem_cons.1 hk with rfl | hk
          · exact ⟨lo, c, Nat.pos_of_ne_zero fun e => q (.inl e)⟩
          · exact ih h k hk
theorem depth_srt {n : Nat} {t : Tr} {lo hi : Int} (h : 0 < depth n t lo hi) : Srt lo t.cs := by
  cases n with
  | zero => simp [depth] at h
  | succ n =>
    rcases depth_node h with ⟨_, _, _, h4, _⟩ | ⟨_, _, _, _, h5, _, _, h8, _⟩
    · rw [h4]; trivial
    · exact kids_srt _ _ _ _ _ _ (by omega) h8
/-- Kids side by side. -/
theorem kids_map {d : Tr → Int → Int → Nat} {hi : Int} (H : ∀ t lo hi, 0 < d t lo hi → In lo hi (mapT t)) : ∀ {ks : List Tr} {cs : List Int} {lo : Int} {acc : Option Nat}, 0 < kidsD d hi ks cs lo acc → (cs.length + 1 = ks.length ∨ hi ≤ lo) → cs.length ≤ ks.length → lo ≤ hi →
    In lo hi (mapTL ks) ∧ ∀ k, lo ≤ k → k < hi → ∃ x lo' hi', ks[kidP k cs]? = some x ∧ 0 < d x lo' hi' ∧ lo' ≤ k ∧ k < hi' ∧ mapGet k (mapTL ks) = mapGet k (mapT x) := by
  intro ks
  induction ks with
  | nil =>
    intro cs lo acc _ hl hc _
    refine ⟨⟨rfl, fun p hp => by simp [mapTL] at hp⟩, fun k h1 h2 => ?_⟩
    rcases hl with hl | hl
    · simp at hl
    · omega
  | cons x ks ih =>
    intro cs lo acc h hl hc hlh
    cases cs with
    | nil =>
      simp only [kidsD] at h
      split at h
      · omega
      · rename_i q
        have hx : 0 < d x lo hi := Nat.pos_of_ne_zero fun e => q (.inl e)
        obtain ⟨a1, _⟩ := ih h (.inr (Int.le_refl _)) (by simp) (Int.le_refl _)
        refine ⟨(H x lo hi hx).app a1 hlh (Int.le_refl _), fun k h1 h2 => ⟨x, lo, hi, rfl, hx, h1, h2, ?_⟩⟩
        rw [mapTL, mapGet_app' k fun p hp => by have := a1.low p hp; omega]
    | cons c cs =>
      simp only [kidsD] at h
      split at h
      · omega
      · rename_i hcc
        split at h
        · omega
        · rename_i q
          have hx : 0 < d x lo c := Nat.pos_of_ne_zero fun e => q (.inl e)
          obtain ⟨a1, a2⟩ := ih h (by simp only [List.length_cons] at hl; omega) (by simpa using hc) (by omega)
          have hX := H x lo c hx
          refine ⟨hX.app a1 (by omega) (by omega), fun k h1 h2 => ?_⟩
          by_cases hk : c ≤ k
          · obtain ⟨y, lo', hi', b1, b2, b3, b4, b5⟩ := a2 k hk h2
            refine ⟨y, lo', hi', by rw [kidP, if_pos hk]; simpa using b1, b2, b3, b4, ?_⟩
            rw [mapTL, mapGet_app k (fun p hp => by have := hX.2 p hp; omega), b5]
          · refine ⟨x, lo, c, by rw [kidP, if_neg hk]; rfl, hx, h1, by omega, ?_⟩
            rw [mapTL, mapGet_app' k fun p hp => by have := a1.low p hp; omega]
theorem kidsD_lt {d : Tr → Int → Int → Nat} {hi lo : Int} {ks : List Tr} {cs : List Int} {acc : Option Nat} (h : 0 < kidsD d hi ks cs lo acc) (h1 : 0 < ks.length) (h2 : 0 < cs.length) : lo < hi := by
  match ks, cs, h1, h2 with
  | k :: ks, c :: cs, _, _ =>
    simp only [kidsD] at h
    split at h
    · omega
    · omega
theorem tree_map : ∀ (n : Nat) (t : Tr) (lo hi : Int), 0 < depth n t lo hi → In lo hi (mapT t) ∧ ∀ k, lo ≤ k → k < hi → mapGet k (mapT t) = getAll k (mapGet k (leafF n t k).ps) (pend n t k)
  | 0, t, lo, hi, h => by simp [depth] at h
  | n + 1, t, lo, hi, h => by
    rcases depth_node h with ⟨h1, h2, h3, h4, h5, h6⟩ | ⟨h1, h2, h3, h4, h5, h6, h7, h8, _⟩
    · have e : mapT t = t.ps := by rw [mapT_eq, h5, h6, mapTL, List.append_nil]; rfl
      refine ⟨by rw [e]; exact h2, fun k _ _ => ?_⟩
      rw [e, leafF, if_pos h1, pend, if_pos h1]; rfl
    · have hb := fun m hm => bufOk_in (h7 m hm)
      have hlh : lo ≤ hi := by have := kidsD_lt h8 (by omega) (by omega); omega
      obtain ⟨a1, a2⟩ := kids_map (d := depth n) (fun x lo hi hx => (tree_map n x lo hi hx).1) h8 (.inl h5) (by omega) hlh
      have e : mapT t = mapAll (mapTL t.ks) t.bs := by rw [mapT_eq, h2, List.nil_append]
      refine ⟨by rw [e]; exact a1.all fun m hm => ⟨(hb m hm).2.2.1, (hb m hm).2.2.2⟩, fun k k1 k2 => ?_⟩
      obtain ⟨x, lo', hi', b1, b2, b3, b4, b5⟩ := a2 k k1 k2
      have hx : kidAt t k = x := by simp [kidAt, List.getD, b1]
      rw [e, get_mapAll k _ a1.ok, b5, (tree_map n x lo' hi' b2).2 k b3 b4, leafF, if_neg (by simp [h1]), pend, if_neg (by simp [h1]), hx, getAll_app, getAll_filter]
theorem kid_at {n : Nat} {t : Tr} {lo hi : Int} (k : Int) (h : 0 < depth (n + 1) t lo hi) (hl : t.leaf = false) : ∃ x lo' hi', t.ks[kidP k t.cs]? = some x ∧ kidAt t k = x ∧ 0 < depth n x lo' hi' ∧ x.sz < t.sz ∧ cntK k t.cs = kidP k t.cs ∧ t.ps = [] := by
  rcases depth_node h with ⟨h1, _⟩ | ⟨_, h2, h3, h4, h5, h6, h7, h8, _⟩
  · rw [hl] at h1; cases h1
  · have hk := kidP_le k t.cs
    have hlt : kidP k t.cs < t.ks.length := by omega
    have hx : t.ks[kidP k t.cs]? = some t.ks[kidP k t.cs] := getD_at hlt
    obtain ⟨lo', hi', hd⟩ := kids_right h8 _ (List.mem_of_getElem? hx)
    exact ⟨_, lo', hi', hx, by simp [kidAt, List.getD, hx], hd, Tr.kid_sz (List.mem_of_getElem? hx), cnt_kid k t.cs lo (depth_srt h), h2⟩
theorem pend_len : ∀ (n : Nat) (t : Tr) (k : Int), t.leaf = true ∨ (∃ lo hi, 0 < depth n t lo hi) → (pend n t k).length ≤ t.sz
  | 0, t, k, _ => by simp [pend]
  | n + 1, t, k, h => by
    by_cases hl : t.leaf = true
    · simp [pend, hl]
    · obtain ⟨lo, hi, hd⟩ := h.resolve_left hl
      obtain ⟨x, lo', hi', h1, h2, h3, h4, _⟩ := kid_at k hd (by simpa using hl)
      have ih := pend_len n x k (.inr ⟨lo', hi', h3⟩)
      have h5 := List.length_filter_le (fun m : Ms => decide (m.k = k)) t.bs
      have h6 := Tr.szL_mem (List.mem_of_getElem? h1)
      rw [pend, if_neg hl, h2, List.length_append, t.sz_eq]
      omega
theorem pend_key (k : Int) : ∀ (n : Nat) (t : Tr) (m : Ms), m ∈ pend n t k → m.k = k
  | 0, _, _, h => by simp [pend] at h
  | n + 1, t, m, h => by
    rw [pend] at h
    split at h
    · simp at h
    · rcases List.mem_append.1 h with h | h
      · exact pend_key k n _ m h
      · simpa using (List.mem_filter.1 h).2
def one (k : Int) (x : Int × Bool) : List Pr := if x.2 = true then [⟨k, x.1⟩] else []
def tget (t : Tr) (k : Int) : Int × Bool := if treeOk t = true then mapGet k (mapAll (one k (mapGet k (leafF 7 t k).ps)) (pend 7 t k)) else (0, false)
def tmap (t : Tr) : List Pr := if treeOk t = true then mapT t else []
def tpend (t : Tr) (k : Int) : List Ms := if treeOk t = true then pend 7 t k else []
def inR (lo hi : Int) (ps : List Pr) : List Pr := ps.filter fun p => decide (lo ≤ p.k ∧ p.k < hi)
theorem mapGet_no (k : Int) : ∀ {ps : List Pr}, (mapGet k ps).2 = false → mapGet k ps = (0, false)
  | [], _ => rfl
  | p :: ps, h => by
    simp only [mapGet] at h ⊢
    split
    · rename_i q; rw [if_pos q] at h; cases h
    · rename_i q; rw [if_neg q] at h; exact mapGet_no k h
theorem one_get {k : Int} {ps : List Pr} : mapGet k (one k (mapGet k ps)) = mapGet k ps := by
  unfold one
  by_cases h : (mapGet k ps).2 = true
  · rw [if_pos h, mapGet, if_pos rfl, ← h]
  · rw [if_neg h, mapGet_no k (ps := ps) (by simpa using h)]; rfl
theorem one_ok {k : Int} {ps : List Pr} (hk : 0 ≤ k ∧ k ≤ 999) (h : mapOk ps = true) : mapOk (one k (mapGet k ps)) = true := by
  have := mapGet_ok (k := k) h
  unfold one
  split
  · simp [mapOk, mOk]; omega
  · rfl
theorem leafF_ok : ∀ (n : Nat) (t : Tr) (k lo hi : Int), 0 < depth n t lo hi → ∃ lo' hi', In lo' hi' (leafF n t k).ps
  | 0, t, k, lo, hi, h => by simp [depth] at h
  | n + 1, t, k, lo, hi, h => by
    by_cases hl : t.leaf = true
    · rw [leafF, if_pos hl]
      rcases depth_node h with ⟨_, h2, _⟩ | ⟨h1, _⟩
      · exact ⟨lo, hi, h2⟩
      · rw [hl] at h1; cases h1
    · obtain ⟨x, lo', hi', h1, h2, h3, _⟩ := kid_at k h (by simpa using hl)
      rw [leafF, if_neg hl, h2]
      exact leafF_ok n x k lo' hi' h3
theorem tmap_in (t : Tr) : In 0 1000 (tmap t) := by
  unfold tmap
  split
  · rename_i h; exact (tree_map 7 t 0 1000 (of_decide_eq_true h)).1
  · exact ⟨rfl, fun p hp => by simp at hp⟩
/-- What a key has is what the map has of it. -/
theorem tget_map (t : Tr) {k : Int} (hk : 0 ≤ k ∧ k ≤ 999) : tget t k = mapGet k (tmap t) := by
  unfold tget tmap
  by_cases h : treeOk t = true
  · have hd : 0 < depth 7 t 0 1000 := of_decide_eq_true h
    obtain ⟨lo', hi', hl⟩ := leafF_ok 7 t k 0 1000 hd
    rw [if_pos h, if_pos h, get_mapAll k _ (one_ok hk hl.ok), one_get, (tree_map 7 t 0 1000 hd).2 k hk.1 (by omega)]
  · rw [if_neg h, if_neg h]; rfl
theorem inR_cat {lo mid hi : Int} (h1 : lo ≤ mid) (h2 : mid ≤ hi) : ∀ {ps : List Pr} {b : Int}, mOk b ps = true → inR lo mid ps ++ inR mid hi ps = inR lo hi ps
  | [], _, _ => rfl
  | p :: ps, b, h => by
    simp only [mOk, Bool.and_eq_true, decide_eq_true_eq] at h
    have ih := inR_cat h1 h2 h.2
    unfold inR at ih ⊢
    by_cases hp : p.k < mid
    · rw [List.filter_cons (p := fun p : Pr => decide (mid ≤ p.k ∧ p.k < hi)), if_neg (by simp; omega), List.filter_cons, List.filter_cons]
      by_cases hl : lo ≤ p.k
      · rw [if_pos (by simp; omega), if_pos (by simp; omega), List.cons_append, ih]
      · rw [if_neg (by simp; omega), if_neg (by simp; omega), ih]
    · have e : ∀ c, (p :: ps).filter (fun p : Pr => decide (lo ≤ p.k ∧ p.k < mid)) ++ c = c := by
        intro c
        rw [List.filter_eq_nil_iff.2 fun q hq => ?_, List.nil_append]
        rcases List.mem_cons.1 hq with rfl | hq
        · simp; omega
        · have := mOk_low h.2 q hq; simp; omega
      rw [e]
      refine List.filter_congr fun q hq => ?_
      rcases List.mem_cons.1 hq with rfl | hq
      · simp only [decide_eq_decide]; omega
      · have := mOk_low h.2 q hq; simp only [decide_eq_decide]; omega
theorem inR_all {ps : List Pr} (h : In 0 1000 ps) : inR 0 1000 ps = ps :=
  List.filter_eq_self.2 fun p hp => by have := h.low p hp; have := h.2 p hp; simp; omega
theorem inR_ok {lo hi : Int} {ps : List Pr} (h : mapOk ps = true) : mapOk (inR lo hi ps) = true := mOk_filter _ h
theorem inR_len (lo hi : Int) (ps : List Pr) : (inR lo hi ps).length ≤ ps.length := List.length_filter_le _ _
theorem tmap_len (t : Tr) : (tmap t).length ≤ t.sz := by
  unfold tmap
  split
  · exact mapT_len t
  · simp
theorem tpend_len (t : Tr) (k : Int) : (tpend t k).length ≤ t.sz := by
  unfold tpend
  split
  · rename_i h; exact pend_len 7 t k (.inr ⟨0, 1000, of_decide_eq_true h⟩)
  · simp
end Go.Proofs.Ytjjocahgbmibeaa
