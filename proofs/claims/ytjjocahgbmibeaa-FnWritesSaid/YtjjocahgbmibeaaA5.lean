/- What a tree tells: its map, what a key has, what is pending, a range; plain laws. -/
import Derived.Test.YtjjocahgbmibeaaA0
import Derived.Test.YtjjocahgbmibeaaW10
namespace Go.Proofs.Ytjjocahgbmibeaa
open Go.Eng
set_option linter.unusedVariables false
set_option linter.unusedSimpArgs false
def stepG (m : Ms) (x : Int × Bool) : Int × Bool := if m.op = 1 then (m.v, true) else if m.op = 2 then (0, false) else if m.op = 3 then (clamp (x.1 + m.v), true) else x
def getAll (k : Int) (x : Int × Bool) (ms : List Ms) : Int × Bool := ms.foldl (fun x m => if m.ok = true ∧ m.k = k then stepG m x else x) x
theorem get_without (k k' : Int) : ∀ ps : List Pr, mapGet k (without k' ps) = if k = k' then (0, false) else mapGet k ps
  | [] => by simp [without, mapGet]
  | p :: ps => by
    have ih := get_without k k' ps
    unfold without at ih ⊢
    by_cases h : p.k = k'
    · rw [List.filter_cons, if_neg (by simp [h]), ih]
      by_cases h2 : k = k'
      · simp [h2]
      · rw [if_neg h2, if_neg h2, mapGet, if_neg (by omega)]
    · rw [List.filter_cons, if_pos (by simp [h]), mapGet, ih]
      by_cases h2 : k = k'
      · rw [if_pos h2, if_pos h2, if_neg (by omega)]
      · rw [if_neg h2, if_neg h2, mapGet]
theorem get_put (k k' v : Int) : ∀ ps : List Pr, mapGet k (put k' v ps) = if k = k' then (v, true) else mapGet k ps
  | [] => by
    by_cases h : k = k'
    · simp [put, putGo, mapGet, h]
    · simp [put, putGo, mapGet, h, Ne.symm h]
  | p :: ps => by
    by_cases hlt : p.k < k'
    · have e3 : put k' v (p :: ps) = p :: put k' v ps := by have hne : ¬ p.k = k' := (by omega); simp [put, putGo, hne]; intro; omega
      rw [e3, mapGet, get_put k k' v ps, mapGet]
      by_cases h : k = k'
      · rw [if_pos h, if_pos h, if_neg (by omega)]
      · rw [if_neg h, if_neg h]
    · have hw := get_without k k' ps
      by_cases he : p.k = k'
      · have e : put k' v (p :: ps) = ⟨k', v⟩ :: without k' ps := by simp [put, putGo, he, putGo_true]
        rw [e, mapGet, mapGet, hw]
        by_cases h : k = k'
        · simp [h]
        · simp only [if_neg h, he, if_neg (Ne.symm h)]
      · have e : put k' v (p :: ps) = ⟨k', v⟩ :: p :: without k' ps := by simp [put, putGo, he, putGo_true]; omega
        rw [e, mapGet, mapGet, mapGet, hw]
        by_cases h : k = k'
        · simp [h]
        · simp only [if_neg h, if_neg (Ne.symm h)]
theorem get_do {ps : List Pr} {m : Ms} (k : Int) (h : mapOk ps = true) : mapGet k (mapDo ps m) = if m.ok = true ∧ m.k = k then stepG m (mapGet k ps) else mapGet k ps := by
  by_cases hm : m.ok = true
  · unfold mapDo stepG
    rw [if_pos (show mapOk ps = true ∧ m.ok = true from ⟨h, hm⟩)]
    by_cases hk : m.k = k
    · subst hk
      rw [if_pos (show m.ok = true ∧ m.k = m.k from ⟨hm, rfl⟩)]
      by_cases o1 : m.op = 1
      · rw [if_pos o1, if_pos o1, get_put, if_pos rfl]
      · rw [if_neg o1, if_neg o1]
        by_cases o2 : m.op = 2
        · rw [if_pos o2, if_pos o2, get_without, if_pos rfl]
        · rw [if_neg o2, if_neg o2]
          by_cases o3 : m.op = 3
          · rw [if_pos o3, if_pos o3, get_put, if_pos rfl]
          · rw [if_neg o3, if_neg o3]
    · have hk' : ¬ k = m.k := fun q => hk q.symm
      rw [if_neg (show ¬ (m.ok = true ∧ m.k = k) from fun q => hk q.2)]
      by_cases o1 : m.op = 1
      · rw [if_pos o1, get_put, if_neg hk']
      · rw [if_neg o1]
        by_cases o2 : m.op = 2
        · rw [if_pos o2, get_without, if_neg hk']
        · rw [if_neg o2]
          by_cases o3 : m.op = 3
          · rw [if_pos o3, get_put, if_neg hk']
          · rw [if_neg o3]
  · rw [mapDo_bad ps (by simpa using hm), if_neg (fun q => hm q.1)]
theorem mapAll_ok : ∀ (ms : List Ms) {ps : List Pr}, mapOk ps = true → mapOk (mapAll ps ms) = true
  | [], _, h => h
  | m :: ms, _, h => mapAll_ok ms (mapDo_ok (m := m) h)
theorem get_mapAll (k : Int) : ∀ (ms : List Ms) {ps : List Pr}, mapOk ps = true → mapGet k (mapAll ps ms) = getAll k (mapGet k ps) ms
  | [], _, _ => rfl
  | m :: ms, ps, h => by
    have := get_mapAll k ms (mapDo_ok (m := m) h)
    rw [get_do k h] at this
    exact this
theorem getAll_filter (k : Int) : ∀ (ms : List Ms) (x : Int × Bool), getAll k x (ms.filter fun m => decide (m.k = k)) = getAll k x ms
  | [], _ => rfl
  | m :: ms, x => by
    by_cases h : m.k = k
    · rw [List.filter_cons, if_pos (by simp [h])]
      exact getAll_filter k ms _
    · rw [List.filter_cons, if_neg (by simp [h]), getAll_filter k ms x]
      unfold getAll
      rw [List.foldl_cons, if_neg (fun q => h q.2)]
theorem getAll_app (k : Int) (x : Int × Bool) (a b : List Ms) : getAll k x (a ++ b) = getAll k (getAll k x a) b := List.foldl_append
theorem mapGet_none (k : Int) : ∀ {ps : List Pr}, (∀ p, p ∈ ps → p.k ≠ k) → mapGet k ps = (0, false)
  | [], _ => rfl
  | p :: ps, h => by rw [mapGet, if_neg (h p List.mem_cons_self), mapGet_none k fun q hq => h q (List.mem_cons_of_mem _ hq)]
theorem mapGet_app (k : Int) : ∀ {a b : List Pr}, (∀ p, p ∈ a → p.k ≠ k) → mapGet k (a ++ b) = mapGet k b
  | [], _, _ => rfl
  | p :: a, b, h => by rw [List.cons_append, mapGet, if_neg (h p List.mem_cons_self), mapGet_app k fun q hq => h q (List.mem_cons_of_mem _ hq)]
theorem mapGet_app' (k : Int) : ∀ {a b : List Pr}, (∀ p, p ∈ b → p.k ≠ k) → mapGet k (a ++ b) = mapGet k a
  | [], b, h => by rw [List.nil_append, mapGet_none k h]; rfl
  | p :: a, b, h => by rw [List.cons_append, mapGet, mapGet, mapGet_app' k h]
/-- A map that is right, with keys from lo on, below hi. -/
def In (lo hi : Int) (ps : List Pr) : Prop := mOk (lo - 1) ps = true ∧ ∀ p, p ∈ ps → p.k < hi
theorem mOk_any : ∀ {ps : List Pr} {lo : Int}, mOk lo ps = true → mapOk ps = true
  | [], _, _ => rfl
  | p :: ps, lo, h => by
    simp only [mOk, mapOk, Bool.and_eq_true, decide_eq_true_eq] at h ⊢
    exact ⟨by omega, h.2⟩
theorem mOk_low : ∀ {ps : List Pr} {lo : Int}, mOk lo ps = true → ∀ p, p ∈ ps → lo < p.k
  | p :: ps, lo, h, q, hq => by
    simp only [mOk, Bool.and_eq_true, decide_eq_true_eq] at h
    rcases List.mem_cons.1 hq with rfl | hq
    · exact h.1.1
    · have := mOk_low h.2 q hq; omega
theorem mOk_raise {ps : List Pr} {lo lo' : Int} (h : mOk lo ps = true) (hl : ∀ p, p ∈ ps → lo' < p.k) : mOk lo' ps = true := by
  cases ps with
  | nil => rfl
  | cons p ps =>
    simp only [mOk, Bool.and_eq_true, decide_eq_true_eq] at h ⊢
    have := hl p List.mem_cons_self
    exact ⟨by omega, h.2⟩
theorem mOk_app {c : Int} : ∀ {a b : List Pr} {lo : Int}, mOk lo a = true → (∀ p, p ∈ a → p.k < c) → mOk (c - 1) b = true → lo < c → mOk lo (a ++ b) = true
  | [], b, lo, _, _, hb, hl => mOk_mono (by omega) hb
  | p :: a, b, lo, ha, hc, hb, hl => by
    simp only [List.cons_append, mOk, Bool.and_eq_true, decide_eq_true_eq] at ha ⊢
    exact ⟨ha.1, mOk_app ha.2 (fun q hq => hc q (List.mem_cons_of_mem _ hq)) hb (hc p List.mem_cons_self)⟩
theorem In.low {lo hi : Int} {ps : List Pr} (h : In lo hi ps) (p : Pr) (hp : p ∈ ps) : lo ≤ p.k := by have := mOk_low h.1 p hp; omega
theorem In.app {lo c hi : Int} {a b : List Pr} (h1 : In lo c a) (h2 : In c hi b) (hl : lo ≤ c) (hh : c ≤ hi) : In lo hi (a ++ b) :=
  ⟨mOk_app h1.1 h1.2 h2.1 (by omega), fun p hp => (List.mem_append.1 hp).elim (fun q => by have := h1.2 p q; omega) (h2.2 p)⟩
theorem put_mem {k v : Int} {ps : List Pr} {p : Pr} (h : p ∈ put k v ps) : p.k = k ∨ p ∈ ps := by
  have key : ∀ (ps : List Pr) (pt : Bool), p ∈ putGo k v pt ps → p.k = k ∨ p ∈ ps := by
    intro ps
    induction ps with
    | nil => intro pt h; cases pt <;> simp [putGo] at h; left; rw [h]
    | cons q ps ih =>
      intro pt h
      simp only [putGo] at h
      split at h
      · rcases List.mem_cons.1 h with rfl | h
        · exact .inl rfl
        · rcases List.mem_append.1 h with h | h
          · split at h
            · simp at h
            · exact .inr (by simp at h; simp [h])
          · exact (ih _ h).imp id (List.mem_cons_of_mem _)
      · rcases List.mem_append.1 h with h | h
        · split at h
          · simp at h
          · exact .inr (by simp at h; simp [h])
        · exact (ih _ h).imp id (List.mem_cons_of_mem _)
  exact key ps false h
theorem In.do {lo hi : Int} {ps : List Pr} {m : Ms} (h : In lo hi ps) (hm : lo ≤ m.k ∧ m.k < hi) : In lo hi (mapDo ps m) := by
  refine ⟨mapDo_mOk (fun _ => by omega) h.1, fun p hp => ?_⟩
  have key : p.k = m.k ∨ p ∈ ps := by
    unfold mapDo at hp
    split at hp
    · split at hp
      · exact put_mem hp
      · split at hp
        · exact .inr (List.mem_filter.1 hp).1
        · split at hp
          · exact put_mem hp
          · exact .inr hp
    · exact .inr hp
  rcases key with q | q
  · omega
  · exact h.2 p q
theorem In.all {lo hi : Int} : ∀ {ms : List Ms} {ps : List Pr}, In lo hi ps → (∀ m, m ∈ ms → lo ≤ m.k ∧ m.k < hi) → In lo hi (mapAll ps ms)
  | [], _, h, _ => h
  | m :: ms, _, h, hm => In.all (ms := ms) (h.do (hm m List.mem_cons_self)) fun x hx => hm x (List.mem_cons_of_mem _ hx)
theorem In.ok {lo hi : Int} {ps : List Pr} (h : In lo hi ps) : mapOk ps = true := mOk_any h.1
mutual
/-- What a tree tells. -/
def mapT : Tr → List Pr
  | .mk _ ps _ ks bs => mapAll (ps ++ mapTL ks) bs
def mapTL : List Tr → List Pr
  | [] => []
  | k :: ks => mapT k ++ mapTL ks
end
theorem mapT_eq (t : Tr) : mapT t = mapAll (t.ps ++ mapTL t.ks) t.bs := by cases t; rfl
theorem mapTL_app : ∀ a b : List Tr, mapTL (a ++ b) = mapTL a ++ mapTL b
  | [], b => rfl
  | k :: a, b => by rw [List.cons_append, mapTL, mapTL, mapTL_app a b, List.append_assoc]
mutual
theorem mapT_len : ∀ t : Tr, (mapT t).length ≤ t.sz
  | .mk l ps cs ks bs => by
    have h1 := mapTL_len ks
    have h2 := mapAll_len bs (ps ++ mapTL ks)
    rw [List.length_append] at h2
    simp only [mapT, Tr.sz]; omega
theorem mapTL_len : ∀ ks : List Tr, (mapTL ks).length ≤ Tr.szL ks
  | [] => by simp [mapTL, Tr.szL]
  | k :: ks => by
    have h1 := mapT_len k
    have h2 := mapTL_len ks
    simp only [mapTL, Tr.szL, List.length_append]; omega
end
def kidAt (t : Tr) (k : Int) : Tr := t.ks.getD (kidP k t.cs) default
def leafF : Nat → Tr → Int → Tr
  | 0, t, _ => t
  | n + 1, t, k => if t.leaf = true then t else leafF n (kidAt t k) k
def pend : Nat → Tr → Int → List Ms
  | 0, _, _ => []
  | n + 1, t, k => if t.leaf = true then [] else pend n (kidAt t k) k ++ t.bs.filter fun m => decide (m.k = k)
theorem bufOk_in {lo hi : Int} {m : Ms} (h : bufOk lo hi m = true) : m.ok = true ∧ m.op ≠ 4 ∧ lo ≤ m.k ∧ m.k < hi := by
  simp only [bufOk, inK, Bool.and_eq_true, decide_eq_true_eq] at h
  exact ⟨h.1.1, h.1.2, by omega, by omega⟩
/-- What depth says of a tree. -/
theorem depth_node {n : Nat} {t : Tr} {lo hi : Int} (h : 0 < depth (n + 1) t lo hi) :
    (t.leaf = true ∧ In lo hi t.ps ∧ t.ps.length ≤ 4 ∧ t.cs = [] ∧ t.ks = [] ∧ t.bs = []) ∨
    (t.leaf = false ∧ t.ps = [] ∧ 2 ≤ t.ks.length ∧ t.ks.length ≤ 4 ∧ t.cs.length + 1 = t.ks.length ∧ t.bs.length ≤ 6 ∧ (∀ m, m ∈ t.bs → bufOk lo hi m = true) ∧ 0 < kidsD (depth n) hi t.ks t.cs lo none ∧ depth (n + 1) t lo hi = kidsD (depth n) hi t.ks t.cs lo none) := by
  rw [depth] at h ⊢
  split at h
  · rename_i hl
    split at h
    · rename_i hk
      simp only [leafOk, Bool.and_eq_true, decide_eq_true_eq, List.all_eq_true, inK] at hk
      refine .inl ⟨hl, ⟨mOk_raise hk.1.1.1 fun p hp => ?_, fun p hp => ?_⟩, hk.1.1.2, List.eq_nil_of_length_eq_zero (by omega), List.eq_nil_of_length_eq_zero (by omega), List.eq_nil_of_length_eq_zero (by omega)⟩
      · have := hk.2 p hp; omega
      · have := hk.2 p hp; omega
    · omega
  · rename_i hl
    split at h
    · rename_i hk
      have hno := hk.1
      simp only [nodeOk, Bool.and_eq_true, decide_eq_true_eq] at hno
      rw [if_neg hl]
      rw [if_pos hk]
      exact .inr ⟨by simpa using hl, List.eq_nil_of_length_eq_zero (by omega), by omega, by omega, by omega, by omega, by simpa [List.all_eq_true] using hk.2, h, rfl⟩
    · omega
/-- Kids side by side. -/
theorem kids_map {d : Tr → Int → Int → Nat} {hi : Int} (H : ∀ t lo hi, 0 < d t lo hi → In lo hi (mapT t)) : ∀ {ks : List Tr} {cs : List Int} {lo : Int} {acc : Option Nat}, 0 < kidsD d hi ks cs lo acc → (cs.length + 1 = ks.length ∨ hi ≤ lo) → cs.length ≤ ks.length → lo ≤ hi →
    In lo hi (mapTL ks) ∧ ∀ k, lo ≤ k → k < hi → ∃ x lo' hi', ks[kidP k cs]? = some x ∧ 0 < d x lo' hi' ∧ lo' ≤ k ∧ k < hi' ∧ mapGet k (mapTL ks) = mapGet k (mapT x) := by
  intro ks
  induction ks with
  | nil =>
    intro cs lo acc _ hl hc _
    refine ⟨⟨rfl, fun p hp => by simp [mapTL] at hp⟩, fun k h1 h2 => ?_⟩
    rcases hl with hl | hl
    · simp at hl
    · omega
  | cons x ks ih =>
    intro cs lo acc h hl hc hlh
    cases cs with
    | nil =>
      simp only [kidsD] at h
      split at h
      · omega
      · rename_i q
        have hx : 0 < d x lo hi := Nat.pos_of_ne_zero fun e => q (.inl e)
        obtain ⟨a1, _⟩ := ih h (.inr (Int.le_refl _)) (by simp) (Int.le_refl _)
        refine ⟨(H x lo hi hx).app a1 hlh (Int.le_refl _), fun k h1 h2 => ⟨x, lo, hi, rfl, hx, h1, h2, ?_⟩⟩
        rw [mapTL, mapGet_app' k fun p hp => by have := a1.low p hp; omega]
    | cons c cs =>
      simp only [kidsD] at h
      split at h
      · omega
      · rename_i hcc
        split at h
        · omega
        · rename_i q
          have hx : 0 < d x lo c := Nat.pos_of_ne_zero fun e => q (.inl e)
          obtain ⟨a1, a2⟩ := ih h (by simp only [List.length_cons] at hl; omega) (by simpa using hc) (by omega)
          have hX := H x lo c hx
          refine ⟨hX.app a1 (by omega) (by omega), fun k h1 h2 => ?_⟩
          by_cases hk : c ≤ k
          · obtain ⟨y, lo', hi', b1, b2, b3, b4, b5⟩ := a2 k hk h2
            refine ⟨y, lo', hi', by rw [kidP, if_pos hk]; simpa using b1, b2, b3, b4, ?_⟩
            rw [mapTL, mapGet_app k (fun p hp => by have := hX.2 p hp; omega), b5]
          · refine ⟨x, lo, c, by rw [kidP, if_neg hk]; rfl, hx, h1, by omega, ?_⟩
            rw [mapTL, mapGet_app' k fun p hp => by have := a1.low p hp; omega]
theorem kidsD_lt {d : Tr → Int → Int → Nat} {hi lo : Int} {ks : List Tr} {cs : List Int} {acc : Option Nat} (h : 0 < kidsD d hi ks cs lo acc) (h1 : 0 < ks.length) (h2 : 0 < cs.length) : lo < hi := by
  match ks, cs, h1, h2 with
  | k :: ks, c :: cs, _, _ =>
    simp only [kidsD] at h
    split at h
    · omega
    · omega
theorem tree_map : ∀ (n : Nat) (t : Tr) (lo hi : Int), 0 < depth n t lo hi → In lo hi (mapT t) ∧ ∀ k, lo ≤ k → k < hi → mapGet k (mapT t) = getAll k (mapGet k (leafF n t k).ps) (pend n t k)
  | 0, t, lo, hi, h => by simp [depth] at h
  | n + 1, t, lo, hi, h => by
    rcases depth_node h with ⟨h1, h2, h3, h4, h5, h6⟩ | ⟨h1, h2, h3, h4, h5, h6, h7, h8, _⟩
    · have e : mapT t = t.ps := by rw [mapT_eq, h5, h6, mapTL, List.append_nil]; rfl
      refine ⟨by rw [e]; exact h2, fun k _ _ => ?_⟩
      rw [e, leafF, if_pos h1, pend, if_pos h1]; rfl
    · have hb := fun m hm => bufOk_in (h7 m hm)
      have hlh : lo ≤ hi := by have := kidsD_lt h8 (by omega) (by omega); omega
      obtain ⟨a1, a2⟩ := kids_map (d := depth n) (fun x lo hi hx => (tree_map n x lo hi hx).1) h8 (.inl h5) (by omega) hlh
      have e : mapT t = mapAll (mapTL t.ks) t.bs := by rw [mapT_eq, h2, List.nil_append]
      refine ⟨by rw [e]; exact a1.all fun m hm => ⟨(hb m hm).2.2.1, (hb m hm).2.2.2⟩, fun k k1 k2 => ?_⟩
      obtain ⟨x, lo', hi', b1, b2, b3, b4, b5⟩ := a2 k k1 k2
      have hx : kidAt t k = x := by simp [kidAt, List.getD, b1]
      rw [e, get_mapAll k _ a1.ok, b5, (tree_map n x lo' hi' b2).2 k b3 b4, leafF, if_neg (by simp [h1]), pend, if_neg (by simp [h1]), hx, getAll_app, getAll_filter]
def one (k : Int) (x : Int × Bool) : List Pr := if x.2 = true then [⟨k, x.1⟩] else []
def tget (t : Tr) (k : Int) : Int × Bool := if treeOk t = true then mapGet k (mapAll (one k (mapGet k (leafF 7 t k).ps)) (pend 7 t k)) else (0, false)
def tmap (t : Tr) : List Pr := if treeOk t = true then mapT t else []
def tpend (t : Tr) (k : Int) : List Ms := if treeOk t = true then pend 7 t k else []
def inR (lo hi : Int) (ps : List Pr) : List Pr := ps.filter fun p => decide (lo ≤ p.k ∧ p.k < hi)
end Go.Proofs.Ytjjocahgbmibeaa

namespace Go.Proofs.Ytjjocahgbmibeaa
open Go.Eng
set_option linter.unusedVariables false
set_option linter.unusedSimpArgs false
/-- Trees side by side between two keys. -/
def Ch (r : Tr → Int → Int → Prop) : Int → Int → List Tr → List Int → Prop
  | lo, hi, ts, [] => ∃ t, ts = [t] ∧ r t lo hi
  | lo, hi, ts, c :: cs => ∃ t ts', ts = t :: ts' ∧ r t lo c ∧ lo < c ∧ c < hi ∧ Ch r c hi ts' cs
theorem Ch.len {r : Tr → Int → Int → Prop} : ∀ {cs : List Int} {lo hi : Int} {ts : List Tr}, Ch r lo hi ts cs → cs.length + 1 = ts.length
  | [], _, _, _, h => by obtain ⟨t, rfl, _⟩ := h; rfl
  | c :: cs, _, _, _, h => by obtain ⟨t, ts', rfl, _, _, _, h⟩ := h; have := h.len; simp; omega
theorem Ch.app {r : Tr → Int → Int → Prop} {c hi : Int} {b : List Tr} {bs : List Int} (hb : Ch r c hi b bs) (hch : c < hi) : ∀ {us : List Int} {lo : Int} {a : List Tr}, Ch r lo c a us → lo < c → Ch r lo hi (a ++ b) (us ++ c :: bs)
  | [], lo, a, h, hl => by obtain ⟨t, rfl, h⟩ := h; exact ⟨t, b, rfl, h, hl, hch, hb⟩
  | x :: us, lo, a, h, hl => by obtain ⟨t, ts', rfl, h1, h2, h3, h4⟩ := h; exact ⟨t, ts' ++ b, rfl, h1, h2, by omega, Ch.app hb hch h4 h3⟩
/-- Right, of that depth, between two keys. -/
def R : Nat → Tr → Int → Int → Prop
  | 0, _, _, _ => False
  | d + 1, t, lo, hi => (d = 0 ∧ t.leaf = true ∧ In lo hi t.ps ∧ t.ps.length ≤ 4 ∧ t.cs = [] ∧ t.ks = [] ∧ t.bs = []) ∨
      (0 < d ∧ t.leaf = false ∧ t.ps = [] ∧ 2 ≤ t.ks.length ∧ t.ks.length ≤ 4 ∧ t.bs.length ≤ 6 ∧ (∀ m, m ∈ t.bs → bufOk lo hi m = true) ∧ Ch (R d) lo hi t.ks t.cs)
theorem kidsD_eq {dd : Tr → Int → Int → Nat} {hi : Int} {d : Nat} {r : Tr → Int → Int → Prop} (hd : 0 < d) (H : ∀ t lo hi, r t lo hi → dd t lo hi = d) : ∀ {cs : List Int} {ts : List Tr} {lo : Int} {acc : Option Nat}, Ch r lo hi ts cs → (acc = none ∨ acc = some d) → kidsD dd hi ts cs lo acc = d + 1
  | [], ts, lo, acc, h, ha => by
    obtain ⟨t, rfl, h⟩ := h
    rw [kidsD, H t lo hi h, if_neg, kidsD, Option.getD_some]
    rintro (q | ⟨e, q, q'⟩)
    · omega
    · rcases ha with rfl | rfl
      · cases q
      · cases q; exact q' rfl
  | c :: cs, ts, lo, acc, h, ha => by
    obtain ⟨t, ts', rfl, h1, h2, h3, h4⟩ := h
    rw [kidsD, H t lo c h1, if_neg (by omega), if_neg]
    · exact kidsD_eq hd H h4 (.inr rfl)
    · rintro (q | ⟨e, q, q'⟩)
      · omega
      · rcases ha with rfl | rfl
        · cases q
        · cases q; exact q' rfl
theorem depth_of_R : ∀ (d : Nat) (t : Tr) (lo hi : Int), R d t lo hi → ∀ n, d ≤ n → depth n t lo hi = d
  | 0, _, _, _, h, _, _ => h.elim
  | d + 1, t, lo, hi, h, n, hn => by
    obtain ⟨n, rfl⟩ : ∃ n', n = n' + 1 := ⟨n - 1, by omega⟩
    rw [depth]
    rcases h with ⟨h0, h1, h2, h3, h4, h5, h6⟩ | ⟨h0, h1, h2, h3, h4, h5, h6, h7⟩
    · subst h0
      have hl : leafOk t lo hi = true := by
        simp only [leafOk, Bool.and_eq_true, decide_eq_true_eq, List.all_eq_true, inK]
        refine ⟨⟨⟨h2.ok, h3⟩, by rw [h4, h5, h6]; rfl⟩, fun p hp => ?_⟩
        have a1 := h2.low p hp; have a2 := h2.2 p hp; omega
      rw [if_pos h1, if_pos hl]
    · have hl := h7.len
      have hk : nodeOk t = true := by simp only [nodeOk, Bool.and_eq_true, decide_eq_true_eq]; rw [h2]; simp; omega
      rw [if_neg (by simp [h1]), if_pos ⟨hk, by simpa [List.all_eq_true] using h6⟩]
      exact kidsD_eq h0 (fun t lo hi ht => depth_of_R d t lo hi ht n (by omega)) h7 (.inl rfl)
theorem ch_of_kids {dd : Tr → Int → Int → Nat} {hi : Int} (H : ∀ t lo hi, 0 < dd t lo hi → R (dd t lo hi) t lo hi) : ∀ {cs : List Int} {ts : List Tr} {lo : Int} {acc : Option Nat}, 0 < kidsD dd hi ts cs lo acc → cs.length + 1 = ts.length →
    ∃ e, 0 < e ∧ kidsD dd hi ts cs lo acc = e + 1 ∧ Ch (R e) lo hi ts cs ∧ ∀ a, acc = some a → a = e
  | [], ts, lo, acc, h, hl => by
    match ts, hl with
    | [t], _ =>
      simp only [kidsD] at h ⊢
      split at h
      · omega
      · rename_i q
        have hx : 0 < dd t lo hi := Nat.pos_of_ne_zero fun e => q (.inl e)
        rw [if_neg q]
        exact ⟨dd t lo hi, hx, rfl, ⟨t, rfl, H _ _ _ hx⟩, fun a ha => Classical.byContradiction fun e => q (.inr ⟨a, ha, fun e' => e e'.symm⟩)⟩
  | c :: cs, ts, lo, acc, h, hl => by
    match ts, hl with
    | t :: ts, hl =>
      simp only [kidsD] at h ⊢
      split at h
      · omega
      · rename_i q0
        split at h
        · omega
        · rename_i q
          have hx : 0 < dd t lo c := Nat.pos_of_ne_zero fun e => q (.inl e)
          obtain ⟨e, a1, a2, a3, a4⟩ := ch_of_kids H h (by simpa using hl)
          have he := a4 _ rfl
          rw [if_neg q0, if_neg q]
          exact ⟨e, a1, a2, ⟨t, ts, rfl, he ▸ H _ _ _ hx, by omega, by omega, a3⟩, fun a ha => Classical.byContradiction fun e' => q (.inr ⟨a, ha, fun e'' => e' (by rw [← e'', he])⟩)⟩
theorem R_of_depth : ∀ (n : Nat) (t : Tr) (lo hi : Int), 0 < depth n t lo hi → R (depth n t lo hi) t lo hi
  | 0, _, _, _, h => by simp [depth] at h
  | n + 1, t, lo, hi, h => by
    rcases depth_node h with ⟨h1, h2, h3, h4, h5, h6⟩ | ⟨h1, h2, h3, h4, h5, h6, h7, h8, h9⟩
    · have e : depth (n + 1) t lo hi = 1 := depth_of_R 1 t lo hi (.inl ⟨rfl, h1, h2, h3, h4, h5, h6⟩) _ (by omega)
      rw [e]
      exact .inl ⟨rfl, h1, h2, h3, h4, h5, h6⟩
    · obtain ⟨e, a1, a2, a3, _⟩ := ch_of_kids (R_of_depth n) h8 h5
      rw [h9, a2]
      exact .inr ⟨a1, h1, h2, h3, h4, h6, h7, a3⟩
theorem R.in {d : Nat} {t : Tr} {lo hi : Int} (h : R d t lo hi) : In lo hi (mapT t) := by
  have e := depth_of_R d t lo hi h d (Nat.le_refl _)
  cases d with
  | zero => exact h.elim
  | succ d => exact (tree_map (d + 1) t lo hi (by omega)).1
theorem Ch.in {d : Nat} {hi : Int} : ∀ {cs : List Int} {ts : List Tr} {lo : Int}, Ch (R d) lo hi ts cs → lo ≤ hi ∨ cs = [] → In lo hi (mapTL ts)
  | [], _, _, h, _ => by obtain ⟨t, rfl, h⟩ := h; rw [mapTL, mapTL, List.append_nil]; exact h.in
  | c :: cs, _, lo, h, _ => by
    obtain ⟨t, ts', rfl, h1, h2, h3, h4⟩ := h
    rw [mapTL]
    exact h1.in.app (h4.in (.inl (by omega))) (by omega) (by omega)
theorem Ch.inn {d : Nat} {lo hi : Int} {ts : List Tr} {cs : List Int} (h : Ch (R d) lo hi ts cs) : In lo hi (mapTL ts) := by
  cases cs with
  | nil => exact h.in (.inr rfl)
  | cons c cs =>
    obtain ⟨t, ts', rfl, h1, h2, h3, h4⟩ := id h
    exact h.in (.inl (by omega))
theorem R.wf : ∀ {d : Nat} {t : Tr} {lo hi : Int}, R d t lo hi → Wf d t := by
  intro d t lo hi h
  have e := depth_of_R d t lo hi h d (Nat.le_refl _)
  cases d with
  | zero => exact h.elim
  | succ d => have := depth_wf (d + 1) t lo hi (by omega); rwa [e] at this
theorem Ch.mem {r : Tr → Int → Int → Prop} : ∀ {cs : List Int} {lo hi : Int} {ts : List Tr}, Ch r lo hi ts cs → ∀ t, t ∈ ts → ∃ a b, r t a b
  | [], lo, hi, _, h, t, ht => by obtain ⟨t', rfl, h⟩ := h; simp at ht; subst ht; exact ⟨_, _, h⟩
  | c :: cs, lo, hi, _, h, t, ht => by
    obtain ⟨t', ts', rfl, h1, _, _, h⟩ := h
    rcases List.mem_cons.1 ht with rfl | ht
    · exact ⟨_, _, h1⟩
    · exact h.mem t ht
theorem Ch.wf {d : Nat} {lo hi : Int} {m : Mn} (h : Ch (R d) lo hi m.ts m.cs) : WfM d m :=
  ⟨by have := h.len; omega, h.len, fun t ht => by obtain ⟨a, b, hr⟩ := h.mem t ht; exact hr.wf⟩
/-- One of them, and another row in its place. -/
theorem Ch.at {d : Nat} : ∀ {cs : List Int} {lo hi : Int} {ts : List Tr} {i : Nat} {t : Tr}, Ch (R d) lo hi ts cs → ts[i]? = some t →
    ∃ lo' hi', R d t lo' hi' ∧ lo ≤ lo' ∧ hi' ≤ hi ∧ (∀ k, lo ≤ k → k < hi → (kidP k cs = i ↔ lo' ≤ k ∧ k < hi')) ∧
      (∀ p, p ∈ mapTL (ts.take i) → p.k < lo') ∧ (∀ p, p ∈ mapTL (ts.drop (i + 1)) → hi' ≤ p.k) ∧
      ∀ x : Mn, Ch (R d) lo' hi' x.ts x.cs → Ch (R d) lo hi (putM ⟨ts, cs⟩ i x).ts (putM ⟨ts, cs⟩ i x).cs
  | [], lo, hi, ts, i, t, h, ht => by
    obtain ⟨t', rfl, h⟩ := h
    cases i with
    | zero =>
      simp at ht; subst ht
      exact ⟨lo, hi, h, by omega, by omega, fun k h1 h2 => by simp [kidP, h1, h2], by simp [mapTL], by simp [mapTL], fun x hx => by simpa [putM] using hx⟩
    | succ i => simp at ht
  | c :: cs, lo, hi, ts, i, t, h, ht => by
    obtain ⟨t', ts', rfl, h1, h2, h3, h4⟩ := h
    cases i with
    | zero =>
      simp at ht; subst ht
      refine ⟨lo, c, h1, by omega, by omega, fun k k1 k2 => ?_, by simp [mapTL], fun p hp => ?_, fun x hx => ?_⟩
      · simp only [kidP]; split <;> omega
      · exact h4.inn.low p (by simpa using hp)
      · have := Ch.app h4 h3 hx h2
        simpa [putM] using this
    | succ i =>
      obtain ⟨lo', hi', a1, a2, a3, a4, a5, a6, a7⟩ := Ch.at h4 (i := i) (t := t) (by simpa using ht)
      refine ⟨lo', hi', a1, by omega, a3, fun k k1 k2 => ?_, fun p hp => ?_, fun p hp => ?_, fun x hx => ?_⟩
      · simp only [kidP]
        split
        · rename_i hk
          rw [← a4 k hk k2]; omega
        · omega
      · rw [List.take_succ_cons, mapTL] at hp
        rcases List.mem_append.1 hp with hp | hp
        · have := h1.in.2 p hp; omega
        · exact a5 p hp
      · exact a6 p (by simpa using hp)
      · have e : putM ⟨t' :: ts', c :: cs⟩ (i + 1) x = ⟨t' :: (putM ⟨ts', cs⟩ i x).ts, c :: (putM ⟨ts', cs⟩ i x).cs⟩ := rfl
        rw [e]
        exact ⟨t', _, rfl, h1, h2, h3, a7 x hx⟩
theorem map_ext : ∀ {ps qs : List Pr} {a b : Int}, mOk a ps = true → mOk b qs = true → (∀ k, mapGet k ps = mapGet k qs) → ps = qs
  | [], [], _, _, _, _, _ => rfl
  | [], q :: qs, _, _, _, _, h => by have := h q.k; simp [mapGet] at this
  | p :: ps, [], _, _, _, _, h => by have := h p.k; simp [mapGet] at this
  | p :: ps, q :: qs, a, b, hp, hq, h => by
    simp only [mOk, Bool.and_eq_true, decide_eq_true_eq] at hp hq
    have hk : p.k = q.k := by
      rcases Int.lt_trichotomy p.k q.k with h1 | h1 | h1
      · have := h p.k
        rw [mapGet, if_pos rfl, mapGet, if_neg (by omega), (gone_past (v := 0) (show p.k ≤ q.k by omega) hq.2).2.2] at this
        simp at this
      · exact h1
      · have := h q.k
        rw [mapGet, if_neg (by omega), (gone_past (v := 0) (show q.k ≤ p.k by omega) hp.2).2.2, mapGet, if_pos rfl] at this
        simp at this
    have hv : p = q := by
      have := h p.k
      rw [mapGet, if_pos rfl, mapGet, if_pos hk.symm] at this
      obtain ⟨pk, pv⟩ := p
      obtain ⟨qk, qv⟩ := q
      simp at this hk
      rw [hk, this]
    subst hv
    rw [map_ext hp.2 hq.2 fun k => ?_]
    by_cases e : p.k = k
    · rw [(gone_past (v := 0) (show k ≤ p.k by omega) hp.2).2.2, (gone_past (v := 0) (show k ≤ p.k by omega) hq.2).2.2]
    · have := h k
      rwa [mapGet, if_neg e, mapGet, if_neg e] at this
theorem getAll_sub (k : Int) (f : Ms → Bool) : ∀ {ms : List Ms} {x : Int × Bool}, (∀ m, m ∈ ms → m.k = k → f m = true) → getAll k x (ms.filter f) = getAll k x ms
  | [], _, _ => rfl
  | m :: ms, x, h => by
    by_cases hf : f m = true
    · rw [List.filter_cons, if_pos hf]
      exact getAll_sub k f fun y hy => h y (List.mem_cons_of_mem _ hy)
    · have hk : ¬ m.k = k := fun e => hf (h m List.mem_cons_self e)
      rw [List.filter_cons, if_neg hf, getAll_sub k f fun y hy => h y (List.mem_cons_of_mem _ hy)]
      unfold getAll
      rw [List.foldl_cons, if_neg (fun q => hk q.2)]
theorem getAll_none (k : Int) : ∀ {ms : List Ms} {x : Int × Bool}, (∀ m, m ∈ ms → m.k ≠ k) → getAll k x ms = x
  | [], _, _ => rfl
  | m :: ms, x, h => by
    unfold getAll
    rw [List.foldl_cons, if_neg (fun q => h m List.mem_cons_self q.2)]
    exact getAll_none k fun y hy => h y (List.mem_cons_of_mem _ hy)
theorem getAll_cons (k : Int) (x : Int × Bool) (m : Ms) (ms : List Ms) : getAll k x (m :: ms) = getAll k (if m.ok = true ∧ m.k = k then stepG m x else x) ms := rfl
/-! Messages that are shrunk do the same. -/
def ofK (k : Int) (ms : List Ms) : List Ms := ms.filter fun m => decide (m.k = k)
theorem over_reset {k : Int} : ∀ {ms : List Ms} {x y : Int × Bool}, over ms k = true → getAll k x ms = getAll k y ms
  | [], _, _, h => by simp [over] at h
  | m :: ms, x, y, h => by
    rw [getAll_cons, getAll_cons]
    simp only [over, List.any_cons, Bool.or_eq_true] at h
    rcases h with h | h
    · simp only [Bool.and_eq_true, decide_eq_true_eq] at h
      rw [if_pos h.1, if_pos h.1]
      unfold stepG
      rcases h.2 with e | e
      · rw [if_pos e, if_pos e]
      · rw [if_neg (by omega), if_pos e, if_neg (by omega), if_pos e]
    · exact over_reset h
theorem over_tail {m : Ms} {ms : List Ms} {k : Int} (h : over (m :: ms) k = false) : over ms k = false := by
  simp only [over, List.any_cons, Bool.or_eq_false_iff] at h ⊢
  exact h.2
theorem set_ne {k : Int} : ∀ {l : List Ms} {i : Nat} {p y : Ms}, l[i]? = some p → p.k ≠ k → y.k ≠ k → ofK k (l.set i y) = ofK k l
  | [], _, _, _, h, _, _ => by simp at h
  | q :: l, 0, p, y, h, hp, hy => by simp at h; subst h; simp [ofK, hp, hy]
  | q :: l, i + 1, p, y, h, hp, hy => by
    have := set_ne (l := l) (i := i) (by simpa using h) hp hy
    unfold ofK at this ⊢
    rw [List.set_cons_succ, List.filter_cons, List.filter_cons, this]
theorem set_eq {k : Int} : ∀ {l : List Ms} {i : Nat} {p y : Ms}, l[i]? = some p → p.k = k → y.k = k → ofK k l = [p] → ofK k (l.set i y) = [y]
  | [], _, _, _, h, _, _, _ => by simp at h
  | q :: l, 0, p, y, h, hp, hy, he => by
    simp at h; subst h
    unfold ofK at he ⊢
    rw [List.filter_cons, if_pos (by simp [hp])] at he
    rw [List.set_cons_zero, List.filter_cons, if_pos (by simp [hy]), (List.cons.inj he).2]
  | q :: l, i + 1, p, y, h, hp, hy, he => by
    have h' : l[i]? = some p := by simpa using h
    unfold ofK at he
    by_cases hq : q.k = k
    · rw [List.filter_cons, if_pos (by simp [hq])] at he
      have hm : p ∈ l.filter fun m => decide (m.k = k) := List.mem_filter.2 ⟨List.mem_of_getElem? h', by simp [hp]⟩
      rw [(List.cons.inj he).2] at hm
      simp at hm
    · rw [List.filter_cons, if_neg (by simp [hq])] at he
      have := set_eq h' hp hy he
      unfold ofK at this ⊢
      rw [List.set_cons_succ, List.filter_cons, if_neg (by simp [hq]), this]
structure ShI (out post : List Ms) : Prop where
  ok : ∀ o, o ∈ out → o.ok = true
  no : ∀ o, o ∈ out → over post o.k = false
  put : ∀ k, (∃ p, ofK k out = [p] ∧ p.op = 1) ∨ ∀ p, p ∈ out → p.k = k → p.op ≠ 1
theorem firstK_some {k : Int} : ∀ {l : List Ms} {p : Ms} {n : Nat}, p ∈ l → p.k = k → firstK k l n ≠ -1
  | q :: l, p, n, hp, hk => by
    rw [firstK]
    split
    · omega
    · rename_i hq
      rcases List.mem_cons.1 hp with rfl | hp
      · exact absurd hk hq
      · exact firstK_some hp hk
theorem shGo_all (k : Int) (x : Int × Bool) : ∀ (post out : List Ms), ShI out post → getAll k x (shGo out post) = getAll k x (out ++ post)
  | [], out, _ => by simp [shGo]
  | m :: post, out, I => by
    have tl : ∀ o, o ∈ out → over post o.k = false := fun o ho => over_tail (I.no o ho)
    rw [shGo]
    split
    · rename_i h
      rw [shGo_all k x post out ⟨I.ok, tl, I.put⟩, getAll_app, getAll_app, getAll_cons]
      by_cases hc : m.ok = true ∧ m.k = k
      · rw [if_pos hc]
        rcases h with h | h | h
        · rw [hc.1] at h; cases h
        · unfold stepG; rw [if_neg (by omega), if_neg (by omega), if_neg (by omega)]
        · exact over_reset (hc.2 ▸ h)
      · rw [if_neg hc]
    · rename_i h1
      have hok : m.ok = true := by
        cases e : m.ok with
        | true => rfl
        | false => exact absurd (.inl e) h1
      have hov : over post m.k = false := by
        cases e : over post m.k with
        | false => rfl
        | true => exact absurd (.inr (.inr e)) h1
      have hbd := hok
      simp only [Ms.ok, decide_eq_true_eq] at hbd
      split
      · rename_i h2
        obtain ⟨hf0, hop, hm3⟩ := h2
        obtain ⟨j, p, hj, hp, hpk⟩ := (firstK_at m.k out 0).resolve_left (by omega)
        rw [Nat.zero_add] at hj
        have hgd : out.getD (firstK m.k out 0).toNat default = p := by rw [hj]; simp [List.getD, hp]
        rw [hgd] at hop
        rw [hgd, hj, Int.toNat_natCast]
        have hpm := List.mem_of_getElem? hp
        have hK : ofK m.k out = [p] := by
          rcases I.put m.k with ⟨q, e, _⟩ | hno
          · have : p ∈ ofK m.k out := List.mem_filter.2 ⟨hpm, by simp [hpk]⟩
            rw [e] at this ⊢
            simp at this; rw [this]
          · exact absurd hop (hno p hpm hpk)
        have hcl := clamp_ok (p.v + m.v)
        have I' : ShI (out.set j ⟨1, m.k, clamp (p.v + m.v)⟩) post := by
          refine ⟨fun o ho => ?_, fun o ho => ?_, fun k' => ?_⟩
          · rcases List.mem_or_eq_of_mem_set ho with ho | rfl
            · exact I.ok o ho
            · simp only [Ms.ok, decide_eq_true_eq]; exact ⟨by decide, by decide, by omega, by omega, hcl.1, hcl.2, .inr (.inl trivial)⟩
          · rcases List.mem_or_eq_of_mem_set ho with ho | rfl
            · exact tl o ho
            · exact hov
          · by_cases hk : m.k = k'
            · exact .inl ⟨_, set_eq hp (hpk.trans hk) hk (hk ▸ hK), rfl⟩
            · rcases I.put k' with ⟨q, e, e'⟩ | hno
              · exact .inl ⟨q, by rw [set_ne (y := ⟨1, m.k, clamp (p.v + m.v)⟩) hp (fun q => hk (hpk.symm.trans q)) hk, e], e'⟩
              · refine .inr fun q hq hqk => ?_
                rcases List.mem_or_eq_of_mem_set hq with hq | rfl
                · exact hno q hq hqk
                · exact absurd hqk hk
        rw [shGo_all k x post _ I', getAll_app, getAll_app, getAll_cons]
        by_cases hk : m.k = k
        · have e1 : getAll k x (out.set j ⟨1, m.k, clamp (p.v + m.v)⟩) = getAll k x [⟨1, m.k, clamp (p.v + m.v)⟩] := by
            have := set_eq (y := ⟨1, m.k, clamp (p.v + m.v)⟩) hp (hpk.trans hk) hk (hk ▸ hK)
            rw [← getAll_filter]; exact congrArg _ this
          have e2 : getAll k x out = getAll k x [p] := by rw [← getAll_filter]; exact congrArg _ (hk ▸ hK : ofK k out = [p])
          have hpo := I.ok p hpm
          rw [e1, e2, if_pos ⟨hok, hk⟩]
          congr 1
          have o1 : (⟨1, m.k, clamp (p.v + m.v)⟩ : Ms).ok = true := by simp only [Ms.ok, decide_eq_true_eq]; exact ⟨by decide, by decide, by omega, by omega, hcl.1, hcl.2, .inr (.inl trivial)⟩
          rw [getAll_cons, getAll_cons, if_pos ⟨o1, hk⟩, if_pos ⟨hpo, hpk.trans hk⟩]
          simp [getAll, stepG, hop, hm3]
        · have e1 : getAll k x (out.set j ⟨1, m.k, clamp (p.v + m.v)⟩) = getAll k x out := by
            have := set_ne (k := k) (y := ⟨1, m.k, clamp (p.v + m.v)⟩) hp (fun q => hk (hpk.symm.trans q)) hk
            rw [← getAll_filter, ← getAll_filter k out]; exact congrArg _ this
          rw [e1, if_neg (fun q => hk q.2)]
      · rename_i h2
        have hset : m.op = 1 ∨ m.op = 2 → ∀ o, o ∈ out → o.k ≠ m.k := by
          intro h o ho e
          have := I.no o ho
          simp [over, hok, e] at this
          have := this.1
          omega
        have I' : ShI (out ++ [m]) post := by
          refine ⟨fun o ho => ?_, fun o ho => ?_, fun k' => ?_⟩
          · rcases List.mem_append.1 ho with ho | ho
            · exact I.ok o ho
            · simp at ho; subst ho; exact hok
          · rcases List.mem_append.1 ho with ho | ho
            · exact tl o ho
            · simp at ho; subst ho; exact hov
          · by_cases hk : m.k = k'
            · by_cases hs : m.op = 1 ∨ m.op = 2
              · have hnil : ofK k' out = [] := List.filter_eq_nil_iff.2 fun o ho => by have := hset hs o ho; simp; omega
                by_cases h1 : m.op = 1
                · refine .inl ⟨m, ?_, h1⟩
                  unfold ofK at hnil ⊢
                  rw [List.filter_append, hnil]; simp [hk]
                · refine .inr fun q hq hqk => ?_
                  rcases List.mem_append.1 hq with hq | hq
                  · exact absurd (hqk.trans hk.symm) (hset hs q hq)
                  · simp at hq; subst hq; exact h1
              · refine .inr fun q hq hqk => ?_
                rcases List.mem_append.1 hq with hq | hq
                · rcases I.put k' with ⟨p, e, e'⟩ | hno
                  · exfalso
                    apply h2
                    have hp : p ∈ out := by have : p ∈ ofK k' out := by rw [e]; simp
                                            exact (List.mem_filter.1 this).1
                    have hpk : p.k = k' := by have : p ∈ ofK k' out := by rw [e]; simp
                                              simpa using (List.mem_filter.1 this).2
                    rcases firstK_at m.k out 0 with hn | ⟨j, y, hj, hy, hyk⟩
                    · exact absurd hn (firstK_some hp (hpk.trans hk.symm))
                    · rw [Nat.zero_add] at hj
                      have hyo : y = p := by
                        have : y ∈ ofK k' out := List.mem_filter.2 ⟨List.mem_of_getElem? hy, by simp [hyk, hk]⟩
                        rw [e] at this; simpa using this
                      refine ⟨by omega, ?_, by omega⟩
                      rw [hj, Int.toNat_natCast]
                      simp [List.getD, hy, hyo, e']
                  · exact hno q hq hqk
                · simp at hq; subst hq; omega
            · rcases I.put k' with ⟨p, e, e'⟩ | hno
              · refine .inl ⟨p, ?_, e'⟩
                unfold ofK at e ⊢
                rw [List.filter_append, e]; simp [hk]
              · refine .inr fun q hq hqk => ?_
                rcases List.mem_append.1 hq with hq | hq
                · exact hno q hq hqk
                · simp at hq; subst hq; exact absurd hqk hk
        rw [shGo_all k x post _ I', List.append_assoc]
        rfl
theorem shrink_all (k : Int) (x : Int × Bool) (ms : List Ms) : getAll k x (shrink ms) = getAll k x ms :=
  shGo_all k x ms [] ⟨fun o ho => by simp at ho, fun o ho => by simp at ho, fun k => .inr fun p hp => by simp at hp⟩
theorem shGo_buf {lo hi : Int} : ∀ (post out : List Ms), (∀ o, o ∈ out → bufOk lo hi o = true) → (∀ m, m ∈ post → bufOk lo hi m = true) → ∀ o, o ∈ shGo out post → bufOk lo hi o = true
  | [], out, h, _, o, ho => h o ho
  | m :: post, out, h, hp, o, ho => by
    have hm := hp m List.mem_cons_self
    have hp' := fun x (hx : x ∈ post) => hp x (List.mem_cons_of_mem _ hx)
    rw [shGo] at ho
    split at ho
    · exact shGo_buf post out h hp' o ho
    · split at ho
      · refine shGo_buf post _ (fun y hy => ?_) hp' o ho
        rcases List.mem_or_eq_of_mem_set hy with hy | rfl
        · exact h y hy
        · obtain ⟨a1, a2, a3, a4⟩ := bufOk_in hm
          simp only [Ms.ok, decide_eq_true_eq] at a1
          have hcl := clamp_ok ((out.getD (firstK m.k out 0).toNat default).v + m.v)
          simp only [bufOk, Bool.and_eq_true, decide_eq_true_eq, inK, Ms.ok]
          exact ⟨⟨⟨by decide, by decide, by omega, by omega, hcl.1, hcl.2, .inr (.inl trivial)⟩, by decide⟩, by omega, by omega⟩
      · refine shGo_buf post _ (fun y hy => ?_) hp' o ho
        rcases List.mem_append.1 hy with hy | hy
        · exact h y hy
        · simp at hy; subst hy; exact hm
theorem shrink_buf {lo hi : Int} {ms : List Ms} (h : ∀ m, m ∈ ms → bufOk lo hi m = true) : ∀ o, o ∈ shrink ms → bufOk lo hi o = true :=
  shGo_buf ms [] (fun o ho => by simp at ho) h
end Go.Proofs.Ytjjocahgbmibeaa

namespace Go.Proofs.Ytjjocahgbmibeaa
open Go.Eng
set_option linter.unusedVariables false
set_option linter.unusedSimpArgs false
mutual
/-- A measure that a message raises by one at most, and of which each leaf has two at least. -/
def Tr.q : Tr → Nat
  | .mk l ps _ ks bs => (if l = true then max ps.length 2 else 0) + bs.length + Tr.qL ks
def Tr.qL : List Tr → Nat
  | [] => 0
  | k :: ks => Tr.q k + Tr.qL ks
end
theorem Tr.q_eq (t : Tr) : t.q = (if t.leaf = true then max t.ps.length 2 else 0) + t.bs.length + Tr.qL t.ks := by cases t; rfl
theorem Tr.qL_app : ∀ a b : List Tr, Tr.qL (a ++ b) = Tr.qL a + Tr.qL b
  | [], b => by simp [Tr.qL]
  | k :: a, b => by have := Tr.qL_app a b; simp only [List.cons_append, Tr.qL]; omega
theorem qL_ge {n : Nat} : ∀ {ts : List Tr}, (∀ t, t ∈ ts → n ≤ t.q) → ts.length * n ≤ Tr.qL ts
  | [], _ => by simp [Tr.qL]
  | t :: ts, h => by
    have h1 := qL_ge fun x hx => h x (List.mem_cons_of_mem _ hx)
    have h2 := h t List.mem_cons_self
    simp only [Tr.qL, List.length_cons, Nat.succ_mul]; omega
theorem R.q : ∀ {d : Nat} {t : Tr} {lo hi : Int}, R d t lo hi → 2 ^ d ≤ t.q
  | 0, _, _, _, h => h.elim
  | d + 1, t, lo, hi, h => by
    rw [Tr.q_eq]
    rcases h with ⟨h0, h1, _⟩ | ⟨h0, h1, h2, h3, h4, h5, h6, h7⟩
    · subst h0; rw [if_pos h1]; simp; omega
    · have := qL_ge (n := 2 ^ d) (ts := t.ks) fun x hx => by obtain ⟨a, b, hr⟩ := h7.mem x hx; exact hr.q
      have := Nat.mul_le_mul_right (2 ^ d) h3
      rw [Nat.pow_succ]; omega
theorem bufOk_mk {lo hi : Int} {m : Ms} (h1 : m.ok = true) (h2 : m.op ≠ 4) (h3 : lo ≤ m.k) (h4 : m.k < hi) : bufOk lo hi m = true := by
  simp only [bufOk, inK, Bool.and_eq_true, decide_eq_true_eq]
  exact ⟨⟨h1, h2⟩, h3, by omega⟩
theorem In.none {lo hi k : Int} {ps : List Pr} (h : In lo hi ps) (hk : ¬ (lo ≤ k ∧ k < hi)) : mapGet k ps = (0, false) :=
  mapGet_none k fun p hp e => by have := h.low p hp; have := h.2 p hp; omega
theorem mapAll_app (ps : List Pr) (a b : List Ms) : mapAll (mapAll ps a) b = mapAll ps (a ++ b) := List.foldl_append.symm
/-- What giving must do. -/
def GO (n : Nat) (g : Tr → List Ms → Mn) : Prop := ∀ t ms lo hi, R n t lo hi → (∀ m, m ∈ ms → bufOk lo hi m = true) →
  Ch (R n) lo hi (g t ms).ts (g t ms).cs ∧ mapTL (g t ms).ts = mapAll (mapT t) ms ∧ Tr.qL (g t ms).ts ≤ t.q + ms.length
theorem downF_ok {n : Nat} {g : Tr → List Ms → Mn} (HG : GO n g) {cs : List Int} {i : Nat} {buf : List Ms} {t : Tr} {a b : Int} (ht : R n t a b) (hb : ∀ m, m ∈ mine cs i buf → bufOk a b m = true) :
    Ch (R n) a b (downF g cs buf i t).ts (downF g cs buf i t).cs ∧ mapTL (downF g cs buf i t).ts = mapAll (mapT t) (mine cs i buf) ∧ Tr.qL (downF g cs buf i t).ts ≤ t.q + (mine cs i buf).length := by
  unfold downF
  split
  · exact HG t _ a b ht hb
  · rename_i h
    have e : mine cs i buf = [] := List.eq_nil_of_length_eq_zero (by omega)
    rw [e]
    exact ⟨⟨t, rfl, ht⟩, by simp [mapTL, mapAll], by simp [Tr.qL]⟩
theorem cnt_split (cs : List Int) (i : Nat) : ∀ buf : List Ms, (buf.filter fun m => decide (i ≤ kidP m.k cs)).length = (mine cs i buf).length + (buf.filter fun m => decide (i + 1 ≤ kidP m.k cs)).length
  | [] => rfl
  | m :: buf => by
    have ih := cnt_split cs i buf
    unfold mine at ih ⊢
    simp only [List.filter_cons]
    by_cases h1 : kidP m.k cs = i
    · rw [if_pos (by simp; omega), if_pos (by simp [h1]), if_neg (by simp; omega)]; simp; omega
    · by_cases h2 : i + 1 ≤ kidP m.k cs
      · rw [if_pos (by simp; omega), if_neg (by simp [h1]), if_pos (by simpa using h2)]; simp; omega
      · rw [if_neg (by simp; omega), if_neg (by simp [h1]), if_neg (by simpa using h2)]; omega
theorem mine_mem {cs : List Int} {i : Nat} {buf : List Ms} {m : Ms} (h : m ∈ mine cs i buf) : m ∈ buf ∧ kidP m.k cs = i := by
  have := List.mem_filter.1 h
  exact ⟨this.1, by simpa using this.2⟩
theorem catGo_down {n : Nat} {g : Tr → List Ms → Mn} {lo hi : Int} (HG : GO n g) {cs : List Int} {buf : List Ms} (hb : ∀ m, m ∈ buf → bufOk lo hi m = true) : ∀ (cs' : List Int) (ts' : List Tr) (i : Nat) (lo' : Int), Ch (R n) lo' hi ts' cs' → lo ≤ lo' →
    (∀ k, lo ≤ k → k < hi → (lo' ≤ k ↔ i ≤ kidP k cs)) → (∀ k, lo' ≤ k → k < hi → kidP k cs = i + kidP k cs') → cs.drop i = cs' →
    ∃ cu, (catGo (downF g cs buf) cs ts' i).cs = (if i = 0 then [] else [cs.getD (i - 1) 0]) ++ cu ∧ Ch (R n) lo' hi (catGo (downF g cs buf) cs ts' i).ts cu ∧
      (∀ k, lo' ≤ k → k < hi → mapGet k (mapTL (catGo (downF g cs buf) cs ts' i).ts) = getAll k (mapGet k (mapTL ts')) buf) ∧ Tr.qL (catGo (downF g cs buf) cs ts' i).ts ≤ Tr.qL ts' + (buf.filter fun m => decide (i ≤ kidP m.k cs)).length
  | [], ts', i, lo', h, hl, h1, h2, hd => by
    obtain ⟨t, rfl, ht⟩ := h
    have hm : ∀ m, m ∈ mine cs i buf → bufOk lo' hi m = true := fun m hm => by
      obtain ⟨hm1, hm2⟩ := mine_mem hm
      obtain ⟨c1, c2, c3, c4⟩ := bufOk_in (hb m hm1)
      exact bufOk_mk c1 c2 ((h1 m.k c3 c4).2 (by omega)) c4
    obtain ⟨a1, a2, a3⟩ := downF_ok HG ht hm
    have hs := cnt_split cs i buf
    simp only [catGo, List.append_nil]
    refine ⟨_, rfl, a1, fun k k1 k2 => ?_, ?_⟩
    · rw [a2, mapTL, mapTL, List.append_nil, get_mapAll k _ ht.in.ok]
      exact getAll_sub k _ fun m _ e => by have := h2 k k1 k2; simp [e, this, kidP]
    · simp only [Tr.qL]; omega
  | c :: cs'', ts', i, lo', h, hl, h1, h2, hd => by
    obtain ⟨t, ts'', rfl, ht, hc1, hc2, hrest⟩ := h
    have hm : ∀ m, m ∈ mine cs i buf → bufOk lo' c m = true := fun m hm => by
      obtain ⟨hm1, hm2⟩ := mine_mem hm
      obtain ⟨c1, c2, c3, c4⟩ := bufOk_in (hb m hm1)
      have e1 := (h1 m.k c3 c4).2 (by omega)
      refine bufOk_mk c1 c2 e1 ?_
      have e2 := h2 m.k e1 c4
      by_cases hk : c ≤ m.k
      · rw [kidP, if_pos hk] at e2; omega
      · omega
    obtain ⟨a1, a2, a3⟩ := downF_ok HG ht hm
    have hs := cnt_split cs i buf
    have hg : cs.getD i 0 = c := by
      have : (cs.drop i)[0]? = some c := by rw [hd]; rfl
      rw [List.getElem?_drop] at this
      simp only [Nat.add_zero] at this
      simp [List.getD, this]
    have hd' : cs.drop (i + 1) = cs'' := by rw [← List.drop_drop, hd]; rfl
    obtain ⟨cu, b1, b2, b3, b4⟩ := catGo_down HG hb cs'' ts'' (i + 1) c hrest (by omega) (fun k k1 k2 => by
      by_cases hk : lo' ≤ k
      · have e := h2 k hk k2
        simp only [kidP] at e
        split at e <;> omega
      · have := mt (h1 k k1 k2).2 hk; omega) (fun k k1 k2 => by
      have e := h2 k (by omega) k2
      rw [kidP, if_pos k1] at e; omega) hd'
    rw [if_neg (by omega), Nat.add_sub_cancel, hg] at b1
    simp only [catGo]
    rw [b1]
    refine ⟨(downF g cs buf i t).cs ++ c :: cu, by simp, Ch.app b2 hc2 a1 hc1, fun k k1 k2 => ?_, ?_⟩
    · rw [mapTL_app, mapTL]
      by_cases hk : c ≤ k
      · rw [mapGet_app k (fun p hp => by have := a1.inn.2 p hp; omega), mapGet_app k (fun p hp => by have := ht.in.2 p hp; omega)]
        exact b3 k hk k2
      · rw [mapGet_app' k (fun p hp => by have := b2.inn.low p hp; omega), mapGet_app' k (fun p hp => by have := hrest.inn.low p hp; omega), a2, get_mapAll k _ ht.in.ok]
        refine getAll_sub k _ fun m _ e => ?_
        have := h2 k k1 k2
        rw [kidP, if_neg hk] at this
        simp [e, this]
    · rw [Tr.qL_app]; simp only [Tr.qL]; omega
theorem down_ok {n : Nat} {g : Tr → List Ms → Mn} {lo hi : Int} {m : Mn} {buf : List Ms} (HG : GO n g) (hm : Ch (R n) lo hi m.ts m.cs) (hb : ∀ m, m ∈ buf → bufOk lo hi m = true) :
    Ch (R n) lo hi (down g m buf).ts (down g m buf).cs ∧ mapTL (down g m buf).ts = mapAll (mapTL m.ts) buf ∧ Tr.qL (down g m buf).ts ≤ Tr.qL m.ts + buf.length := by
  obtain ⟨cu, b1, b2, b3, b4⟩ := catGo_down HG hb m.cs m.ts 0 lo hm (Int.le_refl _) (fun k k1 k2 => by simp [k1]) (fun k k1 k2 => by omega) rfl
  rw [if_pos rfl, List.nil_append] at b1
  unfold down
  rw [b1]
  have hf := List.length_filter_le (fun x : Ms => decide (0 ≤ kidP x.k m.cs)) buf
  have hI : In lo hi (mapAll (mapTL m.ts) buf) := hm.inn.all fun x hx => by obtain ⟨_, _, c3, c4⟩ := bufOk_in (hb x hx); exact ⟨c3, c4⟩
  refine ⟨b2, map_ext b2.inn.1 hI.1 fun k => ?_, by omega⟩
  by_cases hr : lo ≤ k ∧ k < hi
  · rw [b3 k hr.1 hr.2, get_mapAll k _ hm.inn.ok]
  · rw [b2.inn.none hr, hI.none hr]
theorem mapGet_mid (k : Int) : ∀ {a b c : List Pr}, (∀ p, p ∈ b → p.k ≠ k) → mapGet k (a ++ (b ++ c)) = mapGet k (a ++ c)
  | [], b, c, h => mapGet_app k h
  | p :: a, b, c, h => by rw [List.cons_append, List.cons_append, mapGet, mapGet, mapGet_mid k h]
theorem rest_mem {cs : List Int} {i : Nat} {buf : List Ms} {m : Ms} (h : m ∈ rest cs i buf) : m ∈ buf := (List.mem_filter.1 h).1
theorem put_ok {n : Nat} {g : Tr → List Ms → Mn} {lo hi : Int} {m : Mn} {buf : List Ms} {i : Nat} {a : Tr} (HG : GO n g) (hm : Ch (R n) lo hi m.ts m.cs) (hb : ∀ m, m ∈ buf → bufOk lo hi m = true) (ha : m.ts[i]? = some a) :
    Ch (R n) lo hi (putM m i (g a (mine m.cs i buf))).ts (putM m i (g a (mine m.cs i buf))).cs ∧ mapAll (mapTL (putM m i (g a (mine m.cs i buf))).ts) (rest m.cs i buf) = mapAll (mapTL m.ts) buf ∧
      Tr.qL (putM m i (g a (mine m.cs i buf))).ts + (rest m.cs i buf).length ≤ Tr.qL m.ts + buf.length ∧ m.ts.length ≤ (putM m i (g a (mine m.cs i buf))).ts.length := by
  obtain ⟨lo', hi', r1, r2, r3, r4, r5, r6, r7⟩ := hm.at ha
  have hmm : ∀ x, x ∈ mine m.cs i buf → bufOk lo' hi' x = true := fun x hx => by
    obtain ⟨h1, h2⟩ := mine_mem hx
    obtain ⟨c1, c2, c3, c4⟩ := bufOk_in (hb x h1)
    have := (r4 x.k c3 c4).1 h2
    exact bufOk_mk c1 c2 this.1 this.2
  obtain ⟨x1, x2, x3⟩ := HG a (mine m.cs i buf) lo' hi' r1 hmm
  generalize g a (mine m.cs i buf) = x at x1 x2 x3 ⊢
  have hp := r7 x x1
  have eo : mapTL m.ts = mapTL (m.ts.take i) ++ (mapT a ++ mapTL (m.ts.drop (i + 1))) := by
    rw [← mapTL, ← mapTL_app, ← drop_at ha, List.take_append_drop]
  have en : mapTL (putM m i x).ts = mapTL (m.ts.take i) ++ (mapTL x.ts ++ mapTL (m.ts.drop (i + 1))) := by
    simp only [putM]; rw [mapTL_app, mapTL_app, List.append_assoc]
  have hq : Tr.qL m.ts = Tr.qL (m.ts.take i) + (a.q + Tr.qL (m.ts.drop (i + 1))) := by
    have e : m.ts = m.ts.take i ++ (a :: m.ts.drop (i + 1)) := by rw [← drop_at ha, List.take_append_drop]
    conv => lhs; rw [e]
    rw [Tr.qL_app, Tr.qL]
  have hq' : Tr.qL (putM m i x).ts = Tr.qL (m.ts.take i) + Tr.qL x.ts + Tr.qL (m.ts.drop (i + 1)) := by
    simp only [putM]; rw [Tr.qL_app, Tr.qL_app]
  have hmr := mine_rest m.cs i buf
  have hlt := (List.getElem?_eq_some_iff.1 ha).1
  have hxl := x1.len
  have hpi : In lo hi (mapTL (putM m i x).ts) := hp.inn
  have hoi := hm.inn
  have hB : In lo' hi' (mapT a) := r1.in
  have hB' : In lo' hi' (mapTL x.ts) := x1.inn
  refine ⟨hp, ?_, by omega, by simp only [putM, List.length_append, List.length_take, List.length_drop]; omega⟩
  refine map_ext (mapAll_ok _ hpi.ok) (mapAll_ok _ hoi.ok) fun k => ?_
  rw [get_mapAll k _ hpi.ok, get_mapAll k _ hoi.ok]
  by_cases hk : kidP k m.cs = i
  · rw [show getAll k (mapGet k (mapTL (putM m i x).ts)) (rest m.cs i buf) = mapGet k (mapTL (putM m i x).ts) from getAll_none k fun y hy e => by
      have := (List.mem_filter.1 hy).2
      simp [e, hk] at this]
    by_cases hr : lo ≤ k ∧ k < hi
    · obtain ⟨k1, k2⟩ := (r4 k hr.1 hr.2).1 hk
      rw [eo, en, mapGet_app k (fun p hp => by have := r5 p hp; omega), mapGet_app' k (fun p hp => by have := r6 p hp; omega), mapGet_app k (fun p hp => by have := r5 p hp; omega), mapGet_app' k (fun p hp => by have := r6 p hp; omega), x2, get_mapAll k _ hB.ok]
      exact getAll_sub k _ fun y _ e => by simp [e, hk]
    · rw [hpi.none hr, hoi.none hr]
      exact (getAll_none k fun y hy e => by obtain ⟨_, _, c3, c4⟩ := bufOk_in (hb y hy); omega).symm
  · have hn : ∀ (ps : List Pr), In lo' hi' ps → ∀ p, p ∈ ps → p.k ≠ k := fun ps hps p hp e => by
      have h1 := hps.low p hp
      have h2 := hps.2 p hp
      exact hk ((r4 k (by omega) (by omega)).2 ⟨by omega, by omega⟩)
    rw [eo, en, mapGet_mid k (hn _ hB'), mapGet_mid k (hn _ hB)]
    exact getAll_sub k _ fun y _ e => by simp [e, hk]
theorem pushGo_R {n : Nat} {g : Tr → List Ms → Mn} {lo hi : Int} (HG : GO n g) : ∀ (f : Nat) (m : Mn) (buf : List Ms), Ch (R n) lo hi m.ts m.cs → (∀ m, m ∈ buf → bufOk lo hi m = true) → 2 ≤ m.ts.length →
    Ch (R n) lo hi (pushGo g f m buf).1.ts (pushGo g f m buf).1.cs ∧ (∀ x, x ∈ (pushGo g f m buf).2 → bufOk lo hi x = true) ∧ mapAll (mapTL (pushGo g f m buf).1.ts) (pushGo g f m buf).2 = mapAll (mapTL m.ts) buf ∧
      Tr.qL (pushGo g f m buf).1.ts + (pushGo g f m buf).2.length ≤ Tr.qL m.ts + buf.length ∧ 2 ≤ (pushGo g f m buf).1.ts.length ∧ (buf.length ≤ f → (pushGo g f m buf).2.length ≤ 6)
  | 0, m, buf, h, hb, h2 => ⟨h, hb, rfl, Nat.le_refl _, h2, fun q => by simp only [pushGo]; omega⟩
  | f + 1, m, buf, h, hb, h2 => by
    rw [pushGo]
    split
    · rename_i h6
      have hlt := most_lt (m := m) (buf := buf) (by omega)
      have hmp := most_pos (m := m) (buf := buf) h.len (by omega)
      have hmr := mine_rest m.cs (most m buf) buf
      have ha : m.ts[most m buf]? = some m.ts[most m buf] := getD_at hlt
      have hg : m.ts.getD (most m buf) default = m.ts[most m buf] := by simp [List.getD, ha]
      rw [hg]
      obtain ⟨p1, p2, p3, p4⟩ := put_ok HG h hb ha
      obtain ⟨a1, a2, a3, a4, a5, a6⟩ := pushGo_R HG f _ (rest m.cs (most m buf) buf) p1 (fun x hx => hb x (rest_mem hx)) (by omega)
      exact ⟨a1, a2, a3.trans p2, by omega, a5, fun q => a6 (by omega)⟩
    · exact ⟨h, hb, rfl, Nat.le_refl _, h2, fun _ => by dsimp only; omega⟩
theorem Ch.cut {r : Tr → Int → Int → Prop} {hi : Int} : ∀ {k : Nat} {cs : List Int} {ts : List Tr} {lo : Int}, Ch r lo hi ts cs → k + 1 < ts.length → ∃ c, cs[k]? = some c ∧ Ch r lo c (ts.take (k + 1)) (cs.take k) ∧ Ch r c hi (ts.drop (k + 1)) (cs.drop (k + 1)) ∧ lo < c ∧ c < hi
  | k, [], ts, lo, h, hk => by obtain ⟨t, rfl, h⟩ := h; simp at hk
  | 0, c :: cs, ts, lo, h, hk => by
    obtain ⟨t, ts', rfl, h1, h2, h3, h4⟩ := h
    exact ⟨c, rfl, ⟨t, rfl, h1⟩, h4, h2, h3⟩
  | k + 1, c :: cs, ts, lo, h, hk => by
    obtain ⟨t, ts', rfl, h1, h2, h3, h4⟩ := h
    obtain ⟨c', a1, a2, a3, a4, a5⟩ := h4.cut (k := k) (by simpa using hk)
    exact ⟨c', by simpa using a1, ⟨t, ts'.take (k + 1), rfl, h1, h2, a4, a2⟩, a3, by omega, a5⟩
theorem mapT_node (cs : List Int) (ks : List Tr) (bs : List Ms) : mapT (nodeT cs ks bs) = mapAll (mapTL ks) bs := by rw [mapT_eq]; rfl
theorem packL_nil (f : Nat) (c : Option Int) (cs : List Int) : packL f c [] cs = ⟨[], []⟩ := by cases f <;> simp [packL]
theorem packL_ch {n : Nat} {hi : Int} (hn : 0 < n) : ∀ (f : Nat) (c : Option Int) (ts : List Tr) (cs : List Int) (lo : Int), ts.length ≤ f → ts.length ≠ 1 → Ch (R n) lo hi ts cs →
    ∃ cu, (packL f c ts cs).cs = c.toList ++ cu ∧ Ch (R (n + 1)) lo hi (packL f c ts cs).ts cu ∧ mapTL (packL f c ts cs).ts = mapTL ts ∧ Tr.qL (packL f c ts cs).ts = Tr.qL ts
  | 0, c, ts, cs, lo, hf, h1, h => by have := h.len; omega
  | f + 1, c, ts, cs, lo, hf, h1, h => by
    have hl := h.len
    obtain ⟨k1, k2, k3, k4⟩ := many_ok (n := ts.length) (by omega) h1
    simp only [packL, if_neg (show ¬ ts.length = 0 by omega)]
    obtain ⟨j, hj⟩ : ∃ j, many ts.length = j + 1 := ⟨many ts.length - 1, by omega⟩
    rw [hj] at k1 k2 k3 k4 ⊢
    rw [Nat.add_sub_cancel]
    have hq : ∀ (cs : List Int) (ks : List Tr), (nodeT cs ks []).q = Tr.qL ks := fun cs ks => by rw [Tr.q_eq]; simp [nodeT, Tr.leaf, Tr.bs, Tr.ks]
    by_cases hz : j + 1 < ts.length
    · obtain ⟨c', a1, a2, a3, a4, a5⟩ := h.cut hz
      obtain ⟨cu, b1, b2, b3, b4⟩ := packL_ch hn f cs[j]? (ts.drop (j + 1)) (cs.drop (j + 1)) c' (by simp; omega) (by simp; omega) a3
      refine ⟨c' :: cu, by rw [b1, a1]; rfl, ⟨_, _, rfl, .inr ⟨hn, rfl, rfl, ?_, ?_, by simp [nodeT, Tr.bs], by simp [nodeT, Tr.bs], a2⟩, a4, a5, b2⟩, ?_, ?_⟩
      · simp [nodeT, Tr.ks]; omega
      · simp [nodeT, Tr.ks]; omega
      · rw [mapTL, b3, mapT_node, mapAll, List.foldl_nil, ← mapTL_app, List.take_append_drop]
      · rw [Tr.qL, b4, hq, ← Tr.qL_app, List.take_append_drop]
    · have e1 : ts.take (j + 1) = ts := List.take_of_length_le (by omega)
      have e2 : cs.take j = cs := List.take_of_length_le (by omega)
      have e3 : ts.drop (j + 1) = [] := List.drop_eq_nil_of_le (by omega)
      rw [e1, e2, e3, packL_nil]
      refine ⟨[], rfl, ⟨_, rfl, .inr ⟨hn, rfl, rfl, ?_, ?_, by simp [nodeT, Tr.bs], by simp [nodeT, Tr.bs], h⟩⟩, ?_, ?_⟩
      · simp only [nodeT, Tr.ks]; omega
      · simp only [nodeT, Tr.ks]; omega
      · rw [mapTL, mapT_node]; simp [mapTL, mapAll]
      · rw [Tr.qL, hq]; simp [Tr.qL]
theorem pack_ok {n : Nat} {lo hi : Int} {m : Mn} (hn : 0 < n) (h : Ch (R n) lo hi m.ts m.cs) (h2 : 2 ≤ m.ts.length) : Ch (R (n + 1)) lo hi (pack m).ts (pack m).cs ∧ mapTL (pack m).ts = mapTL m.ts ∧ Tr.qL (pack m).ts = Tr.qL m.ts := by
  obtain ⟨cu, a1, a2, a3, a4⟩ := packL_ch hn m.ts.length none m.ts m.cs lo (Nat.le_refl _) (by omega) h
  unfold pack
  rw [a1]
  exact ⟨a2, a3, a4⟩
theorem mOk_split : ∀ {k : Nat} {ps : List Pr} {lo : Int} {a : Pr}, mOk lo ps = true → ps[k]? = some a → mOk lo (ps.take k) = true ∧ (∀ p, p ∈ ps.take k → p.k < a.k) ∧ mOk (a.k - 1) (ps.drop k) = true ∧ lo < a.k
  | _, [], _, _, _, ha => by simp at ha
  | 0, p :: ps, lo, a, h, ha => by
    simp at ha; subst ha
    simp only [mOk, Bool.and_eq_true, decide_eq_true_eq] at h
    refine ⟨rfl, by simp, ?_, h.1.1⟩
    simp only [List.drop_zero, mOk, Bool.and_eq_true, decide_eq_true_eq]
    exact ⟨by omega, h.2⟩
  | k + 1, p :: ps, lo, a, h, ha => by
    simp only [mOk, Bool.and_eq_true, decide_eq_true_eq] at h
    obtain ⟨a1, a2, a3, a4⟩ := mOk_split h.2 (k := k) (a := a) (by simpa using ha)
    refine ⟨?_, fun q hq => ?_, a3, by omega⟩
    · simp only [List.take_succ_cons, mOk, Bool.and_eq_true, decide_eq_true_eq]; exact ⟨h.1, a1⟩
    · rw [List.take_succ_cons] at hq
      rcases List.mem_cons.1 hq with rfl | hq
      · exact a4
      · exact a2 q hq
theorem In.split {lo hi : Int} {ps : List Pr} {k : Nat} {a : Pr} (h : In lo hi ps) (ha : ps[k]? = some a) (hk : 0 < k) : In lo a.k (ps.take k) ∧ In a.k hi (ps.drop k) ∧ lo < a.k ∧ a.k < hi := by
  obtain ⟨a1, a2, a3, a4⟩ := mOk_split h.1 ha
  have hlt := (List.getElem?_eq_some_iff.1 ha).1
  refine ⟨⟨a1, a2⟩, ⟨a3, fun p hp => h.2 p (List.mem_of_mem_drop hp)⟩, ?_, h.2 a (List.mem_of_getElem? ha)⟩
  have h0 : ps[0] ∈ ps.take k := List.mem_take_iff_getElem.2 ⟨0, by omega, rfl⟩
  have := a2 _ h0
  have := h.low _ (List.mem_of_mem_take h0)
  omega
theorem mapT_leaf (ps : List Pr) : mapT (leafT ps) = ps := by rw [mapT_eq]; simp [leafT, Tr.ps, Tr.ks, Tr.bs, mapTL, mapAll]
theorem R.leaf {lo hi : Int} {ps : List Pr} (h : In lo hi ps) (h4 : ps.length ≤ 4) : R 1 (leafT ps) lo hi := .inl ⟨rfl, rfl, h, h4, rfl, rfl, rfl⟩
theorem leafL_nil (f : Nat) (b : Bool) : leafL f b [] = ⟨[], []⟩ := by cases f <;> simp [leafL]
theorem leafL_ch {hi : Int} : ∀ (f : Nat) (b : Bool) (ps : List Pr) (lo : Int), ps.length ≤ f → ps.length ≠ 1 → 0 < ps.length → In lo hi ps →
    ∃ cu, (leafL f b ps).cs = (if b then [] else [(ps.getD 0 default).k]) ++ cu ∧ Ch (R 1) lo hi (leafL f b ps).ts cu ∧ mapTL (leafL f b ps).ts = ps ∧ Tr.qL (leafL f b ps).ts = ps.length
  | 0, b, ps, lo, hf, h1, h0, h => by omega
  | f + 1, b, ps, lo, hf, h1, h0, h => by
    obtain ⟨k1, k2, k3, k4⟩ := many_ok (n := ps.length) (by omega) h1
    simp only [leafL, if_neg (show ¬ ps.length = 0 by omega)]
    generalize hk : many ps.length = k at *
    have hq : ∀ l : List Pr, 2 ≤ l.length → (leafT l).q = l.length := fun l hl => by rw [Tr.q_eq]; simp [leafT, Tr.leaf, Tr.ps, Tr.bs, Tr.ks, Tr.qL]; omega
    by_cases hz : k < ps.length
    · obtain ⟨a, ha⟩ : ∃ a, ps[k]? = some a := ⟨_, getD_at hz⟩
      obtain ⟨i1, i2, i3, i4⟩ := h.split ha (by omega)
      obtain ⟨cu, b1, b2, b3, b4⟩ := leafL_ch f false (ps.drop k) a.k (by simp; omega) (by simp; omega) (by simp; omega) i2
      have hg : (ps.drop k).getD 0 default = a := by simp [List.getD, ha]
      rw [hg] at b1
      refine ⟨a.k :: cu, by rw [b1]; rfl, ⟨_, _, rfl, R.leaf i1 (by simp; omega), i3, i4, b2⟩, ?_, ?_⟩
      · rw [mapTL, b3, mapT_leaf, List.take_append_drop]
      · rw [Tr.qL, b4, hq _ (by simp; omega)]; simp; omega
    · have e1 : ps.take k = ps := List.take_of_length_le (by omega)
      have e3 : ps.drop k = [] := List.drop_eq_nil_of_le (by omega)
      rw [e1, e3, leafL_nil]
      refine ⟨[], rfl, ⟨_, rfl, R.leaf h (by omega)⟩, ?_, ?_⟩
      · simp [mapTL, mapT_leaf]
      · rw [Tr.qL, hq _ (by omega)]; simp [Tr.qL]
theorem leaves_ok {lo hi : Int} {ps : List Pr} (h : In lo hi ps) : Ch (R 1) lo hi (leavesOf ps).ts (leavesOf ps).cs ∧ mapTL (leavesOf ps).ts = ps ∧ Tr.qL (leavesOf ps).ts ≤ max ps.length 2 := by
  unfold leavesOf
  split
  · rename_i h4
    exact ⟨⟨_, rfl, R.leaf h h4⟩, by simp [mapTL, mapT_leaf], by simp [Tr.qL, Tr.q_eq, leafT, Tr.leaf, Tr.ps, Tr.bs, Tr.ks]⟩
  · obtain ⟨cu, b1, b2, b3, b4⟩ := leafL_ch ps.length true ps lo (Nat.le_refl _) (by omega) (by omega) h
    rw [b1]
    exact ⟨b2, b3, by omega⟩
theorem mapAll_shrink {ps : List Pr} (h : mapOk ps = true) (ms : List Ms) : mapAll ps (shrink ms) = mapAll ps ms :=
  map_ext (mapAll_ok _ h) (mapAll_ok _ h) fun k => by rw [get_mapAll k _ h, get_mapAll k _ h, shrink_all]
theorem give_ok : ∀ n : Nat, GO n (give n)
  | 0, t, ms, lo, hi, h, _ => h.elim
  | n + 1, t, ms, lo, hi, h, hb => by
    rw [give]
    rcases h with ⟨h0, h1, h2, h3, h4, h5, h6⟩ | ⟨h0, h1, h2, h3, h4, h5, h6, h7⟩
    · subst h0
      have e : mapT t = t.ps := by rw [mapT_eq, h5, h6, mapTL, List.append_nil]; rfl
      have hI : In lo hi (mapAll t.ps ms) := h2.all fun x hx => by obtain ⟨_, _, c3, c4⟩ := bufOk_in (hb x hx); exact ⟨c3, c4⟩
      obtain ⟨a1, a2, a3⟩ := leaves_ok hI
      have := mapAll_len ms t.ps
      rw [if_pos h1, e, Tr.q_eq, if_pos h1]
      exact ⟨a1, a2, by omega⟩
    · rw [if_neg (by simp [h1])]
      have HG := give_ok n
      have hall : ∀ x, x ∈ t.bs ++ ms → bufOk lo hi x = true := fun x hx => (List.mem_append.1 hx).elim (h6 x) (hb x)
      have hs := shrink_len (t.bs ++ ms)
      rw [List.length_append] at hs
      have eT : mapAll (mapT t) ms = mapAll (mapTL t.ks) (shrink (t.bs ++ ms)) := by
        rw [mapT_eq, h2, List.nil_append, mapAll_app, mapAll_shrink h7.inn.ok]
      have eq : t.q = t.bs.length + Tr.qL t.ks := by rw [Tr.q_eq, if_neg (by simp [h1])]; omega
      obtain ⟨a1, a2, a3, a4, a5, a6⟩ := pushGo_R HG (shrink (t.bs ++ ms)).length ⟨t.ks, t.cs⟩ (shrink (t.bs ++ ms)) h7 (shrink_buf hall) h3
      have a6 := a6 (Nat.le_refl _)
      generalize pushGo (give n) (shrink (t.bs ++ ms)).length ⟨t.ks, t.cs⟩ (shrink (t.bs ++ ms)) = p at a1 a2 a3 a4 a5 a6 ⊢
      obtain ⟨m, buf⟩ := p
      dsimp only at a1 a2 a3 a4 a5 a6
      rw [eT, ← a3]
      unfold fin'
      split
      · rename_i h5'
        obtain ⟨b1, b2, b3⟩ := down_ok HG a1 a2
        have hge := (down_wf (fun t ms ht => give_wf n t ms ht) a1.wf buf).2.2
        obtain ⟨c1, c2, c3⟩ := pack_ok h0 b1 (by omega)
        exact ⟨c1, c2.trans b2, by rw [c3]; omega⟩
      · rename_i h5'
        dsimp only at h5' ⊢
        refine ⟨⟨_, rfl, .inr ⟨h0, rfl, rfl, a5, by simp only [nodeT, Tr.ks]; omega, a6, a2, a1⟩⟩, by simp [mapTL, mapT_node], ?_⟩
        simp only [Tr.qL]; rw [Tr.q_eq]
        simp only [nodeT, Tr.leaf, Tr.ks, Tr.bs, Bool.false_eq_true, if_false]
        omega
theorem rootF_ok {lo hi : Int} : ∀ (f n : Nat) (m : Mn), Ch (R n) lo hi m.ts m.cs → 0 < n → m.ts.length ≤ f → ∃ n', 0 < n' ∧ Ch (R n') lo hi (rootF f m).ts (rootF f m).cs ∧ mapTL (rootF f m).ts = mapTL m.ts ∧ Tr.qL (rootF f m).ts = Tr.qL m.ts ∧ (rootF f m).ts.length ≤ 4
  | 0, n, m, h, hn, hf => by have := h.len; omega
  | f + 1, n, m, h, hn, hf => by
    rw [rootF]
    split
    · obtain ⟨a1, a2, a3⟩ := pack_ok hn h (by omega)
      obtain ⟨_, _, hp⟩ := pack_wf hn h.wf (by omega)
      obtain ⟨n', b1, b2, b3, b4, b5⟩ := rootF_ok f (n + 1) (pack m) a1 (by omega) (by omega)
      exact ⟨n', b1, b2, b3.trans a2, b4.trans a3, b5⟩
    · exact ⟨n, hn, h, rfl, rfl, by omega⟩
theorem root_ok {n : Nat} {lo hi : Int} {m : Mn} (hn : 0 < n) (h : Ch (R n) lo hi m.ts m.cs) : ∃ n', R n' (root m) lo hi ∧ mapT (root m) = mapTL m.ts ∧ (root m).q = Tr.qL m.ts := by
  obtain ⟨n', b1, b2, b3, b4, b5⟩ := rootF_ok m.ts.length n m h hn (Nat.le_refl _)
  unfold root rootT
  generalize rootF m.ts.length m = p at b2 b3 b4 b5 ⊢
  obtain ⟨ts, cs⟩ := p
  dsimp only at b2 b3 b4 b5 ⊢
  have hl := b2.len
  split
  · match ts, cs with
    | [t], [] =>
      obtain ⟨t', e, ht⟩ := b2
      obtain rfl : t = t' := by simpa using e
      exact ⟨n', ht, by simpa [mapTL] using b3, by simpa [Tr.qL] using b4⟩
    | [t], c :: cs => simp at hl
  · refine ⟨n' + 1, .inr ⟨b1, rfl, rfl, by simp only [nodeT, Tr.ks]; omega, b5, by simp [nodeT, Tr.bs], by simp [nodeT, Tr.bs], b2⟩, by rw [mapT_node]; exact b3, ?_⟩
    rw [Tr.q_eq]
    simp only [nodeT, Tr.leaf, Tr.ks, Tr.bs, Bool.false_eq_true, if_false, List.length_nil]
    omega
theorem R.ok {n : Nat} {t : Tr} (h : R n t 0 1000) (hq : t.q < 256) : treeOk t = true ∧ tdepth t = n ∧ n ≤ 7 := by
  have h2 := h.q
  have hn : n ≤ 7 := by
    by_cases h8 : n ≤ 7
    · exact h8
    · have : 2 ^ 8 ≤ 2 ^ n := Nat.pow_le_pow_right (by decide) (by omega)
      omega
  have e := depth_of_R n t 0 1000 h 7 hn
  have hp : 0 < n := by
    cases n with
    | zero => exact h.elim
    | succ n => omega
  exact ⟨by unfold treeOk tdepth; rw [e]; simpa using hp, e, hn⟩
theorem R_of_ok {t : Tr} (h : treeOk t = true) : R (tdepth t) t 0 1000 := R_of_depth 7 t 0 1000 (of_decide_eq_true h)
theorem bufOk_all {m : Ms} (h : m.ok = true) (h4 : m.op ≠ 4) : bufOk 0 1000 m = true := by
  have h' := h
  simp only [Ms.ok, decide_eq_true_eq] at h'
  exact bufOk_mk h h4 (by omega) (by omega)
/-- A message to a right tree. -/
theorem inject_map {t : Tr} {m : Ms} (ht : treeOk t = true) (hm : m.ok = true) (h4 : m.op ≠ 4) (hq : t.q ≤ 250) : treeOk (inject t m) = true ∧ tmap (inject t m) = mapDo (tmap t) m ∧ (inject t m).q ≤ t.q + 1 := by
  have hR := R_of_ok ht
  obtain ⟨a1, a2, a3⟩ := give_ok (tdepth t) t [m] 0 1000 hR (fun x hx => by simp at hx; subst hx; exact bufOk_all hm h4)
  obtain ⟨n', b1, b2, b3⟩ := root_ok (treeOk_wf ht).2.1 a1
  rw [List.length_singleton] at a3
  obtain ⟨c1, _, _⟩ := b1.ok (by omega)
  have e : inject t m = root (give (tdepth t) t [m]) := by unfold inject; rw [if_pos ⟨ht, hm, h4⟩, if_pos c1]
  rw [e]
  refine ⟨c1, ?_, by omega⟩
  rw [tmap, if_pos c1, tmap, if_pos ht, b2, a2]; rfl
mutual
theorem nm_q : ∀ t : Tr, t.nm ≤ t.q
  | .mk l ps cs ks bs => by have := nmL_q ks; simp only [Tr.nm, Tr.q]; omega
theorem nmL_q : ∀ ks : List Tr, Tr.nmL ks ≤ Tr.qL ks
  | [] => by simp [Tr.nmL, Tr.qL]
  | k :: ks => by have := nm_q k; have := nmL_q ks; simp only [Tr.nmL, Tr.qL]; omega
end
theorem catGo_same {n : Nat} {hi : Int} {f : Nat → Tr → Mn} (H : ∀ i t lo hi, R n t lo hi → Ch (R n) lo hi (f i t).ts (f i t).cs ∧ mapTL (f i t).ts = mapT t ∧ Tr.qL (f i t).ts ≤ t.q ∧ Tr.nmL (f i t).ts = 0) {cs : List Int} : ∀ (cs' : List Int) (ts' : List Tr) (i : Nat) (lo : Int), Ch (R n) lo hi ts' cs' → cs.drop i = cs' →
    ∃ cu, (catGo f cs ts' i).cs = (if i = 0 then [] else [cs.getD (i - 1) 0]) ++ cu ∧ Ch (R n) lo hi (catGo f cs ts' i).ts cu ∧ mapTL (catGo f cs ts' i).ts = mapTL ts' ∧ Tr.qL (catGo f cs ts' i).ts ≤ Tr.qL ts' ∧ Tr.nmL (catGo f cs ts' i).ts = 0
  | [], ts', i, lo, h, hd => by
    obtain ⟨t, rfl, ht⟩ := h
    obtain ⟨a1, a2, a3, a4⟩ := H i t lo hi ht
    simp only [catGo, List.append_nil]
    exact ⟨_, rfl, a1, by simpa [mapTL] using a2, by simpa [Tr.qL] using a3, a4⟩
  | c :: cs'', ts', i, lo, h, hd => by
    obtain ⟨t, ts'', rfl, ht, hc1, hc2, hrest⟩ := h
    obtain ⟨a1, a2, a3, a4⟩ := H i t lo c ht
    have hg : cs.getD i 0 = c := by
      have : (cs.drop i)[0]? = some c := by rw [hd]; rfl
      rw [List.getElem?_drop] at this
      simp only [Nat.add_zero] at this
      simp [List.getD, this]
    have hd' : cs.drop (i + 1) = cs'' := by rw [← List.drop_drop, hd]; rfl
    obtain ⟨cu, b1, b2, b3, b4, b5⟩ := catGo_same H cs'' ts'' (i + 1) c hrest hd'
    rw [if_neg (by omega), Nat.add_sub_cancel, hg] at b1
    simp only [catGo]
    rw [b1]
    refine ⟨(f i t).cs ++ c :: cu, by simp, Ch.app b2 hc2 a1 hc1, ?_, ?_, ?_⟩
    · rw [mapTL_app, mapTL, a2, b3]
    · rw [Tr.qL_app]; simp only [Tr.qL]; omega
    · rw [Tr.nmL_app]; omega
theorem packL_nm : ∀ (f : Nat) (c : Option Int) (ts : List Tr) (cs : List Int), Tr.nmL (packL f c ts cs).ts ≤ Tr.nmL ts
  | 0, c, ts, cs => by simp [packL, Tr.nmL]
  | f + 1, c, ts, cs => by
    simp only [packL]
    split
    · simp [Tr.nmL]
    · have ih := packL_nm f cs[many ts.length - 1]? (ts.drop (many ts.length)) (cs.drop (many ts.length))
      have e : Tr.nmL ts = Tr.nmL (ts.take (many ts.length)) + Tr.nmL (ts.drop (many ts.length)) := by rw [← Tr.nmL_app, List.take_append_drop]
      simp only [Tr.nmL]
      rw [Tr.nm_eq]
      simp only [nodeT, Tr.bs, Tr.ks, List.length_nil]
      omega
theorem rootF_nm : ∀ (f : Nat) (m : Mn), Tr.nmL (rootF f m).ts ≤ Tr.nmL m.ts
  | 0, m => Nat.le_refl _
  | f + 1, m => by
    rw [rootF]
    split
    · exact Nat.le_trans (rootF_nm f (pack m)) (packL_nm _ _ _ _)
    · exact Nat.le_refl _
theorem root_nm (m : Mn) (h : 0 < (rootF m.ts.length m).ts.length) : (root m).nm ≤ Tr.nmL m.ts := by
  have h1 := rootF_nm m.ts.length m
  unfold root rootT
  generalize rootF m.ts.length m = p at *
  obtain ⟨ts, cs⟩ := p
  dsimp only at *
  split
  · match ts, h with
    | t :: ts, _ => simp only [List.getD_cons_zero]; simp only [Tr.nmL] at h1; omega
  · rw [Tr.nm_eq]; simp only [nodeT, Tr.bs, Tr.ks, List.length_nil]; omega
theorem drainG_ok : ∀ (n : Nat) (t : Tr) (lo hi : Int), R n t lo hi → Ch (R n) lo hi (drainG n t).ts (drainG n t).cs ∧ mapTL (drainG n t).ts = mapT t ∧ Tr.qL (drainG n t).ts ≤ t.q ∧ Tr.nmL (drainG n t).ts = 0
  | 0, t, lo, hi, h => h.elim
  | n + 1, t, lo, hi, h => by
    rw [drainG]
    have hR := h
    rcases h with ⟨h0, h1, h2, h3, h4, h5, h6⟩ | ⟨h0, h1, h2, h3, h4, h5, h6, h7⟩
    · rw [if_pos h1]
      refine ⟨⟨t, rfl, hR⟩, by simp [mapTL], by simp [Tr.qL], ?_⟩
      simp only [Tr.nmL]; rw [Tr.nm_eq, h5, h6]; rfl
    · rw [if_neg (by simp [h1])]
      obtain ⟨d1, d2, d3⟩ := down_ok (m := ⟨t.ks, t.cs⟩) (give_ok n) h7 h6
      have hge := (down_wf (fun t ms ht => give_wf n t ms ht) (Ch.wf (m := ⟨t.ks, t.cs⟩) h7) t.bs).2.2
      have eT : mapT t = mapAll (mapTL t.ks) t.bs := by rw [mapT_eq, h2, List.nil_append]
      have eq : t.q = t.bs.length + Tr.qL t.ks := by rw [Tr.q_eq, if_neg (by simp [h1])]; omega
      generalize down (give n) ⟨t.ks, t.cs⟩ t.bs = M at d1 d2 d3 hge ⊢
      dsimp only at d2 d3 hge
      obtain ⟨cu, b1, b2, b3, b4, b5⟩ := catGo_same (f := fun _ => drainG n) (cs := M.cs) (fun _ t lo hi ht => drainG_ok n t lo hi ht) M.cs M.ts 0 lo d1 rfl
      rw [if_pos rfl, List.nil_append] at b1
      have hlen : M.ts.length ≤ (catGo (fun _ => drainG n) M.cs M.ts 0).ts.length := (catGo_ok n (fun _ => drainG n) (fun _ => 0) M.cs M.ts 0 (fun j t _ ht => by simpa using drainG_wf n t ht) d1.wf.2.2).2.2.2.2
      generalize catGo (fun _ => drainG n) M.cs M.ts 0 = o at b1 b2 b3 b4 b5 hlen ⊢
      obtain ⟨ts, cs⟩ := o
      dsimp only at b1 b2 b3 b4 b5 hlen
      subst b1
      rw [eT, ← d2, ← b3]
      unfold drainF
      split
      · rename_i h5'
        dsimp only at h5'
        obtain ⟨c1, c2, c3⟩ := pack_ok (m := ⟨ts, cs⟩) h0 b2 (by dsimp only; omega)
        have hnm := packL_nm ts.length none ts cs
        exact ⟨c1, c2, by rw [c3]; dsimp only; omega, by unfold pack; dsimp only; omega⟩
      · rename_i h5'
        dsimp only at h5' ⊢
        refine ⟨⟨_, rfl, .inr ⟨h0, rfl, rfl, by simp only [nodeT, Tr.ks]; omega, by simp only [nodeT, Tr.ks]; omega, by simp [nodeT, Tr.bs], by simp [nodeT, Tr.bs], b2⟩⟩, by simp [mapTL, mapT_node, mapAll], ?_, ?_⟩
        · simp only [Tr.qL]; rw [Tr.q_eq]
          simp only [nodeT, Tr.leaf, Tr.ks, Tr.bs, Bool.false_eq_true, if_false, List.length_nil]
          omega
        · simp only [Tr.nmL]; rw [Tr.nm_eq]; simp only [nodeT, Tr.ks, Tr.bs, List.length_nil]; omega
/-- A right tree drained. -/
theorem drain_map {t : Tr} (ht : treeOk t = true) (hq : t.q ≤ 250) : treeOk (drain t) = true ∧ tmap (drain t) = tmap t ∧ (drain t).nm = 0 ∧ (drain t).q ≤ t.q := by
  have hR := R_of_ok ht
  obtain ⟨a1, a2, a3, a4⟩ := drainG_ok (tdepth t) t 0 1000 hR
  obtain ⟨n', b1, b2, b3⟩ := root_ok (treeOk_wf ht).2.1 a1
  obtain ⟨c1, _, _⟩ := b1.ok (by omega)
  have e : drain t = root (drainG (tdepth t) t) := by unfold drain; rw [if_pos ht, if_pos c1]
  obtain ⟨n2, _, r2, _⟩ := rootF_ok _ _ _ a1 (treeOk_wf ht).2.1 (Nat.le_refl _)
  have hnm := root_nm (drainG (tdepth t) t) (by have := r2.len; omega)
  rw [e]
  refine ⟨c1, ?_, by omega, by omega⟩
  rw [tmap, if_pos c1, tmap, if_pos ht, b2, a2]
end Go.Proofs.Ytjjocahgbmibeaa
