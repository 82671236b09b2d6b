/- TreeRange of the program and of the reference tell the same of every tree and any two keys, in memory of their own, and leave the tree alone: no conditions. -/
import Derived.Test.YtfnndcpaldkkoaaOpnFnExactTreeRange
import Derived.Test.YtfnndcpaldkkoaaPFnExactTreeRangex
namespace Go.Proofs.Ytfnndcpaldkkoaa.Pure
open Go.RowKit Go.Proofs.Ytfnndcpaldkkoaa.PFnExactTreeRange Go.Proofs.YtfnndcpaldkkoaaW.PrintWords Go.Proofs.YtfnndcpaldkkoaaW.PrintLast Go.Proofs.YtfnndcpaldkkoaaW.PrintMore Go.Proofs.Ytfnndcpaldkkoaa.OpnFnExactTreeRange

theorem w64 {x : Int} (h0 : -9223372036854775808 ≤ x) (h1 : x ≤ 9223372036854775807) : wrap64 x = x := by
  unfold wrap64
  omega

theorem wf_i64 {a : Int} (h : (Lit.int .i64 a).wf = true) : -9223372036854775808 ≤ a ∧ a ≤ 9223372036854775807 := by
  simp [Lit.wf] at h
  have h1 : IntKind.min .i64 = -9223372036854775808 := by decide
  have h2 : IntKind.max .i64 = 9223372036854775807 := by decide
  omega


/-- From some number of rounds on, f tells v. -/
def Ev {α : Type} (f : Nat → Option α) (v : α) : Prop := ∃ k0, ∀ k, k0 ≤ k → f k = some v
theorem ev_of {α : Type} {f : Nat → Option α} {v : α} (n : Nat) (h : ∀ k, n < k → f k = some v) : Ev f v := ⟨n + 1, fun k hk => h k (by omega)⟩
theorem ev_all {α : Type} {f : Nat → Option α} {v : α} (h : ∀ k, f k = some v) : Ev f v := ⟨0, fun k _ => h k⟩
theorem ev_some {α : Type} (v : α) : Ev (fun _ => some v) v := ⟨0, fun _ _ => rfl⟩
theorem ev_eq {α : Type} {f : Nat → Option α} {v u : α} (h : Ev f v) (e : v = u) : Ev f u := e ▸ h
theorem ev_bind {α β : Type} {f : Nat → Option α} {g : Nat → α → Option β} {a : α} {b : β} (hf : Ev f a) (hg : Ev (fun k => g k a) b) : Ev (fun k => (f k).bind (g k)) b := by
  obtain ⟨m, hm⟩ := hf
  obtain ⟨n, hn⟩ := hg
  refine ⟨m + n, fun k hk => ?_⟩
  show (f k).bind (g k) = _
  rw [hm k (by omega)]
  exact hn k (by omega)
theorem ev_step {α : Type} {f g : Nat → Option α} {v : α} (e : ∀ k, f (k + 1) = g k) (h : Ev g v) : Ev f v := by
  obtain ⟨n, hn⟩ := h
  refine ⟨n + 1, fun k hk => ?_⟩
  obtain ⟨k, rfl⟩ : ∃ m, k = m + 1 := ⟨k - 1, by omega⟩
  rw [e]; exact hn k (by omega)
theorem ev_pos {α : Type} {f g : Nat → Option α} {v : α} {c : Prop} [Decidable c] (hc : c) (h : Ev f v) : Ev (fun k => if c then f k else g k) v := by simpa only [if_pos hc] using h
theorem ev_neg {α : Type} {f g : Nat → Option α} {v : α} {c : Prop} [Decidable c] (hc : ¬ c) (h : Ev g v) : Ev (fun k => if c then f k else g k) v := by simpa only [if_neg hc] using h
theorem ev_tt {α : Type} {f g : Nat → Option α} {v : α} (h : Ev f v) : Ev (fun k => if true = true then f k else g k) v := ev_pos rfl h

/-- From lo to hi. -/
def inR (a lo hi : Int) : Bool := decide (lo ≤ a) && decide (a ≤ hi)

theorem spec_in (a lo hi : Int) : spec_l1In.f a lo hi = some (inR a lo hi) := by
  unfold spec_l1In.f inR
  by_cases h : a ≥ lo
  · rw [if_pos h]; simp [h]
  · rw [if_neg h]; simp; omega

theorem spec_value (a : Int) : spec_l1Value.f a = some (inR a (-1000000000) 1000000000) := by
  unfold spec_l1Value.f
  rw [spec_in]; rfl

theorem impl_in (a lo hi : Int) : impl_within.f a lo hi = some (inR a lo hi) := by
  unfold impl_within.f inR
  by_cases h : a ≥ lo
  · rw [if_pos h]; simp [h]
  · rw [if_neg h]; simp; omega

theorem impl_key (a : Int) : impl_isKey.f a = some (inR a 0 999) := by
  unfold impl_isKey.f
  rw [impl_in]; rfl

theorem impl_num (a : Int) : impl_isNum.f a = some (inR a (-1000000000) 1000000000) := by
  unfold impl_isNum.f
  rw [impl_in]; rfl

theorem drop_Pair (l : List S92) (i : Int) (h0 : 0 ≤ i) (h1 : i < l.length) : l.drop i.toNat = rd_T92 l i :: l.drop (i + 1).toNat := by
  rw [List.drop_eq_getElem_cons (by omega)]
  congr 1
  · unfold rd_T92
    rw [List.getD_eq_getElem?_getD, List.getElem?_eq_getElem (by omega)]
    rfl
  · congr 1
    omega

theorem drop_Msg (l : List S72) (i : Int) (h0 : 0 ≤ i) (h1 : i < l.length) : l.drop i.toNat = rd_T72 l i :: l.drop (i + 1).toNat := by
  rw [List.drop_eq_getElem_cons (by omega)]
  congr 1
  · unfold rd_T72
    rw [List.getD_eq_getElem?_getD, List.getElem?_eq_getElem (by omega)]
    rfl
  · congr 1
    omega

theorem drop_Tree (l : List S34) (i : Int) (h0 : 0 ≤ i) (h1 : i < l.length) : l.drop i.toNat = rd_T34 l i :: l.drop (i + 1).toNat := by
  rw [List.drop_eq_getElem_cons (by omega)]
  congr 1
  · unfold rd_T34
    rw [List.getD_eq_getElem?_getD, List.getElem?_eq_getElem (by omega)]
    rfl
  · congr 1
    omega

/-- Pairs behind a key: ascending, each right. -/
def okFrom (prev : Int) : List S92 → Bool
  | [] => true
  | p :: r => inR p.f0 0 999 && inR p.f1 (-1000000000) 1000000000 && decide (prev < p.f0) && okFrom p.f0 r
def mapOk (l : List S92) : Bool := okFrom (-1) l

theorem okFrom_low (prev : Int) (hp : prev < 0) (l : List S92) : okFrom prev l = okFrom (-1) l := by
  cases l with
  | nil => rfl
  | cons p r =>
    simp only [okFrom]
    by_cases h : inR p.f0 0 999 = true
    · have : 0 ≤ p.f0 := by simp [inR] at h; omega
      simp [h, show prev < p.f0 by omega, show -1 < p.f0 by omega]
    · simp [h]
/-- The key ahead of place i. -/
def keyAhead (l : List S92) (i : Int) : Int := if i = 0 then -1 else (rd_T92 l (i - 1)).f0

theorem spec_mapok_l0 (l : List S92) (hl : l.length ≤ 140737488355328) (d : Nat) : ∀ (k : Nat) (i : Int), 0 ≤ i → i ≤ l.length → (l.length : Int) - i = d → d < k → spec_MapOk.l0 k l i = some (okFrom (keyAhead l i) (l.drop i.toNat)) := by
  induction d with
  | zero =>
    intro k i h0 h1 hd hk
    obtain ⟨k, rfl⟩ : ∃ m, k = m + 1 := ⟨k - 1, by omega⟩
    simp only [spec_MapOk.l0]; rw [if_neg (by omega), List.drop_of_length_le (by omega)]
    rfl
  | succ d ih =>
    intro k i h0 h1 hd hk
    obtain ⟨k, rfl⟩ : ∃ m, k = m + 1 := ⟨k - 1, by omega⟩
    have hn := ih k (i + 1) (by omega) (by omega) (by omega) (by omega)
    have hk1 : keyAhead l (i + 1) = (rd_T92 l i).f0 := by unfold keyAhead; rw [if_neg (by omega)]; congr 2; omega
    rw [hk1] at hn
    rw [drop_Pair l i h0 (by omega)]
    simp only [spec_MapOk.l0, okFrom]
    rw [if_pos (by omega), if_pos h0]
    skip
    simp only [spec_in, spec_value, Option.bind_some]
    rw [w64 (x := i + 1) (by omega) (by omega), hn]
    by_cases ha : inR (rd_T92 l i).f0 0 999 = true
    · rw [if_pos ha]
      by_cases hb : inR (rd_T92 l i).f1 (-1000000000) 1000000000 = true
      · rw [if_pos hb, ha, hb]
        by_cases hi : i > 0
        · rw [if_pos hi, w64 (x := i - 1) (by omega) (by omega), if_pos (by omega), if_pos (by omega)]
          have hka : keyAhead l i = (rd_T92 l (i - 1)).f0 := by unfold keyAhead; rw [if_neg (by omega)]
          rw [hka]
          by_cases hc : (rd_T92 l (i - 1)).f0 ≥ (rd_T92 l i).f0
          · rw [if_pos hc]; simp; omega
          · rw [if_neg hc]; simp; omega
        · rw [if_neg hi]
          have hka : keyAhead l i = -1 := by unfold keyAhead; rw [if_pos (by omega)]
          rw [hka]
          have : 0 ≤ (rd_T92 l i).f0 := by simp [inR] at ha; omega
          simp; omega
      · rw [if_neg hb]; simp [hb]
    · rw [if_neg ha]; simp [ha]

theorem spec_mapok (l : List S92) (hl : l.length ≤ 140737488355328) (k : Nat) (hk : l.length < k) : spec_MapOk.f k l = some (mapOk l) := by
  unfold spec_MapOk.f
  exact spec_mapok_l0 l hl l.length k 0 (by omega) (by omega) (by omega) (by omega)

theorem impl_mapok_l0 (l : List S92) (hl : l.length ≤ 140737488355328) (d : Nat) : ∀ (k : Nat) (i : Int), 0 ≤ i → i ≤ l.length → (l.length : Int) - i = d → d < k → impl_MapOk.l0 k l l l.length i = some (okFrom (keyAhead l i) (l.drop i.toNat)) := by
  induction d with
  | zero =>
    intro k i h0 h1 hd hk
    obtain ⟨k, rfl⟩ : ∃ m, k = m + 1 := ⟨k - 1, by omega⟩
    simp only [impl_MapOk.l0]; rw [if_neg (by omega), List.drop_of_length_le (by omega)]
    rfl
  | succ d ih =>
    intro k i h0 h1 hd hk
    obtain ⟨k, rfl⟩ : ∃ m, k = m + 1 := ⟨k - 1, by omega⟩
    have hn := ih k (i + 1) (by omega) (by omega) (by omega) (by omega)
    have hk1 : keyAhead l (i + 1) = (rd_T92 l i).f0 := by unfold keyAhead; rw [if_neg (by omega)]; congr 2; omega
    rw [hk1] at hn
    rw [drop_Pair l i h0 (by omega)]
    simp only [impl_MapOk.l0, okFrom]
    rw [if_pos (by omega), if_pos h0]
    rw [if_pos (by omega)]
    simp only [impl_key, impl_num, Option.bind_some]
    rw [w64 (x := i + 1) (by omega) (by omega), hn]
    by_cases ha : inR (rd_T92 l i).f0 0 999 = true
    · rw [if_pos ha]
      by_cases hb : inR (rd_T92 l i).f1 (-1000000000) 1000000000 = true
      · rw [if_pos hb, ha, hb]
        by_cases hi : i > 0
        · rw [if_pos hi, w64 (x := i - 1) (by omega) (by omega), if_pos (by omega), if_pos (by omega)]
          have hka : keyAhead l i = (rd_T92 l (i - 1)).f0 := by unfold keyAhead; rw [if_neg (by omega)]
          rw [hka]
          by_cases hc : (rd_T92 l (i - 1)).f0 ≥ (rd_T92 l i).f0
          · rw [if_pos hc]; simp; omega
          · rw [if_neg hc]; simp; omega
        · rw [if_neg hi]
          have hka : keyAhead l i = -1 := by unfold keyAhead; rw [if_pos (by omega)]
          rw [hka]
          have : 0 ≤ (rd_T92 l i).f0 := by simp [inR] at ha; omega
          simp; omega
      · rw [if_neg hb]; simp [hb]
    · rw [if_neg ha]; simp [ha]

theorem impl_mapok (l : List S92) (hl : l.length ≤ 140737488355328) (k : Nat) (hk : l.length < k) : impl_MapOk.f k l = some (mapOk l) := by
  unfold impl_MapOk.f
  exact impl_mapok_l0 l hl l.length k 0 (by omega) (by omega) (by omega) (by omega)

/-- MsgOk, as the document says it. -/
def msgOk (op k v : Int) : Bool := inR op 1 4 && inR k 0 999 && inR v (-1000000000) 1000000000 && (decide (v = 0) || decide (op = 1) || decide (op = 3))

theorem spec_msgok (op k v : Int) : spec_MsgOk.f op k v = some (msgOk op k v) := by
  unfold spec_MsgOk.f msgOk
  simp only [spec_in, spec_value, Option.bind_some]
  cases inR op 1 4 <;> cases inR k 0 999 <;> cases inR v (-1000000000) 1000000000 <;> simp
  by_cases h : v = 0 <;> by_cases h1 : op = 1 <;> by_cases h3 : op = 3 <;> simp_all

theorem impl_msgok (op k v : Int) (n : Nat) (hn : 1 < n) : impl_MsgOk.f n op k v = some (msgOk op k v) := by
  obtain ⟨n, rfl⟩ : ∃ m, n = m + 1 := ⟨n - 1, by omega⟩
  unfold impl_MsgOk.f msgOk
  simp only [impl_key, impl_num, impl_MsgOk.j0, Option.bind_some]
  have e1 : inR 1 1 4 = true := rfl
  have e2 : inR 2 1 4 = true := rfl
  have e3 : inR 3 1 4 = true := rfl
  have e4 : inR 4 1 4 = true := rfl
  have e0 : inR 0 (-1000000000) 1000000000 = true := rfl
  by_cases h1 : op = 1
  · subst h1
    cases inR k 0 999 <;> simp [e1]
  · by_cases h3 : op = 3
    · subst h3
      cases inR k 0 999 <;> simp [e3]
    · by_cases h2 : op = 2
      · subst h2
        by_cases hv : v = 0
        · subst hv; cases inR k 0 999 <;> simp [e2, e0]
        · cases inR k 0 999 <;> simp [hv]
      · by_cases h4 : op = 4
        · subst h4
          by_cases hv : v = 0
          · subst hv; cases inR k 0 999 <;> simp [e4, e0]
          · cases inR k 0 999 <;> simp [hv]
        · have : inR op 1 4 = false := by
            unfold inR
            simp; omega
          simp [this, h1, h2, h3, h4]

/-- The place of the first pair of a key, from place i on; -1 without it. -/
def idxFrom (a : Int) : List S92 → Int → Int
  | [], _ => -1
  | p :: r, i => if p.f0 = a then i else idxFrom a r (i + 1)
theorem idxFrom_cases (l : List S92) (a : Int) (d : Nat) : ∀ (i : Int), 0 ≤ i → i ≤ l.length → (l.length : Int) - i = d → idxFrom a (l.drop i.toNat) i = -1 ∨ (i ≤ idxFrom a (l.drop i.toNat) i ∧ idxFrom a (l.drop i.toNat) i < l.length ∧ (rd_T92 l (idxFrom a (l.drop i.toNat) i)).f0 = a) := by
  induction d with
  | zero => intro i h0 h1 hd; rw [List.drop_of_length_le (by omega)]; exact .inl rfl
  | succ d ih =>
    intro i h0 h1 hd
    have h := ih (i + 1) (by omega) (by omega) (by omega)
    rw [drop_Pair l i h0 (by omega)]
    simp only [idxFrom]
    by_cases ha : (rd_T92 l i).f0 = a
    · rw [if_pos ha]; exact .inr ⟨by omega, by omega, ha⟩
    · rw [if_neg ha]
      rcases h with h | ⟨x, y, z⟩
      · exact .inl h
      · exact .inr ⟨by omega, y, z⟩
def pairAt (l : List S92) (a : Int) : Int := idxFrom a l 0

/-- What a map tells of a key. -/
def mapGet (l : List S92) (a : Int) : Int × Bool := if pairAt l a < 0 then (0, false) else ((rd_T92 l (pairAt l a)).f1, true)
def getAt (l : List S92) (j : Int) : Int × Bool := if j < 0 then (0, false) else ((rd_T92 l j).f1, true)

theorem spec_mapget_l0 (l : List S92) (a : Int) (hl : l.length ≤ 140737488355328) (d : Nat) : ∀ (k : Nat) (i : Int), 0 ≤ i → i ≤ l.length → (l.length : Int) - i = d → d < k → spec_MapGet.l0 k l a i = some (getAt l (idxFrom a (l.drop i.toNat) i)) := by
  induction d with
  | zero =>
    intro k i h0 h1 hd hk
    obtain ⟨k, rfl⟩ : ∃ m, k = m + 1 := ⟨k - 1, by omega⟩
    simp only [spec_MapGet.l0]; rw [if_neg (by omega), List.drop_of_length_le (by omega)]
    rfl
  | succ d ih =>
    intro k i h0 h1 hd hk
    obtain ⟨k, rfl⟩ : ∃ m, k = m + 1 := ⟨k - 1, by omega⟩
    have hn := ih k (i + 1) (by omega) (by omega) (by omega) (by omega)
    rw [drop_Pair l i h0 (by omega)]
    simp only [spec_MapGet.l0, idxFrom]
    rw [if_pos (by omega), if_pos h0, w64 (x := i + 1) (by omega) (by omega), hn]
    by_cases ha : (rd_T92 l i).f0 = a
    · rw [if_pos ha, if_pos ha, getAt, if_neg (by omega)]
    · rw [if_neg ha, if_neg ha]

theorem spec_mapget (l : List S92) (a : Int) (hl : l.length ≤ 140737488355328) (k : Nat) (hk : l.length < k) : spec_MapGet.f k l a = some (mapGet l a) := by
  unfold spec_MapGet.f
  rw [spec_mapget_l0 l a hl l.length k 0 (by omega) (by omega) (by omega) (by omega)]
  rfl

def clampN (x : Int) : Int := if (if x < 1000000000 then x else 1000000000) > -1000000000 then (if x < 1000000000 then x else 1000000000) else -1000000000

/-- A key given a value in a map, as the reference does it: place by place. -/
def putFrom (a v : Int) : Bool → List S92 → List S92
  | put, [] => if put then [] else [⟨a, v⟩]
  | put, p :: r => (if put then [] else if p.f0 ≥ a then [⟨a, v⟩] else []) ++ (if p.f0 = a then [] else [p]) ++ putFrom a v (put || decide (p.f0 ≥ a)) r
/-- A map without a key. -/
def without (a : Int) : List S92 → List S92
  | [] => []
  | p :: r => if p.f0 = a then without a r else p :: without a r
/-- A right map behind a right message. -/
def changedBy (op a v : Int) (l : List S92) : List S92 :=
  if op = 1 then putFrom a v false l else if op = 2 then without a l else if op = 3 then putFrom a (clampN ((mapGet l a).1 + v)) false l else l
def mapDo (l : List S92) (op a v : Int) : List S92 := if mapOk l = true ∧ msgOk op a v = true then changedBy op a v l else l
/-- How many pairs stand ahead of a key. -/
def cutAt (a : Int) : List S92 → Nat
  | [] => 0
  | p :: r => if p.f0 < a then cutAt a r + 1 else 0
theorem cutAt_le (a : Int) (l : List S92) : cutAt a l ≤ l.length := by
  induction l with
  | nil => simp [cutAt]
  | cons p r ih =>
    simp only [cutAt, List.length_cons]
    split <;> omega
theorem okFrom_up {prev prev' : Int} (h : prev' ≤ prev) (l : List S92) (hl : okFrom prev l = true) : okFrom prev' l = true := by
  cases l with
  | nil => rfl
  | cons p r =>
    simp only [okFrom, Bool.and_eq_true, decide_eq_true_eq] at hl ⊢
    exact ⟨⟨hl.1.1, by omega⟩, hl.2⟩
theorem okFrom_gt {prev : Int} (l : List S92) (hl : okFrom prev l = true) : ∀ q ∈ l, prev < q.f0 ∧ 0 ≤ q.f0 ∧ q.f0 ≤ 999 ∧ -1000000000 ≤ q.f1 ∧ q.f1 ≤ 1000000000 := by
  induction l generalizing prev with
  | nil => intro q hq; cases hq
  | cons p r ih =>
    intro q hq
    simp only [okFrom, Bool.and_eq_true, decide_eq_true_eq, inR] at hl
    rcases List.mem_cons.1 hq with rfl | hq
    · omega
    · have := ih hl.2 q hq
      omega
theorem rd_P_mem (l : List S92) (i : Int) (h0 : 0 ≤ i) (h1 : i < l.length) : rd_T92 l i ∈ l := by
  unfold rd_T92
  rw [List.getD_eq_getElem?_getD, List.getElem?_eq_getElem (by omega)]
  exact List.getElem_mem _
theorem cutAt_iff {prev : Int} (a : Int) (l : List S92) (hl : okFrom prev l = true) : ∀ i : Nat, i < l.length → ((rd_T92 l i).f0 < a ↔ i < cutAt a l) := by
  induction l generalizing prev with
  | nil => intro i hi; simp at hi
  | cons p r ih =>
    intro i hi
    have hl2 : okFrom p.f0 r = true := by simp only [okFrom, Bool.and_eq_true] at hl; exact hl.2
    simp only [cutAt]
    cases i with
    | zero =>
      show p.f0 < a ↔ _
      split <;> omega
    | succ i =>
      have hr : rd_T92 (p :: r) ((i + 1 : Nat) : Int) = rd_T92 r (i : Nat) := rfl
      rw [hr]
      have h := ih hl2 i (by simpa using hi)
      split
      · rw [h]; omega
      · have := okFrom_gt r hl2 _ (rd_P_mem r (i : Nat) (by omega) (by simp at hi; omega))
        omega
/-- Whether a key is in a right map. -/
def foundAt (a : Int) (l : List S92) : Bool := decide (cutAt a l < l.length) && decide ((rd_T92 l (cutAt a l : Nat)).f0 = a)
theorem foundAt_cons (a : Int) (p : S92) (r : List S92) : foundAt a (p :: r) = if p.f0 < a then foundAt a r else decide (p.f0 = a) := by
  unfold foundAt
  by_cases h : p.f0 < a
  · have hc : cutAt a (p :: r) = cutAt a r + 1 := by simp only [cutAt, if_pos h]
    have hr : rd_T92 (p :: r) ((cutAt a r + 1 : Nat) : Int) = rd_T92 r (cutAt a r : Nat) := rfl
    simp only [hc, hr, if_pos h]
    simp
  · have hc : cutAt a (p :: r) = 0 := by simp only [cutAt, if_neg h]
    have hr : rd_T92 (p :: r) ((0 : Nat) : Int) = p := rfl
    simp only [hc, hr, if_neg h]
    simp
theorem putFrom_done (a v : Int) (l : List S92) (h : ∀ q ∈ l, q.f0 ≠ a) : putFrom a v true l = l := by
  induction l with
  | nil => rfl
  | cons p r ih =>
    simp only [putFrom, if_true, Bool.true_or, List.nil_append]
    rw [if_neg (h p (by simp)), ih (fun q hq => h q (by simp [hq]))]
    rfl
theorem putFrom_sorted {prev : Int} (a v : Int) (l : List S92) (hl : okFrom prev l = true) : putFrom a v false l = if foundAt a l = true then l.set (cutAt a l) ⟨(rd_T92 l (cutAt a l : Nat)).f0, v⟩ else l.take (cutAt a l) ++ [⟨a, v⟩] ++ l.drop (cutAt a l) := by
  induction l generalizing prev with
  | nil => rfl
  | cons p r ih =>
    have hl2 : okFrom p.f0 r = true := by simp only [okFrom, Bool.and_eq_true] at hl; exact hl.2
    have hg := okFrom_gt r hl2
    rw [foundAt_cons]
    simp only [putFrom, cutAt, Bool.false_or, Bool.false_eq_true, if_false]
    by_cases h : p.f0 < a
    · rw [if_neg (show ¬ p.f0 ≥ a by omega), if_neg (show ¬ p.f0 = a by omega), if_pos h, if_pos h, show decide (p.f0 ≥ a) = false by simp; omega, ih hl2]
      have hr : rd_T92 (p :: r) ((cutAt a r + 1 : Nat) : Int) = rd_T92 r (cutAt a r : Nat) := rfl
      rw [hr]
      split <;> simp
    · rw [if_pos (show p.f0 ≥ a by omega), if_neg h, if_neg h, show decide (p.f0 ≥ a) = true by simp; omega, putFrom_done a v r (fun q hq => by have := hg q hq; omega)]
      have hr : rd_T92 (p :: r) ((0 : Nat) : Int) = p := rfl
      by_cases he : p.f0 = a
      · subst he
        rw [if_pos rfl, if_pos (by simp), hr]
        simp
      · rw [if_neg he, if_neg (by simpa using he)]
        simp
theorem without_sorted {prev : Int} (a : Int) (l : List S92) (hl : okFrom prev l = true) : without a l = if foundAt a l = true then l.eraseIdx (cutAt a l) else l := by
  induction l generalizing prev with
  | nil => rfl
  | cons p r ih =>
    have hl2 : okFrom p.f0 r = true := by simp only [okFrom, Bool.and_eq_true] at hl; exact hl.2
    have hg := okFrom_gt r hl2
    rw [foundAt_cons]
    simp only [without, cutAt]
    by_cases h : p.f0 < a
    · rw [if_neg (show ¬ p.f0 = a by omega), if_pos h, if_pos h, ih hl2]
      split <;> simp
    · rw [if_neg h, if_neg h, ih hl2]
      have hn : foundAt a r = false := by
        unfold foundAt
        by_cases hc : cutAt a r < r.length
        · have := hg _ (rd_P_mem r (cutAt a r : Nat) (by omega) (by omega))
          simp [hc]; omega
        · simp [hc]
      rw [hn]
      by_cases he : p.f0 = a
      · simp [he]
      · simp [he]
theorem mapGet_sorted {prev : Int} (a : Int) (l : List S92) (hl : okFrom prev l = true) : mapGet l a = if foundAt a l = true then ((rd_T92 l (cutAt a l : Nat)).f1, true) else (0, false) := by
  have key : ∀ (l : List S92) (prev : Int) (i : Int), okFrom prev l = true → idxFrom a l i = if foundAt a l = true then i + cutAt a l else -1 := by
    intro l
    induction l with
    | nil => intro prev i _; rfl
    | cons p r ih =>
      intro prev i hl
      have hl2 : okFrom p.f0 r = true := by simp only [okFrom, Bool.and_eq_true] at hl; exact hl.2
      have hg := okFrom_gt r hl2
      rw [foundAt_cons]
      simp only [idxFrom, cutAt]
      by_cases h : p.f0 < a
      · rw [if_neg (show ¬ p.f0 = a by omega), if_pos h, if_pos h, ih p.f0 (i + 1) hl2]
        split <;> simp; omega
      · rw [if_neg h, if_neg h, ih p.f0 (i + 1) hl2]
        have hn : foundAt a r = false := by
          unfold foundAt
          by_cases hc : cutAt a r < r.length
          · have := hg _ (rd_P_mem r (cutAt a r : Nat) (by omega) (by omega))
            simp [hc]; omega
          · simp [hc]
        rw [hn]
        by_cases he : p.f0 = a
        · simp [he]
        · simp [he]
  unfold mapGet pairAt
  rw [key l prev 0 hl]
  by_cases hf : foundAt a l = true
  · rw [if_pos hf, if_pos hf, if_neg (by omega), show (0 : Int) + (cutAt a l : Int) = ((cutAt a l : Nat) : Int) by omega]
  · rw [if_neg hf, if_neg hf, if_pos (by omega)]
theorem putFrom_len (a v : Int) (l : List S92) : ∀ b : Bool, (putFrom a v b l).length ≤ l.length + (if b = true then 0 else 1) := by
  induction l with
  | nil => intro b; cases b <;> simp [putFrom]
  | cons p r ih =>
    intro b
    have h2 : (if p.f0 = a then [] else [p]).length ≤ 1 := by split <;> simp
    cases b with
    | true =>
      have h := ih true
      simp only [putFrom, if_true, Bool.true_or, List.length_append, List.length_cons, List.length_nil] at h ⊢
      omega
    | false =>
      by_cases hc : p.f0 ≥ a
      · have h := ih true
        simp only [putFrom, Bool.false_or, Bool.false_eq_true, if_false, if_pos hc, decide_eq_true hc, if_true, List.length_append, List.length_cons, List.length_nil] at h ⊢
        omega
      · have h := ih false
        simp only [putFrom, Bool.false_or, Bool.false_eq_true, if_false, if_neg hc, decide_eq_false hc, List.length_append, List.length_cons, List.length_nil] at h ⊢
        omega
theorem without_len (a : Int) (l : List S92) : (without a l).length ≤ l.length := by
  induction l with
  | nil => simp [without]
  | cons p r ih =>
    simp only [without]
    split
    · simp; omega
    · simp; omega
theorem mapDo_len (l : List S92) (op a v : Int) : (mapDo l op a v).length ≤ l.length + 1 := by
  unfold mapDo changedBy
  by_cases h : mapOk l = true ∧ msgOk op a v = true
  · rw [if_pos h]
    have h1 := putFrom_len a v l false
    have h2 := putFrom_len a (clampN ((mapGet l a).1 + v)) l false
    simp only [Bool.false_eq_true, if_false] at h1 h2
    have h3 := without_len a l
    split
    · exact h1
    · split
      · omega
      · split <;> omega
  · rw [if_neg h]
    omega

theorem spec_clamp (x : Int) : spec_l1Clamp.f x = some (clampN x) := by
  unfold spec_l1Clamp.f spec_l1Min.f spec_l1Max.f clampN
  by_cases h : x < 1000000000
  · simp only [if_pos h, Option.bind_some]
    split <;> rfl
  · simp only [if_neg h, Option.bind_some]
    rfl

theorem spec_put_l0 (l : List S92) (a v : Int) : ∀ (d : Nat) (out : List S92) (put : Bool) (i : Int), 0 ≤ i → i ≤ l.length → (l.length : Int) - i = d → l.length ≤ 140737488355328 → out.length + 2 * d + 2 ≤ 8796093022207 → Ev (fun k => spec_l1Put.l0 k l a v out put i) (out ++ putFrom a v put (l.drop i.toNat)) := by
  intro d
  induction d with
  | zero =>
    intro out put i h0 h1 hd hl ho
    rw [List.drop_of_length_le (by omega)]
    refine ev_step (fun k => by simp only [spec_l1Put.l0]; exact rfl) ?_
    refine ev_neg (by omega) ?_
    cases put with
    | true => exact ev_pos rfl (ev_eq (ev_some _) (by simp [putFrom]))
    | false => exact ev_neg (by simp) (ev_pos (by omega) (ev_some _))
  | succ d ih =>
    intro out put i h0 h1 hd hl ho
    rw [drop_Pair l i h0 (by omega)]
    have wi : wrap64 (i + 1) = i + 1 := w64 (by omega) (by omega)
    have go : ∀ (out : List S92) (put : Bool), out.length + 2 * d + 2 ≤ 8796093022207 → Ev (fun k => spec_l1Put.l0 k l a v out put (i + 1)) (out ++ putFrom a v put (l.drop (i + 1).toNat)) := fun out put h => ih out put (i + 1) (by omega) (by omega) (by omega) hl h
    have eta : (⟨(rd_T92 l i).f0, (rd_T92 l i).f1⟩ : S92) = rd_T92 l i := rfl
    have tail : ∀ (out : List S92) (put : Bool), out.length + 2 * d + 3 ≤ 8796093022207 → Ev (fun k => if (rd_T92 l i).f0 = a then spec_l1Put.l0 k l a v out put (i + 1) else if out.length < 8796093022208 then spec_l1Put.l0 k l a v (out ++ [rd_T92 l i]) put (i + 1) else none) (out ++ ((if (rd_T92 l i).f0 = a then [] else [rd_T92 l i]) ++ putFrom a v put (l.drop (i + 1).toNat))) := by
      intro out put h
      by_cases he : (rd_T92 l i).f0 = a
      · refine ev_pos he ?_
        rw [if_pos he, List.nil_append]
        exact go out put (by omega)
      · refine ev_neg he ?_
        rw [if_neg he, ← List.append_assoc]
        refine ev_pos (by omega) ?_
        exact go _ put (by simp; omega)
    have e1 : ∀ (b : Bool), (decide ((rd_T92 l i).f0 ≥ a) = b) → Ev (fun k => spec_l1Put.j1 k l a v out false i b) (out ++ putFrom a v false (rd_T92 l i :: l.drop (i + 1).toNat)) := by
      intro b hb
      refine ev_step (fun k => by simp only [spec_l1Put.j1, wi, eta]; exact rfl) ?_
      simp only [putFrom, Bool.false_or, Bool.false_eq_true, if_false, hb]
      cases b with
      | true =>
        refine ev_pos rfl ?_
        refine ev_pos (by omega) ?_
        refine ev_bind (ev_some _) ?_
        refine ev_pos h0 ?_
        refine ev_pos (by omega) ?_
        rw [if_pos (by simpa using hb)]
        have h := tail (out ++ [⟨a, v⟩]) true (by simp; omega)
        simp only [List.append_assoc] at h ⊢
        exact h
      | false =>
        refine ev_neg (by simp) ?_
        refine ev_pos h0 ?_
        refine ev_pos (by omega) ?_
        rw [if_neg (by simpa using hb), List.nil_append]
        exact tail out false (by omega)
    refine ev_step (fun k => by simp only [spec_l1Put.l0]; exact rfl) ?_
    refine ev_pos (by omega) ?_
    cases put with
    | true =>
      refine ev_pos rfl ?_
      refine ev_step (fun k => by simp only [spec_l1Put.j1, wi, eta]; exact rfl) ?_
      refine ev_neg (by simp) ?_
      refine ev_pos h0 ?_
      refine ev_pos (by omega) ?_
      simp only [putFrom, if_true, Bool.true_or, List.nil_append]
      exact tail out true (by omega)
    | false =>
      refine ev_neg (by simp) ?_
      refine ev_pos h0 ?_
      exact e1 _ rfl
theorem spec_put (l : List S92) (a v : Int) (hl : l.length ≤ 1048600) : Ev (fun k => spec_l1Put.f k l a v) (putFrom a v false l) := by
  unfold spec_l1Put.f
  exact spec_put_l0 l a v l.length [] false 0 (by omega) (by omega) (by omega) (by omega) (by simp; omega)

theorem spec_without_l0 (l : List S92) (a : Int) : ∀ (d : Nat) (out : List S92) (i : Int), 0 ≤ i → i ≤ l.length → (l.length : Int) - i = d → l.length ≤ 140737488355328 → out.length + d ≤ 8796093022207 → Ev (fun k => spec_l1Without.l0 k l a out i) (out ++ without a (l.drop i.toNat)) := by
  intro d
  induction d with
  | zero =>
    intro out i h0 h1 hd hl ho
    rw [List.drop_of_length_le (by omega)]
    refine ev_step (fun k => by simp only [spec_l1Without.l0]; exact rfl) ?_
    exact ev_neg (by omega) (ev_eq (ev_some _) (by simp [without]))
  | succ d ih =>
    intro out i h0 h1 hd hl ho
    rw [drop_Pair l i h0 (by omega)]
    have wi : wrap64 (i + 1) = i + 1 := w64 (by omega) (by omega)
    have eta : (⟨(rd_T92 l i).f0, (rd_T92 l i).f1⟩ : S92) = rd_T92 l i := rfl
    refine ev_step (fun k => by simp only [spec_l1Without.l0, wi, eta]; exact rfl) ?_
    refine ev_pos (by omega) ?_
    refine ev_pos h0 ?_
    simp only [without]
    by_cases he : (rd_T92 l i).f0 = a
    · refine ev_pos he ?_
      rw [if_pos he]
      exact ih out (i + 1) (by omega) (by omega) (by omega) hl (by omega)
    · refine ev_neg he ?_
      rw [if_neg he]
      refine ev_pos (by omega) ?_
      have h := ih (out ++ [rd_T92 l i]) (i + 1) (by omega) (by omega) (by omega) hl (by simp; omega)
      rw [List.append_assoc] at h
      exact h
theorem spec_without (l : List S92) (a : Int) (hl : l.length ≤ 1048600) : Ev (fun k => spec_l1Without.f k l a) (without a l) := by
  unfold spec_l1Without.f
  exact spec_without_l0 l a l.length [] 0 (by omega) (by omega) (by omega) (by omega) (by simp; omega)
theorem spec_mapdo (l : List S92) (op a v : Int) (hl : l.length ≤ 1048600) : Ev (fun k => spec_MapDo.f k l op a v) (mapDo l op a v) := by
  unfold spec_MapDo.f mapDo
  have same : Ev (fun k => (some ([] : List S92)).bind fun y => if y.length + l.length < 8796093022208 then some (y ++ l) else none) l :=
    ev_bind (f := fun _ => some []) (ev_some []) (ev_pos (by simp; omega) (ev_some _))
  refine ev_bind (ev_of l.length (fun k hk => spec_mapok l (by omega) k hk)) ?_
  by_cases ho : mapOk l = true
  · refine ev_pos ho ?_
    refine ev_bind (ev_all (fun k => spec_msgok op a v)) ?_
    refine ev_step (fun k => by simp only [spec_MapDo.j0]; exact rfl) ?_
    by_cases hm : msgOk op a v = true
    · rw [if_pos ⟨ho, hm⟩]
      refine ev_neg (by simp [hm]) ?_
      refine ev_bind (ev_of l.length (fun k hk => spec_mapget l a (by omega) k hk)) ?_
      unfold changedBy
      by_cases h1 : op = 1
      · refine ev_pos h1 ?_
        rw [if_pos h1]
        exact ev_bind (spec_put l a v hl) (ev_some _)
      · refine ev_neg h1 ?_
        rw [if_neg h1]
        by_cases h2 : op = 2
        · refine ev_pos h2 ?_
          rw [if_pos h2]
          exact ev_bind (spec_without l a hl) (ev_some _)
        · refine ev_neg h2 ?_
          rw [if_neg h2]
          by_cases h3 : op = 3
          · refine ev_pos h3 ?_
            rw [if_pos h3]
            have hv : -1000000000 ≤ v ∧ v ≤ 1000000000 := by simp [msgOk, inR] at hm; omega
            have hw : wrap64 ((mapGet l a).1 + v) = (mapGet l a).1 + v := by
              rw [mapGet_sorted a l ho]
              split
              · rename_i hf
                have hc : cutAt a l < l.length := by simp [foundAt] at hf; omega
                have := okFrom_gt l ho _ (rd_P_mem l (cutAt a l : Nat) (by omega) (by omega))
                exact w64 (by simp only; omega) (by simp only; omega)
              · exact w64 (by simp only; omega) (by simp only; omega)
            rw [hw]
            refine ev_bind (ev_all (fun k => spec_clamp _)) ?_
            exact ev_bind (spec_put l a _ hl) (ev_some _)
          · refine ev_neg h3 ?_
            rw [if_neg h3]
            exact same
    · rw [if_neg (fun h => hm h.2)]
      exact ev_pos (by simpa using hm) same
  · rw [if_neg (fun h => ho h.1)]
    refine ev_neg ho ?_
    refine ev_step (fun k => by simp only [spec_MapDo.j0]; exact rfl) ?_
    exact ev_pos trivial same

theorem impl_limit (x : Int) : impl_limited.f x = some (clampN x) := by
  unfold impl_limited.f clampN mx mn
  congr 1
  split <;> split <;> split <;> omega

theorem impl_bs_l0 (l : List S92) (a : Int) (ha : 0 ≤ a ∧ a ≤ 999) (hk : ∀ q ∈ l, 0 ≤ q.f0 ∧ q.f0 ≤ 999) (c : Nat) (hc : ∀ i : Nat, i < l.length → ((rd_T92 l i).f0 < a ↔ i < c)) (hcl : c ≤ l.length) (hl : l.length ≤ 1048600) :
    ∀ (d : Nat) (i j : Int), 0 ≤ i → i ≤ c → (c : Int) ≤ j → j ≤ l.length → j - i ≤ d → Ev (fun k => slices_BinarySearchFunc_Pair_133.l0 k l a l.length i j) ((c : Int), decide (c < l.length) && decide ((rd_T92 l (c : Nat)).f0 = a)) := by
  have last : Ev (fun k => slices_BinarySearchFunc_Pair_133.l0 k l a l.length c c) ((c : Int), decide (c < l.length) && decide ((rd_T92 l (c : Nat)).f0 = a)) := by
    refine ev_step (fun k => by simp only [slices_BinarySearchFunc_Pair_133.l0, impl_changed_f1.f, Option.bind_some]; exact rfl) ?_
    refine ev_neg (by omega) ?_
    by_cases h : c < l.length
    · refine ev_pos (by omega) ?_
      refine ev_pos (by omega) ?_
      refine ev_pos (by omega) ?_
      have hq := hk _ (rd_P_mem l (c : Nat) (by omega) (by omega))
      refine ev_eq (ev_some _) ?_
      rw [w64 (by omega) (by omega)]
      congr 1
      by_cases he : (rd_T92 l (c : Nat)).f0 = a
      · simp [h, he]
      · have : ¬ ((rd_T92 l (c : Nat)).f0 - a = 0) := by omega
        simp [he, this]
    · refine ev_neg (by omega) ?_
      exact ev_eq (ev_some _) (by simp [h])
  intro d
  induction d with
  | zero =>
    intro i j h0 h1 h2 h3 hd
    obtain rfl : i = c := by omega
    obtain rfl : j = c := by omega
    exact last
  | succ d ih =>
    intro i j h0 h1 h2 h3 hd
    by_cases hij : i < j
    · obtain ⟨m, hm⟩ : ∃ m : Nat, (i + j) / 2 = (m : Int) := ⟨((i + j) / 2).toNat, by omega⟩
      have hw : wrap64 ((IntKind.u64.wrap (wrap64 (i + j))) / 2) = (m : Int) := by
        rw [w64 (x := i + j) (by omega) (by omega), IntKind.wrap_u64, w64 (by omega) (by omega)]
        omega
      have hm1 : wrap64 ((m : Int) + 1) = (m : Int) + 1 := w64 (by omega) (by omega)
      refine ev_step (fun k => by simp only [slices_BinarySearchFunc_Pair_133.l0, impl_changed_f1.f, Option.bind_some, hw, hm1]; exact rfl) ?_
      refine ev_pos hij ?_
      refine ev_pos (by omega) ?_
      refine ev_pos (by omega) ?_
      have hq := hk _ (rd_P_mem l (m : Nat) (by omega) (by omega))
      have hlt := hc m (by omega)
      have hs : wrap64 ((rd_T92 l (m : Nat)).f0 - a) = (rd_T92 l (m : Nat)).f0 - a := w64 (by omega) (by omega)
      by_cases hx : (rd_T92 l (m : Nat)).f0 < a
      · refine ev_pos (by omega) ?_
        have := hlt.1 hx
        exact ih _ _ (by omega) (by omega) h2 h3 (by omega)
      · refine ev_neg (by omega) ?_
        have : ¬ m < c := fun h => hx (hlt.2 h)
        exact ih _ _ h0 h1 (by omega) (by omega) (by omega)
    · obtain rfl : i = c := by omega
      obtain rfl : j = c := by omega
      exact last
theorem impl_bs {prev : Int} (l : List S92) (a : Int) (ha : 0 ≤ a ∧ a ≤ 999) (ho : okFrom prev l = true) (hl : l.length ≤ 1048600) : Ev (fun k => slices_BinarySearchFunc_Pair_133.f k l a) ((cutAt a l : Int), foundAt a l) := by
  unfold slices_BinarySearchFunc_Pair_133.f
  have hle := cutAt_le a l
  exact impl_bs_l0 l a ha (fun q hq => by have := okFrom_gt l ho q hq; omega) (cutAt a l) (cutAt_iff a l ho) hle hl l.length 0 l.length (by omega) (by omega) (by omega) (by omega) (by omega)
theorem impl_del (l : List S92) (c : Nat) (h : c < l.length) (hl : l.length ≤ 1048600) : slices_Delete_Pair.f l (c : Int) (wrap64 ((c : Int) + 1)) = some (l.eraseIdx c) := by
  unfold slices_Delete_Pair.f
  rw [w64 (by omega) (by omega), if_pos (by omega), if_pos (by omega), if_pos rfl]
  rfl
theorem impl_ins (l : List S92) (c : Nat) (p : S92) (h : c ≤ l.length) (hl : l.length ≤ 1048600) : slices_Insert_Pair.f l (c : Int) [p] = some (l.take c ++ [p] ++ l.drop c) := by
  unfold slices_Insert_Pair.f
  rw [if_pos (by omega), if_pos (by omega), if_pos (show [p].length = 1 from rfl), if_pos (by omega)]
  rfl
theorem clampN_id (x : Int) (h0 : -1000000000 ≤ x) (h1 : x ≤ 1000000000) : clampN x = x := by
  unfold clampN
  split <;> split <;> omega
theorem impl_changed_ev (l : List S92) (op a v : Int) (ho : mapOk l = true) (hm : msgOk op a v = true) (hl : l.length ≤ 1048600) : Ev (fun k => impl_changed.f k l op a v) (changedBy op a v l) := by
  have hmm : (1 ≤ op ∧ op ≤ 4) ∧ (0 ≤ a ∧ a ≤ 999) ∧ (-1000000000 ≤ v ∧ v ≤ 1000000000) := by simp [msgOk, inR] at hm; omega
  obtain ⟨hop, ha, hv⟩ := hmm
  have hle := cutAt_le a l
  unfold impl_changed.f
  refine ev_bind (impl_bs l a ha ho hl) ?_
  unfold changedBy
  have eta : ∀ (x : Int), (⟨(rd_T92 l (cutAt a l : Nat)).f0, x⟩ : S92) = ⟨(rd_T92 l (cutAt a l : Nat)).f0, x⟩ := fun _ => rfl
  have put : ∀ (x : Int), (putFrom a x false l) = if foundAt a l = true then l.set (cutAt a l) ⟨(rd_T92 l (cutAt a l : Nat)).f0, x⟩ else l.take (cutAt a l) ++ [⟨a, x⟩] ++ l.drop (cutAt a l) := fun x => putFrom_sorted a x l ho
  by_cases h4 : op = 4
  · refine ev_pos h4 ?_
    rw [if_neg (by omega), if_neg (by omega), if_neg (by omega)]
    exact ev_some _
  refine ev_neg h4 ?_
  have hset : ((cutAt a l : Nat) : Int).toNat = cutAt a l := by omega
  by_cases h2 : op = 2
  · refine ev_pos h2 ?_
    rw [if_neg (by omega), if_pos h2, without_sorted a l ho]
    refine ev_step (fun k => by simp only [impl_changed.j0]; exact rfl) ?_
    by_cases hf : foundAt a l = true
    · have hc : cutAt a l < l.length := by simp [foundAt] at hf; omega
      refine ev_pos hf ?_
      rw [if_pos hf]
      exact ev_bind (ev_all (fun k => impl_del l _ hc hl)) (ev_some _)
    · refine ev_neg hf ?_
      rw [if_neg hf]
      exact ev_pos h2 (ev_some _)
  refine ev_neg h2 ?_
  refine ev_step (fun k => by simp only [impl_changed.j0]; exact rfl) ?_
  refine ev_neg (by simp) ?_
  refine ev_neg h2 ?_
  by_cases h3 : op = 3
  · refine ev_pos h3 ?_
    rw [if_neg (by omega), if_neg (by omega), if_pos h3, put, mapGet_sorted a l ho]
    refine ev_step (fun k => by simp only [impl_changed.j1]; exact rfl) ?_
    by_cases hf : foundAt a l = true
    · have hc : cutAt a l < l.length := by simp [foundAt] at hf; omega
      have hq := okFrom_gt l ho _ (rd_P_mem l (cutAt a l : Nat) (by omega) (by omega))
      refine ev_pos hf ?_
      refine ev_pos (by omega) ?_
      refine ev_pos (by omega) ?_
      refine ev_bind (ev_all (fun k => impl_limit _)) ?_
      refine ev_pos hf ?_
      rw [if_pos hf, if_pos hf]
      refine ev_eq (ev_some _) ?_
      simp only
      rw [w64 (by omega) (by omega), hset]
    · refine ev_neg hf ?_
      refine ev_neg hf ?_
      rw [if_neg hf, if_neg hf]
      refine ev_bind (ev_all (fun k => impl_ins l (cutAt a l) ⟨a, v⟩ hle hl)) (ev_eq (ev_some _) ?_)
      simp only
      rw [show (0 : Int) + v = v by omega, clampN_id v hv.1 hv.2]
  · refine ev_neg h3 ?_
    have h1 : op = 1 := by omega
    rw [if_pos h1, put]
    refine ev_step (fun k => by simp only [impl_changed.j1]; exact rfl) ?_
    refine ev_neg (by simp) ?_
    by_cases hf : foundAt a l = true
    · have hc : cutAt a l < l.length := by simp [foundAt] at hf; omega
      refine ev_pos hf ?_
      rw [if_pos hf]
      refine ev_pos (by omega) ?_
      refine ev_pos (by omega) ?_
      exact ev_eq (ev_some _) (by rw [hset])
    · refine ev_neg hf ?_
      rw [if_neg hf]
      exact ev_bind (ev_all (fun k => impl_ins l (cutAt a l) ⟨a, v⟩ hle hl)) (ev_some _)

theorem without_le (a : Int) (l : List S92) : ∀ q ∈ without a l, q ∈ l := by
  induction l with
  | nil => intro q hq; simp [without] at hq
  | cons p r ih =>
    intro q hq
    simp only [without] at hq
    split at hq
    · exact List.mem_cons_of_mem _ (ih q hq)
    · rcases List.mem_cons.1 hq with rfl | hq
      · simp
      · exact List.mem_cons_of_mem _ (ih q hq)
theorem okFrom_without {prev : Int} (a : Int) (l : List S92) (hl : okFrom prev l = true) : okFrom prev (without a l) = true := by
  induction l generalizing prev with
  | nil => rfl
  | cons p r ih =>
    simp only [okFrom, Bool.and_eq_true, decide_eq_true_eq] at hl
    simp only [without]
    split
    · exact okFrom_up (by omega) _ (ih hl.2)
    · simp only [okFrom, Bool.and_eq_true, decide_eq_true_eq]
      exact ⟨hl.1, ih hl.2⟩
theorem okFrom_put {prev : Int} (a v : Int) (ha : 0 ≤ a ∧ a ≤ 999) (hv : -1000000000 ≤ v ∧ v ≤ 1000000000) (hp : prev < a) (l : List S92) (hl : okFrom prev l = true) : okFrom prev (putFrom a v false l) = true := by
  induction l generalizing prev with
  | nil => simp [putFrom, okFrom, inR]; omega
  | cons p r ih =>
    have hg := okFrom_gt r (prev := p.f0) (by simp only [okFrom, Bool.and_eq_true] at hl; exact hl.2)
    simp only [okFrom, Bool.and_eq_true, decide_eq_true_eq] at hl
    simp only [putFrom, Bool.false_or, Bool.false_eq_true, if_false]
    by_cases h : p.f0 < a
    · rw [if_neg (show ¬ p.f0 ≥ a by omega), if_neg (show ¬ p.f0 = a by omega), show decide (p.f0 ≥ a) = false by simp; omega]
      simp only [List.nil_append, List.singleton_append, okFrom, Bool.and_eq_true, decide_eq_true_eq]
      exact ⟨hl.1, ih h hl.2⟩
    · rw [if_pos (show p.f0 ≥ a by omega), show decide (p.f0 ≥ a) = true by simp; omega, putFrom_done a v r (fun q hq => by have := hg q hq; omega)]
      have hav : inR a 0 999 = true ∧ inR v (-1000000000) 1000000000 = true := by simp [inR]; omega
      by_cases he : p.f0 = a
      · rw [if_pos he]
        simp only [List.append_nil, List.singleton_append, okFrom, Bool.and_eq_true, decide_eq_true_eq]
        exact ⟨⟨hav, hp⟩, he ▸ hl.2⟩
      · rw [if_neg he]
        simp only [List.cons_append, List.nil_append, okFrom, Bool.and_eq_true, decide_eq_true_eq]
        exact ⟨⟨hav, hp⟩, ⟨⟨hl.1.1, by omega⟩, hl.2⟩⟩
theorem clampN_in (x : Int) : -1000000000 ≤ clampN x ∧ clampN x ≤ 1000000000 := by
  unfold clampN
  split <;> split <;> omega
theorem ok_changed (l : List S92) (op a v : Int) (ho : mapOk l = true) (hm : msgOk op a v = true) : mapOk (changedBy op a v l) = true := by
  have hmm : (0 ≤ a ∧ a ≤ 999) ∧ (-1000000000 ≤ v ∧ v ≤ 1000000000) := by simp [msgOk, inR] at hm; omega
  unfold changedBy
  split
  · exact okFrom_put a v hmm.1 hmm.2 (by omega) l ho
  · split
    · exact okFrom_without a l ho
    · split
      · exact okFrom_put a _ hmm.1 (clampN_in _) (by omega) l ho
      · exact ho
theorem mapDo_ok (l : List S92) (op a v : Int) (ho : mapOk l = true) : mapOk (mapDo l op a v) = true := by
  unfold mapDo
  split
  · rename_i h; exact ok_changed l op a v ho h.2
  · exact ho
theorem mapDo_bad (l : List S92) (op a v : Int) (ho : ¬ mapOk l = true) : mapDo l op a v = l := by
  unfold mapDo
  rw [if_neg (fun h => ho h.1)]

/-- A row of pairs behind messages. -/
def mapAllOf (l : List S92) (ms : List S72) : List S92 := ms.foldl (fun l m => mapDo l m.f0 m.f1 m.f2) l
theorem mapAll_len (ms : List S72) : ∀ l, (mapAllOf l ms).length ≤ l.length + ms.length := by
  induction ms with
  | nil => intro l; simp [mapAllOf]
  | cons m r ih =>
    intro l
    have h1 := ih (mapDo l m.f0 m.f1 m.f2)
    have h2 := mapDo_len l m.f0 m.f1 m.f2
    simp only [mapAllOf, List.foldl_cons, List.length_cons] at h1 ⊢
    omega
theorem mapAll_bad (ms : List S72) (l : List S92) (ho : ¬ mapOk l = true) : mapAllOf l ms = l := by
  induction ms with
  | nil => rfl
  | cons m r ih =>
    unfold mapAllOf at ih ⊢
    rw [List.foldl_cons, mapDo_bad l _ _ _ ho, ih]
theorem mapAll_ok (ms : List S72) : ∀ (l : List S92), mapOk l = true → mapOk (mapAllOf l ms) = true := by
  induction ms with
  | nil => intro l h; exact h
  | cons m r ih => intro l h; exact ih _ (mapDo_ok l m.f0 m.f1 m.f2 h)

theorem spec_mapall_l0 (ms : List S72) (hms : ms.length ≤ 1048580) : ∀ (d : Nat) (l : List S92) (i : Int), 0 ≤ i → i ≤ ms.length → (ms.length : Int) - i = d → l.length + d ≤ 1048600 → Ev (fun k => spec_MapAll.l0 k ms l i) (mapAllOf l (ms.drop i.toNat)) := by
  intro d
  induction d with
  | zero =>
    intro l i h0 h1 hd hl
    rw [List.drop_of_length_le (by omega)]
    refine ev_step (fun k => by simp only [spec_MapAll.l0]; exact rfl) ?_
    exact ev_neg (by omega) (ev_some _)
  | succ d ih =>
    intro l i h0 h1 hd hl
    have wi : wrap64 (i + 1) = i + 1 := w64 (by omega) (by omega)
    have hlen := mapDo_len l (rd_T72 ms i).f0 (rd_T72 ms i).f1 (rd_T72 ms i).f2
    rw [drop_Msg ms i h0 (by omega)]
    refine ev_step (fun k => by simp only [spec_MapAll.l0, wi]; exact rfl) ?_
    refine ev_pos (by omega) ?_
    refine ev_pos h0 ?_
    refine ev_bind (spec_mapdo l _ _ _ (by omega)) ?_
    exact ih _ (i + 1) (by omega) (by omega) (by omega) (by omega)
theorem spec_mapall (l : List S92) (ms : List S72) (hms : ms.length ≤ 1048580) (hl : l.length + ms.length ≤ 1048600) : Ev (fun k => spec_MapAll.f k l ms) (mapAllOf l ms) := by
  unfold spec_MapAll.f
  refine ev_bind (f := fun _ => some []) (ev_some []) ?_
  refine ev_pos (by simp; omega) ?_
  rw [List.nil_append]
  exact spec_mapall_l0 ms hms ms.length l 0 (by omega) (by omega) (by omega) (by omega)

theorem impl_mapall_l0 (ms : List S72) (hms : ms.length ≤ 1048580) : ∀ (d : Nat) (l : List S92) (i : Int), mapOk l = true → 0 ≤ i → i ≤ ms.length → (ms.length : Int) - i = d → l.length + d ≤ 1048600 → Ev (fun k => impl_MapAll.l0 k l ms ms.length i) (mapAllOf l (ms.drop i.toNat)) := by
  intro d
  induction d with
  | zero =>
    intro l i ho h0 h1 hd hl
    rw [List.drop_of_length_le (by omega)]
    refine ev_step (fun k => by simp only [impl_MapAll.l0]; exact rfl) ?_
    exact ev_neg (by omega) (ev_some _)
  | succ d ih =>
    intro l i ho h0 h1 hd hl
    have wi : wrap64 (i + 1) = i + 1 := w64 (by omega) (by omega)
    have hlen := mapDo_len l (rd_T72 ms i).f0 (rd_T72 ms i).f1 (rd_T72 ms i).f2
    have hok := mapDo_ok l (rd_T72 ms i).f0 (rd_T72 ms i).f1 (rd_T72 ms i).f2 ho
    rw [drop_Msg ms i h0 (by omega)]
    refine ev_step (fun k => by simp only [impl_MapAll.l0, wi]; exact rfl) ?_
    refine ev_pos (by omega) ?_
    refine ev_pos h0 ?_
    refine ev_pos (by omega) ?_
    refine ev_bind (ev_of 1 (fun k hk => impl_msgok _ _ _ k hk)) ?_
    have go := ih (mapDo l (rd_T72 ms i).f0 (rd_T72 ms i).f1 (rd_T72 ms i).f2) (i + 1) hok (by omega) (by omega) (by omega) (by omega)
    by_cases hm : msgOk (rd_T72 ms i).f0 (rd_T72 ms i).f1 (rd_T72 ms i).f2 = true
    · refine ev_pos hm ?_
      have he : mapDo l (rd_T72 ms i).f0 (rd_T72 ms i).f1 (rd_T72 ms i).f2 = changedBy (rd_T72 ms i).f0 (rd_T72 ms i).f1 (rd_T72 ms i).f2 l := by unfold mapDo; rw [if_pos ⟨ho, hm⟩]
      refine ev_bind (impl_changed_ev l _ _ _ ho hm (by omega)) ?_
      rw [← he]
      exact go
    · refine ev_neg hm ?_
      have he : mapDo l (rd_T72 ms i).f0 (rd_T72 ms i).f1 (rd_T72 ms i).f2 = l := by unfold mapDo; rw [if_neg (fun h => hm h.2)]
      rw [he] at go
      simp only [mapAllOf, List.foldl_cons, he]
      exact go
theorem impl_mapall (l : List S92) (ms : List S72) (hms : ms.length ≤ 1048580) (hl : l.length + ms.length ≤ 1048600) : Ev (fun k => impl_MapAll.f k l ms) (mapAllOf l ms) := by
  unfold impl_MapAll.f slices_Clone_Pair.f
  rw [if_pos (show l.length < 8796093022208 by omega)]
  refine ev_bind (f := fun _ => some l) (ev_some l) ?_
  refine ev_bind (ev_of l.length (fun k hk => impl_mapok l (by omega) k hk)) ?_
  by_cases ho : mapOk l = true
  · refine ev_pos ho ?_
    exact impl_mapall_l0 ms hms ms.length l 0 ho (by omega) (by omega) (by omega) (by omega)
  · refine ev_neg ho ?_
    rw [mapAll_bad ms l ho]
    exact ev_some _

def cvPair (x : S107) : S92 := (⟨x.f0, x.f1⟩ : S92)

theorem toPairS_l0 (d : Nat) : ∀ (k : Nat) (x : List S107) (y : List S92) (i : Int), 0 ≤ i → i ≤ x.length → y.length = x.length → (x.length : Int) - i = d → d < k → x.length ≤ 140737488355328 → (∀ j : Nat, (j : Int) < i → y[j]? = (x.map cvPair)[j]?) → laws_toPairS.l0 k x y i = some (x.map cvPair) := by
  induction d with
  | zero =>
    intro k x y i h0 h1 hy hd hk hx h
    obtain ⟨k, rfl⟩ : ∃ m, k = m + 1 := ⟨k - 1, by omega⟩
    simp only [laws_toPairS.l0]; rw [if_neg (by omega)]
    congr 1
    apply List.ext_getElem?
    intro j
    by_cases hj : j < x.length
    · exact h j (by omega)
    · rw [List.getElem?_eq_none (by omega), List.getElem?_eq_none (by simp; omega)]
  | succ d ih =>
    intro k x y i h0 h1 hy hd hk hx h
    obtain ⟨k, rfl⟩ : ∃ m, k = m + 1 := ⟨k - 1, by omega⟩
    simp only [laws_toPairS.l0]
    rw [if_pos (by omega), if_pos h0]
    simp only [laws_toPair.f, Option.bind_some]
    rw [if_pos (by omega), w64 (by omega) (by omega)]
    refine ih k x _ (i + 1) (by omega) (by omega) (by simpa using hy) (by omega) (by omega) hx (fun j hj => ?_)
    by_cases he : (j : Int) = i
    · have hj2 : (i : Int).toNat = j := by omega
      rw [hj2, List.getElem?_set_self (by omega), List.getElem?_map, List.getElem?_eq_getElem (by omega)]
      simp only [Option.map_some, rd_T107, hj2, List.getD_eq_getElem?_getD]
      rw [List.getElem?_eq_getElem (by omega)]
      rfl
    · rw [← h j (by omega), List.getElem?_set_ne (by omega)]

theorem toPairS_all (x : List S107) (hx : x.length ≤ 1048576) (k : Nat) (hk : x.length < k) : laws_toPairS.f k x = some (x.map cvPair) := by
  unfold laws_toPairS.f
  rw [if_pos (by omega), if_pos (by omega)]
  exact toPairS_l0 x.length k x _ 0 (by omega) (by omega) (by simp) (by omega) (by omega) (by omega) (fun j hj => by omega)

def cvMsg (x : S109) : S72 := (⟨x.f0, x.f1, x.f2⟩ : S72)

theorem toMsgS_l0 (d : Nat) : ∀ (k : Nat) (x : List S109) (y : List S72) (i : Int), 0 ≤ i → i ≤ x.length → y.length = x.length → (x.length : Int) - i = d → d < k → x.length ≤ 140737488355328 → (∀ j : Nat, (j : Int) < i → y[j]? = (x.map cvMsg)[j]?) → laws_toMsgS.l0 k x y i = some (x.map cvMsg) := by
  induction d with
  | zero =>
    intro k x y i h0 h1 hy hd hk hx h
    obtain ⟨k, rfl⟩ : ∃ m, k = m + 1 := ⟨k - 1, by omega⟩
    simp only [laws_toMsgS.l0]; rw [if_neg (by omega)]
    congr 1
    apply List.ext_getElem?
    intro j
    by_cases hj : j < x.length
    · exact h j (by omega)
    · rw [List.getElem?_eq_none (by omega), List.getElem?_eq_none (by simp; omega)]
  | succ d ih =>
    intro k x y i h0 h1 hy hd hk hx h
    obtain ⟨k, rfl⟩ : ∃ m, k = m + 1 := ⟨k - 1, by omega⟩
    simp only [laws_toMsgS.l0]
    rw [if_pos (by omega), if_pos h0]
    simp only [laws_toMsg.f, Option.bind_some]
    rw [if_pos (by omega), w64 (by omega) (by omega)]
    refine ih k x _ (i + 1) (by omega) (by omega) (by simpa using hy) (by omega) (by omega) hx (fun j hj => ?_)
    by_cases he : (j : Int) = i
    · have hj2 : (i : Int).toNat = j := by omega
      rw [hj2, List.getElem?_set_self (by omega), List.getElem?_map, List.getElem?_eq_getElem (by omega)]
      simp only [Option.map_some, rd_T109, hj2, List.getD_eq_getElem?_getD]
      rw [List.getElem?_eq_getElem (by omega)]
      rfl
    · rw [← h j (by omega), List.getElem?_set_ne (by omega)]

theorem toMsgS_all (x : List S109) (hx : x.length ≤ 1048576) (k : Nat) (hk : x.length < k) : laws_toMsgS.f k x = some (x.map cvMsg) := by
  unfold laws_toMsgS.f
  rw [if_pos (by omega), if_pos (by omega)]
  exact toMsgS_l0 x.length k x _ 0 (by omega) (by omega) (by simp) (by omega) (by omega) (by omega) (fun j hj => by omega)

theorem toI (d : Nat) : ∀ (k : Nat) (x y : List Int) (i : Int), 0 ≤ i → i ≤ x.length → y.length = x.length → (x.length : Int) - i = d → d < k → x.length ≤ 140737488355328 → (∀ j : Nat, (j : Int) < i → y.getD j 0 = x.getD j 0) → laws_toIntS.l0 k x y i = some x := by
  induction d with
  | zero =>
    intro k x y i h0 h1 hy hd hk hx h
    obtain ⟨k, rfl⟩ : ∃ m, k = m + 1 := ⟨k - 1, by omega⟩
    simp only [laws_toIntS.l0]; rw [if_neg (by omega)]
    congr 1
    apply List.ext_getElem hy
    intro j hj hj'
    have := h j (by omega)
    simpa [List.getD_eq_getElem?_getD, hj, hj'] using this
  | succ d ih =>
    intro k x y i h0 h1 hy hd hk hx h
    obtain ⟨k, rfl⟩ : ∃ m, k = m + 1 := ⟨k - 1, by omega⟩
    simp only [laws_toIntS.l0]
    rw [if_pos (by omega), if_pos h0, if_pos (by omega), w64 (by omega) (by omega)]
    refine ih k x _ (i + 1) (by omega) (by omega) (by simpa using hy) (by omega) (by omega) hx (fun j hj => ?_)
    by_cases he : (j : Int) = i
    · have hj2 : (i : Int).toNat = j := by omega
      simp only [List.getD_eq_getElem?_getD, hj2]
      rw [List.getElem?_set_self (by omega)]
      simp [rd, hj2, List.getD_eq_getElem?_getD]
    · rw [← h j (by omega)]
      simp only [List.getD_eq_getElem?_getD]
      rw [List.getElem?_set_ne (by omega)]

theorem toIntS_all (x : List Int) (hx : x.length ≤ 1048576) (k : Nat) (hk : x.length < k) : laws_toIntS.f k x = some x := by
  unfold laws_toIntS.f
  rw [if_pos (by omega), if_pos (by omega)]
  exact toI x.length k x _ 0 (by omega) (by omega) (by simp) (by omega) (by omega) (by omega) (fun j hj => by omega)

theorem eqPairS_l0 (d : Nat) : ∀ (k : Nat) (x : List S92) (i : Int), 0 ≤ i → i ≤ x.length → (x.length : Int) - i = d → d < k → x.length ≤ 140737488355328 → laws_eqPairS.l0 k x x i = some true := by
  induction d with
  | zero =>
    intro k x i h0 h1 hd hk hx
    obtain ⟨k, rfl⟩ : ∃ m, k = m + 1 := ⟨k - 1, by omega⟩
    simp only [laws_eqPairS.l0]; rw [if_neg (by omega)]
  | succ d ih =>
    intro k x i h0 h1 hd hk hx
    obtain ⟨k, rfl⟩ : ∃ m, k = m + 1 := ⟨k - 1, by omega⟩
    simp only [laws_eqPairS.l0]
    rw [if_pos (by omega), if_pos h0, if_pos (by omega)]
    simp only [laws_eqPair.f, Option.bind_some, if_true]
    rw [w64 (by omega) (by omega)]
    exact ih k x (i + 1) (by omega) (by omega) (by omega) (by omega) hx

theorem eqPairS_self (x : List S92) (hx : x.length ≤ 140737488355328) (k : Nat) (hk : x.length < k) : laws_eqPairS.f k x x = some true := by
  unfold laws_eqPairS.f
  rw [if_pos rfl]
  exact eqPairS_l0 x.length k x 0 (by omega) (by omega) (by omega) (by omega) hx

theorem eqMsgS_l0 (d : Nat) : ∀ (k : Nat) (x : List S72) (i : Int), 0 ≤ i → i ≤ x.length → (x.length : Int) - i = d → d < k → x.length ≤ 140737488355328 → laws_eqMsgS.l0 k x x i = some true := by
  induction d with
  | zero =>
    intro k x i h0 h1 hd hk hx
    obtain ⟨k, rfl⟩ : ∃ m, k = m + 1 := ⟨k - 1, by omega⟩
    simp only [laws_eqMsgS.l0]; rw [if_neg (by omega)]
  | succ d ih =>
    intro k x i h0 h1 hd hk hx
    obtain ⟨k, rfl⟩ : ∃ m, k = m + 1 := ⟨k - 1, by omega⟩
    simp only [laws_eqMsgS.l0]
    rw [if_pos (by omega), if_pos h0, if_pos (by omega)]
    simp only [laws_eqMsg.f, Option.bind_some, if_true]
    rw [w64 (by omega) (by omega)]
    exact ih k x (i + 1) (by omega) (by omega) (by omega) (by omega) hx

theorem eqMsgS_self (x : List S72) (hx : x.length ≤ 140737488355328) (k : Nat) (hk : x.length < k) : laws_eqMsgS.f k x x = some true := by
  unfold laws_eqMsgS.f
  rw [if_pos rfl]
  exact eqMsgS_l0 x.length k x 0 (by omega) (by omega) (by omega) (by omega) hx

theorem eqI (d : Nat) : ∀ (k : Nat) (x : List Int) (i : Int), 0 ≤ i → i ≤ x.length → (x.length : Int) - i = d → d < k → x.length ≤ 140737488355328 → laws_eqIntS.l0 k x x i = some true := by
  induction d with
  | zero =>
    intro k x i h0 h1 hd hk hx
    obtain ⟨k, rfl⟩ : ∃ m, k = m + 1 := ⟨k - 1, by omega⟩
    simp only [laws_eqIntS.l0]; rw [if_neg (by omega)]
  | succ d ih =>
    intro k x i h0 h1 hd hk hx
    obtain ⟨k, rfl⟩ : ∃ m, k = m + 1 := ⟨k - 1, by omega⟩
    simp only [laws_eqIntS.l0]
    rw [if_pos (by omega), if_pos h0, if_pos (by omega)]
    simp only [if_true]
    rw [w64 (by omega) (by omega)]
    exact ih k x (i + 1) (by omega) (by omega) (by omega) (by omega) hx

theorem eqIntS_self (x : List Int) (hx : x.length ≤ 140737488355328) (k : Nat) (hk : x.length < k) : laws_eqIntS.f k x x = some true := by
  unfold laws_eqIntS.f
  rw [if_pos rfl]
  exact eqI x.length k x 0 (by omega) (by omega) (by omega) (by omega) hx

/-- The element that is marked with so much. -/
def markPair (m : Int) : S92 := (⟨m, m + 1⟩ : S92)

theorem rd_setPair (x : List S92) (i : Int) (h0 : 0 ≤ i) (h1 : i < x.length) (e : S92) : rd_T92 (x.set (i : Int).toNat e) i = e := by
  unfold rd_T92
  rw [List.getD_eq_getElem?_getD, List.getElem?_set_self (by omega)]
  rfl

theorem markPairS_l0 (d : Nat) : ∀ (k : Nat) (x : List S92) (a i : Int), 0 ≤ i → i ≤ x.length → (x.length : Int) - i = d → d < k → x.length ≤ 140737488355328 → 0 ≤ a → a + 2 * d ≤ 9223372036854775800 →
    ∃ y, laws_markPairS.l0 k x a i = some (a + 2 * d, y) ∧ y.length = x.length ∧ (∀ j : Nat, (j : Int) < i → y[j]? = x[j]?) ∧ (∀ j : Nat, i ≤ j → j < x.length → rd_T92 y j = markPair (a + 2 * (j - i))) := by
  induction d with
  | zero =>
    intro k x a i h0 h1 hd hk hx ha hb
    obtain ⟨k, rfl⟩ : ∃ m, k = m + 1 := ⟨k - 1, by omega⟩
    refine ⟨x, ?_, rfl, fun _ _ => rfl, fun j h h' => by omega⟩
    simp only [laws_markPairS.l0]; rw [if_neg (by omega)]; simp
  | succ d ih =>
    intro k x a i h0 h1 hd hk hx ha hb
    obtain ⟨k, rfl⟩ : ∃ m, k = m + 1 := ⟨k - 1, by omega⟩
    have hs := rd_setPair x i h0 (by omega)
    have e1 : wrap64 (a + 1) = a + 1 := w64 (by omega) (by omega)
    have e2 : wrap64 (a + 1 + 1) = a + 1 + 1 := w64 (by omega) (by omega)
    obtain ⟨y, hy, hl, hlo, hhi⟩ := ih k (x.set (i : Int).toNat (markPair a)) (a + 2) (i + 1) (by omega) (by simp; omega) (by simp; omega) (by omega) (by simpa using hx) (by omega) (by omega)
    refine ⟨y, ?_, by simpa using hl, fun j hj => ?_, fun j hj hj' => ?_⟩
    · simp only [laws_markPairS.l0]
      rw [if_pos (by omega), if_pos h0]
      simp only [Option.bind_some, hs, List.set_set, e1, e2]
      rw [w64 (x := i + 1) (by omega) (by omega)]
      have hm : markPair a = (⟨a, a + 1⟩ : S92) := by unfold markPair; rfl
      have hz : a + 1 + 1 = a + 2 := by omega
      rw [hz]
      simp only [hm] at hy
      refine Eq.trans ?_ (hy.trans ?_)
      · first | rfl | (congr 2; simp; omega) | (simp only [Int.add_assoc]; rfl)
      · congr 2
        omega
    · rw [hlo j (by omega), List.getElem?_set_ne (by omega)]
    · by_cases he : (j : Int) = i
      · unfold rd_T92
        rw [List.getD_eq_getElem?_getD, hlo _ (by omega), show ((j : Int)).toNat = i.toNat by omega, List.getElem?_set_self (by omega)]
        simp only [Option.getD_some]
        congr 1
        omega
      · rw [hhi j (by omega) (by simpa using hj')]
        congr 1
        omega

theorem markPairS_only (x : List S92) (hx : x.length ≤ 140737488355328) (a : Int) (ha : 0 ≤ a) (hb : a ≤ 4611686018427387904) : ∃ y : List S92, ∀ k, x.length < k → laws_markPairS.f k x a = some (a + 2 * (x.length : Int), y) := by
  obtain ⟨y, hy, hl, _, hhi⟩ := markPairS_l0 x.length (x.length + 1) x a 0 (by omega) (by omega) (by omega) (by omega) hx (by omega) (by omega)
  refine ⟨y, fun k hk => ?_⟩
  unfold laws_markPairS.f
  exact at_rounds (g := fun k => laws_markPairS.l0 k x a 0) (fun k => laws_markPairS.mono_l k _ _ _) (by omega) hy

theorem heldPairS_l0 (d : Nat) : ∀ (k : Nat) (y : List S92) (a i : Int), 0 ≤ i → i ≤ y.length → (y.length : Int) - i = d → d < k → y.length ≤ 140737488355328 → 0 ≤ a → a + 2 * d ≤ 9223372036854775800 →
    (∀ j : Nat, i ≤ j → j < y.length → rd_T92 y j = markPair (a + 2 * (j - i))) → laws_heldPairS.l0 k y a i = some (a + 2 * d) := by
  induction d with
  | zero =>
    intro k y a i h0 h1 hd hk hx ha hb h
    obtain ⟨k, rfl⟩ : ∃ m, k = m + 1 := ⟨k - 1, by omega⟩
    simp only [laws_heldPairS.l0]; rw [if_neg (by omega)]; simp
  | succ d ih =>
    intro k y a i h0 h1 hd hk hx ha hb h
    obtain ⟨k, rfl⟩ : ∃ m, k = m + 1 := ⟨k - 1, by omega⟩
    have e1 : wrap64 (a + 1) = a + 1 := w64 (by omega) (by omega)
    have e2 : wrap64 (a + 1 + 1) = a + 1 + 1 := w64 (by omega) (by omega)
    have hi := h i.toNat (by omega) (by omega)
    rw [show ((i.toNat : Nat) : Int) = i by omega, show a + 2 * (i - i) = a by omega] at hi
    have hm : markPair a = (⟨a, a + 1⟩ : S92) := by unfold markPair; rfl
    rw [hm] at hi
    simp only [laws_heldPairS.l0]
    rw [if_pos (by omega), if_pos h0]
    simp only [hi, e1, e2, if_true]
    have hz : a + 1 + 1 = a + 2 := by omega
    rw [w64 (x := i + 1) (by omega) (by omega), hz]
    rw [ih k y (a + 2) (i + 1) (by omega) (by omega) (by omega) (by omega) hx (by omega) (by omega) (fun j hj hj' => by rw [h j (by omega) hj']; congr 1; omega)]
    congr 1
    omega

/-- A row is marked, and the marks hold. -/
theorem markPairS_all (x : List S92) (hx : x.length ≤ 140737488355328) (a : Int) (ha : 0 ≤ a) (hb : a ≤ 4611686018427387904) : ∃ y : List S92, (∀ k, x.length < k → laws_markPairS.f k x a = some (a + 2 * (x.length : Int), y)) ∧ (∀ k, x.length < k → laws_heldPairS.f k y a = some (a + 2 * (x.length : Int))) := by
  obtain ⟨y, hy, hl, _, hhi⟩ := markPairS_l0 x.length (x.length + 1) x a 0 (by omega) (by omega) (by omega) (by omega) hx (by omega) (by omega)
  refine ⟨y, fun k hk => ?_, fun k hk => ?_⟩
  · unfold laws_markPairS.f
    exact at_rounds (g := fun k => laws_markPairS.l0 k x a 0) (fun k => laws_markPairS.mono_l k _ _ _) (by omega) hy
  · unfold laws_heldPairS.f
    rw [heldPairS_l0 x.length k y a 0 (by omega) (by omega) (by omega) (by omega) (by omega) (by omega) (by omega) (fun j hj hj' => by rw [hhi j hj (by omega)])]

/-- No row of a tree is longer than so much. -/
def goodF (p : S34 → Prop) (t : S34) : Prop := t.f1.length ≤ 1048576 ∧ t.f2.length ≤ 1048576 ∧ (t.f3.length ≤ 1048576 ∧ ∀ x ∈ t.f3, p x) ∧ t.f4.length ≤ 1048576
def goodN : Nat → S34 → Prop
  | 0, _ => False
  | n + 1, t => goodF (goodN n) t
def smallF (p : S27 → Prop) (t : S27) : Prop := t.f1.length ≤ 1048576 ∧ t.f2.length ≤ 1048576 ∧ (t.f3.length ≤ 1048576 ∧ ∀ x ∈ t.f3, p x) ∧ t.f4.length ≤ 1048576
def smallN : Nat → S27 → Prop
  | 0, _ => False
  | n + 1, t => smallF (smallN n) t
theorem okN_up (n : Nat) : ∀ x, okN27 n x → okN27 (n + 1) x := by
  induction n with
  | zero => intro x h; exact absurd h id
  | succ n ih => intro x h; exact ⟨h.1, h.2.1, h.2.2.1, ⟨h.2.2.2.1.1, fun z hz => ih z (h.2.2.2.1.2 z hz)⟩, h.2.2.2.2⟩
theorem okN_le {n m : Nat} (h : n ≤ m) (x : S27) (hx : okN27 n x) : okN27 m x := by
  induction h with
  | refl => exact hx
  | step _ ih => exact okN_up _ _ ih
theorem ok_row : ∀ l : List S27, (∀ x ∈ l, ok27 x) → ∃ n, ∀ x ∈ l, okN27 n x := by
  intro l
  induction l with
  | nil => intro _; exact ⟨0, fun x hx => by cases hx⟩
  | cons a l ih =>
    intro h
    obtain ⟨n, hn⟩ := ih (fun x hx => h x (List.mem_cons_of_mem _ hx))
    obtain ⟨m, hm⟩ := h a (List.mem_cons_self ..)
    refine ⟨n + m, fun x hx => ?_⟩
    rcases List.mem_cons.1 hx with rfl | hx
    · exact okN_le (by omega) _ hm
    · exact okN_le (by omega) _ (hn x hx)
theorem rd_mem (l : List S27) (i : Int) (h0 : 0 ≤ i) (h1 : i < l.length) : rd_T27 l i ∈ l := by
  unfold rd_T27
  rw [List.getD_eq_getElem?_getD, List.getElem?_eq_getElem (by omega)]
  exact List.getElem_mem _
theorem rd_mem2 (l : List S34) (i : Int) (h0 : 0 ≤ i) (h1 : i < l.length) : rd_T34 l i ∈ l := by
  unfold rd_T34
  rw [List.getD_eq_getElem?_getD, List.getElem?_eq_getElem (by omega)]
  exact List.getElem_mem _
theorem drop_laws (l : List S27) (i : Int) (h0 : 0 ≤ i) (h1 : i < l.length) : l.drop i.toNat = rd_T27 l i :: l.drop (i + 1).toNat := by
  rw [List.drop_eq_getElem_cons (by omega)]
  congr 1
  · unfold rd_T27
    rw [List.getD_eq_getElem?_getD, List.getElem?_eq_getElem (by omega)]
    rfl
  · congr 1
    omega
theorem etaT (u : S34) : (⟨u.f0, u.f1, u.f2, u.f3, u.f4⟩ : S34) = u := by cases u; rfl
/-- What is left of a budget behind a row. -/
theorem sz_row {α : Type} (l : List α) (b : Int) (hb : 0 ≤ b) (hb2 : b ≤ 1048576) (hl : l.length ≤ 17592186044416) : ∃ r, (if (wrap64 (b - (l.length : Int))) < 0 then some (-1) else some (wrap64 (b - (l.length : Int)))) = some r ∧ r ≤ b ∧ r ≤ 1048576 ∧ (0 ≤ r → l.length ≤ 1048576) := by
  rw [w64 (by omega) (by omega)]
  by_cases h : b - (l.length : Int) < 0
  · exact ⟨-1, by rw [if_pos h], by omega, by omega, by omega⟩
  · exact ⟨b - l.length, by rw [if_neg h], by omega, by omega, by omega⟩
theorem sz_tree (n : Nat) : ∀ (t : S27), okN27 n t → ∀ b : Int, 0 ≤ b → b ≤ 1048576 → ∃ r, Ev (fun k => laws_szTree.f k t.f0 t.f1 t.f2 t.f3 t.f4 b) r ∧ r ≤ b ∧ (0 ≤ r → smallN n t) := by
  induction n with
  | zero => intro t h; exact absurd h id
  | succ n ih =>
    intro t ⟨_, ⟨h1, _⟩, ⟨h2, _⟩, ⟨h3, h3k⟩, ⟨h4, _⟩⟩ b hb hb2
    have row : ∀ (m : Nat) (i b : Int), 0 ≤ i → i ≤ t.f3.length → (t.f3.length : Int) - i = m → 0 ≤ b → b ≤ 1048576 → ∃ r, Ev (fun k => laws_szTreeS.l0 k t.f3 b i) r ∧ r ≤ b ∧ (0 ≤ r → ∀ x ∈ t.f3.drop i.toNat, smallN n x) := by
      intro m
      induction m with
      | zero =>
        intro i b h0 hi hm hb hb2
        refine ⟨b, ev_step (fun k => by simp only [laws_szTreeS.l0]; exact rfl) (ev_neg (by omega) (ev_some b)), by omega, fun _ x hx => ?_⟩
        rw [List.drop_of_length_le (by omega)] at hx
        cases hx
      | succ m ihm =>
        intro i b h0 hi hm hb hb2
        obtain ⟨r1, e1, l1, s1⟩ := ih (rd_T27 t.f3 i) (h3k _ (rd_mem _ _ h0 (by omega))) b hb hb2
        by_cases hr : r1 < 0
        · refine ⟨-1, ev_step (fun k => by simp only [laws_szTreeS.l0]; exact rfl) (ev_pos (by omega) (ev_pos h0 (ev_bind e1 (ev_pos hr (ev_some _))))), by omega, fun h => by omega⟩
        · obtain ⟨r2, e2, l2, s2⟩ := ihm (i + 1) r1 (by omega) (by omega) (by omega) (by omega) (by omega)
          refine ⟨r2, ev_step (fun k => by simp only [laws_szTreeS.l0]; exact rfl) (ev_pos (by omega) (ev_pos h0 (ev_bind e1 (ev_neg hr ?_)))), by omega, fun h x hx => ?_⟩
          · rw [w64 (x := i + 1) (by omega) (by omega)]; exact e2
          · rw [drop_laws _ _ h0 (by omega)] at hx
            rcases List.mem_cons.1 hx with rfl | hx
            · exact s1 (by omega)
            · exact s2 h x hx
    obtain ⟨r1, e1, l1, m1, s1⟩ := sz_row t.f1 b hb hb2 (by omega)
    have E1 : Ev (fun _ => laws_szPairS.f t.f1 b) r1 := ev_all (fun _ => e1)
    by_cases c1 : r1 < 0
    · exact ⟨-1, ev_step (fun k => by simp only [laws_szTree.f]; exact rfl) (ev_bind E1 (ev_pos c1 (ev_some _))), by omega, fun h => by omega⟩
    obtain ⟨r2, e2, l2, m2, s2⟩ := sz_row t.f2 r1 (by omega) (by omega) (by omega)
    have E2 : Ev (fun _ => laws_szIntS.f t.f2 r1) r2 := ev_all (fun _ => e2)
    by_cases c2 : r2 < 0
    · exact ⟨-1, ev_step (fun k => by simp only [laws_szTree.f]; exact rfl) (ev_bind E1 (ev_neg c1 (ev_bind E2 (ev_pos c2 (ev_some _))))), by omega, fun h => by omega⟩
    have hS : ∃ r, Ev (fun k => laws_szTreeS.f k t.f3 r2) r ∧ r ≤ r2 ∧ (0 ≤ r → t.f3.length ≤ 1048576 ∧ ∀ x ∈ t.f3, smallN n x) := by
      have hw : wrap64 (r2 - (t.f3.length : Int)) = r2 - t.f3.length := w64 (by omega) (by omega)
      by_cases h : r2 - (t.f3.length : Int) < 0
      · exact ⟨-1, ev_step (fun k => by simp only [laws_szTreeS.f, hw]; exact rfl) (ev_pos h (ev_some _)), by omega, fun h => by omega⟩
      · obtain ⟨r, e, l, s⟩ := row t.f3.length 0 (r2 - t.f3.length) (by omega) (by omega) (by omega) (by omega) (by omega)
        exact ⟨r, ev_step (fun k => by simp only [laws_szTreeS.f, hw]; exact rfl) (ev_neg h e), by omega, fun h => ⟨by omega, s h⟩⟩
    obtain ⟨r3, E3, l3, s3⟩ := hS
    by_cases c3 : r3 < 0
    · exact ⟨-1, ev_step (fun k => by simp only [laws_szTree.f]; exact rfl) (ev_bind E1 (ev_neg c1 (ev_bind E2 (ev_neg c2 (ev_bind E3 (ev_pos c3 (ev_some _))))))), by omega, fun h => by omega⟩
    obtain ⟨r4, e4, l4, m4, s4⟩ := sz_row t.f4 r3 (by omega) (by omega) (by omega)
    have E4 : Ev (fun _ => laws_szMsgS.f t.f4 r3) r4 := ev_all (fun _ => e4)
    by_cases c4 : r4 < 0
    · exact ⟨-1, ev_step (fun k => by simp only [laws_szTree.f]; exact rfl) (ev_bind E1 (ev_neg c1 (ev_bind E2 (ev_neg c2 (ev_bind E3 (ev_neg c3 (ev_bind E4 (ev_pos c4 (ev_some _))))))))), by omega, fun h => by omega⟩
    exact ⟨r4, ev_step (fun k => by simp only [laws_szTree.f]; exact rfl) (ev_bind E1 (ev_neg c1 (ev_bind E2 (ev_neg c2 (ev_bind E3 (ev_neg c3 (ev_bind E4 (ev_neg c4 (ev_some _))))))))), by omega, fun h => ⟨s1 (by omega), s2 (by omega), s3 (by omega), s4 h⟩⟩

theorem to_tree (n : Nat) : ∀ (t : S27), smallN n t → ∃ u : S34, Ev (fun k => laws_toTree.f k t.f0 t.f1 t.f2 t.f3 t.f4) (u.f0, u.f1, u.f2, u.f3, u.f4) ∧ goodN n u := by
  induction n with
  | zero => intro t h; exact absurd h id
  | succ n ih =>
    intro t ⟨h1, h2, ⟨h3, h3k⟩, h4⟩
    have row : ∀ (m : Nat) (i : Int) (y : List S34), 0 ≤ i → i ≤ t.f3.length → (t.f3.length : Int) - i = m → y.length = t.f3.length → (∀ j : Nat, (j : Int) < i → goodN n (y.getD j z34)) → ∃ r, Ev (fun k => laws_toTreeS.l0 k t.f3 y i) r ∧ r.length = t.f3.length ∧ ∀ x ∈ r, goodN n x := by
      intro m
      induction m with
      | zero =>
        intro i y h0 hi hm hy hg
        refine ⟨y, ev_step (fun k => by simp only [laws_toTreeS.l0]; exact rfl) (ev_neg (by omega) (ev_some y)), hy, fun x hx => ?_⟩
        obtain ⟨j, hj, rfl⟩ := List.getElem_of_mem hx
        have := hg j (by omega)
        rwa [List.getD_eq_getElem?_getD, List.getElem?_eq_getElem hj] at this
      | succ m ihm =>
        intro i y h0 hi hm hy hg
        obtain ⟨u, e1, g1⟩ := ih (rd_T27 t.f3 i) (h3k _ (rd_mem _ _ h0 (by omega)))
        obtain ⟨r, e2, l2, s2⟩ := ihm (i + 1) (y.set (i : Int).toNat ⟨u.f0, u.f1, u.f2, u.f3, u.f4⟩) (by omega) (by omega) (by omega) (by simpa using hy) (fun j hj => by
          by_cases he : (j : Int) = i
          · rw [List.getD_eq_getElem?_getD, show i.toNat = j by omega, List.getElem?_set_self (by omega), etaT]; exact g1
          · have := hg j (by omega)
            rw [List.getD_eq_getElem?_getD] at this ⊢
            rwa [List.getElem?_set_ne (by omega)])
        refine ⟨r, ?_, l2, s2⟩
        have w2 : wrap64 (i + 1) = i + 1 := w64 (by omega) (by omega)
        refine ev_step (fun k => by simp only [laws_toTreeS.l0, w2]; exact rfl) ?_
        refine ev_pos (by omega) ?_
        refine ev_pos h0 ?_
        refine ev_bind e1 ?_
        refine ev_pos (by omega) ?_
        exact e2
    obtain ⟨r, e3, l3, s3⟩ := row t.f3.length 0 (List.replicate t.f3.length z34) (by omega) (by omega) (by omega) (by simp) (fun j hj => by omega)
    have E1 : Ev (fun k => laws_toPairS.f k t.f1) (t.f1.map cvPair) := ev_of t.f1.length (fun k hk => toPairS_all _ h1 k hk)
    have E2 : Ev (fun k => laws_toIntS.f k t.f2) t.f2 := ev_of t.f2.length (fun k hk => toIntS_all _ h2 k hk)
    have E4 : Ev (fun k => laws_toMsgS.f k t.f4) (t.f4.map cvMsg) := ev_of t.f4.length (fun k hk => toMsgS_all _ h4 k hk)
    have E3 : Ev (fun k => laws_toTreeS.f k t.f3) r := ev_step (fun k => by simp only [laws_toTreeS.f]; exact rfl) (ev_pos (by omega) (ev_pos (by omega) e3))
    refine ⟨⟨t.f0, t.f1.map cvPair, t.f2, r, t.f4.map cvMsg⟩, ?_, by simpa using h1, h2, ⟨by show r.length ≤ _; omega, s3⟩, by simpa using h4⟩
    refine ev_step (fun k => by simp only [laws_toTree.f]; exact rfl) ?_
    refine ev_bind E1 ?_
    refine ev_bind E2 ?_
    refine ev_bind E3 ?_
    refine ev_bind E4 ?_
    exact ev_some _

theorem eq_tree (n : Nat) : ∀ (t : S34), goodN n t → Ev (fun k => laws_eqTree.f k t.f0 t.f1 t.f2 t.f3 t.f4 t.f0 t.f1 t.f2 t.f3 t.f4) true := by
  induction n with
  | zero => intro t h; exact absurd h id
  | succ n ih =>
    intro t ⟨h1, h2, ⟨h3, h3k⟩, h4⟩
    have row : ∀ (m : Nat) (i : Int), 0 ≤ i → i ≤ t.f3.length → (t.f3.length : Int) - i = m → Ev (fun k => laws_eqTreeS.l0 k t.f3 t.f3 i) true := by
      intro m
      induction m with
      | zero =>
        intro i h0 hi hm
        exact ev_step (fun k => by simp only [laws_eqTreeS.l0]; exact rfl) (ev_neg (by omega) (ev_some _))
      | succ m ihm =>
        intro i h0 hi hm
        refine ev_step (fun k => by simp only [laws_eqTreeS.l0]; exact rfl) (ev_pos (by omega) (ev_pos h0 (ev_pos (by omega) (ev_bind (ih _ (h3k _ (rd_mem2 _ _ h0 (by omega)))) (ev_tt ?_)))))
        rw [w64 (x := i + 1) (by omega) (by omega)]
        exact ihm (i + 1) (by omega) (by omega) (by omega)
    have E1 : Ev (fun k => laws_eqPairS.f k t.f1 t.f1) true := ev_of t.f1.length (fun k hk => eqPairS_self _ (by omega) k hk)
    have E2 : Ev (fun k => laws_eqIntS.f k t.f2 t.f2) true := ev_of t.f2.length (fun k hk => eqIntS_self _ (by omega) k hk)
    have E4 : Ev (fun k => laws_eqMsgS.f k t.f4 t.f4) true := ev_of t.f4.length (fun k hk => eqMsgS_self _ (by omega) k hk)
    have E3 : Ev (fun k => laws_eqTreeS.f k t.f3 t.f3) true := by
      refine ev_step (fun k => by simp only [laws_eqTreeS.f]; exact rfl) ?_
      first | exact row t.f3.length 0 (by omega) (by omega) (by omega) | exact ev_pos (by rfl) (row t.f3.length 0 (by omega) (by omega) (by omega))
    refine ev_step (fun k => by simp only [laws_eqTree.f]; exact rfl) ?_
    refine ev_neg (by simp) ?_
    exact ev_bind E1 (ev_tt (ev_bind E2 (ev_tt (ev_bind E3 (ev_tt (ev_bind E4 (ev_tt (ev_some _))))))))

theorem drop_int (l : List Int) (i : Int) (h0 : 0 ≤ i) (h1 : i < l.length) : l.drop i.toNat = rd l i :: l.drop (i + 1).toNat := by
  rw [List.drop_eq_getElem_cons (by omega)]
  congr 1
  · unfold rd
    rw [List.getD_eq_getElem?_getD, List.getElem?_eq_getElem (by omega)]
    rfl
  · congr 1
    omega
/-- A leaf is as told. -/
def leafM (t : S34) (lo hi : Int) : Bool := mapOk t.f1 && decide (t.f1.length ≤ 4) && decide (t.f2.length = 0) && decide (t.f3.length = 0) && decide (t.f4.length = 0) && t.f1.all (fun p => inR p.f0 lo (hi - 1))
def bufM (l : List S72) (lo hi : Int) : Bool := l.all (fun m => msgOk m.f0 m.f1 m.f2 && decide (m.f0 ≠ 4) && inR m.f1 lo (hi - 1))
theorem bufM_cons (m : S72) (r : List S72) (lo hi : Int) : bufM (m :: r) lo hi = (msgOk m.f0 m.f1 m.f2 && decide (m.f0 ≠ 4) && inR m.f1 lo (hi - 1) && bufM r lo hi) := rfl
theorem f_of {b : Bool} (h : ¬ b = true) : false = b := by cases b <;> simp_all
def shapeM (t : S34) : Bool := decide (t.f1.length = 0) && inR t.f3.length 2 4 && decide (t.f2.length + 1 = t.f3.length) && decide (t.f4.length ≤ 6)
/-- The kids' common depth and one more; 0 where they differ or are not as told. D: a kid's depth. -/
def kidsM (D : S34 → Int → Int → Int) (hi : Int) : List S34 → List Int → Int → Int → Bool → Int
  | [], _, dep, _, _ => wrap64 (dep + 1)
  | t :: r, [], dep, fr, first => if D t fr hi = 0 then 0 else if first = false ∧ D t fr hi ≠ dep then 0 else kidsM D hi r [] (D t fr hi) hi false
  | t :: r, c :: cs, dep, fr, first => if inR c (fr + 1) (hi - 1) = true then (if D t fr c = 0 then 0 else if first = false ∧ D t fr c ≠ dep then 0 else kidsM D hi r cs (D t fr c) c false) else 0
def depthM : Nat → S34 → Int → Int → Int
  | 0, _, _, _ => 0
  | d + 1, t, lo, hi => if t.f0 = true then (if leafM t lo hi = true then 1 else 0) else if (shapeM t && bufM t.f4 lo hi) = true then kidsM (depthM d) hi t.f3 t.f2 0 lo true else 0
theorem tail_ev {f : Nat → Option Int} {v dep R i : Int} (h0 : 0 ≤ i) (hf : Ev f R) : Ev (fun k => if v = 0 then some 0 else (if i > 0 then (if v = dep then f k else some 0) else f k)) (if v = 0 then 0 else if decide (i = 0) = false ∧ v ≠ dep then 0 else R) := by
  by_cases hv : v = 0
  · rw [if_pos hv]; exact ev_pos hv (ev_some _)
  · rw [if_neg hv]
    refine ev_neg hv ?_
    by_cases hi : i > 0
    · refine ev_pos hi ?_
      by_cases hd : v = dep
      · rw [if_neg (by simp [hd])]; exact ev_pos hd hf
      · rw [if_pos ⟨by simp; omega, hd⟩]; exact ev_neg hd (ev_some _)
    · rw [if_neg (by simp; omega)]; exact ev_neg hi hf

theorem spec_leaf_l0 (f0 : Bool) (l1 : List S92) (l2 : List Int) (l3 : List S34) (l4 : List S72) (lo hi : Int) (hl : l1.length ≤ 1048576) (h1 : 0 ≤ hi) (h2 : hi ≤ 1000) : ∀ (m : Nat) (i : Int), 0 ≤ i → i ≤ l1.length → (l1.length : Int) - i = m → Ev (fun k => spec_l2Leaf.l0 k lo hi i f0 l1 l2 l3 l4) (if (l1.drop i.toNat).all (fun p => inR p.f0 lo (hi - 1)) = true then 1 else 0) := by
  intro m
  induction m with
  | zero =>
    intro i h0 hi2 hm
    rw [List.drop_of_length_le (by omega)]
    exact ev_step (fun k => by simp only [spec_l2Leaf.l0]; exact rfl) (ev_neg (by omega) (ev_some _))
  | succ m ih =>
    intro i h0 hi2 hm
    have hn := ih (i + 1) (by omega) (by omega) (by omega)
    rw [drop_Pair l1 i h0 (by omega)]
    have w1 : wrap64 (hi - 1) = hi - 1 := w64 (by omega) (by omega)
    have w2 : wrap64 (i + 1) = i + 1 := w64 (by omega) (by omega)
    refine ev_step (fun k => by simp only [spec_l2Leaf.l0, w1, w2]; exact rfl) (ev_pos (by omega) (ev_pos h0 (ev_bind (ev_all (fun _ => spec_in _ _ _)) ?_)))
    cases hc : inR (rd_T92 l1 i).f0 lo (hi - 1)
    · rw [if_neg (by simp [hc])]; exact ev_neg (by simp) (ev_some _)
    · refine ev_tt (ev_eq hn ?_)
      simp [hc]
theorem spec_leaf (t : S34) (n : Nat) (hg : goodN n t) (lo hi : Int) (h1 : 0 ≤ hi) (h2 : hi ≤ 1000) : Ev (fun k => spec_l2Leaf.f k t.f0 t.f1 t.f2 t.f3 t.f4 lo hi) (if leafM t lo hi = true then 1 else 0) := by
  obtain ⟨n, rfl⟩ : ∃ m, n = m + 1 := by cases n with | zero => exact absurd hg id | succ n => exact ⟨n, rfl⟩
  obtain ⟨g1, g2, ⟨g3, _⟩, g4⟩ := hg
  have hL := spec_leaf_l0 t.f0 t.f1 t.f2 t.f3 t.f4 lo hi g1 h1 h2 t.f1.length 0 (by omega) (by omega) (by omega)
  rw [show List.drop (0 : Int).toNat t.f1 = t.f1 from rfl] at hL
  have j0t : Ev (fun k => spec_l2Leaf.j0 k lo hi true t.f0 t.f1 t.f2 t.f3 t.f4) 0 := ev_step (fun k => by simp only [spec_l2Leaf.j0]; exact rfl) (ev_tt (ev_some _))
  have E : Ev (fun k => spec_MapOk.f k t.f1) (mapOk t.f1) := ev_of t.f1.length (fun k hk => spec_mapok _ (by omega) k hk)
  unfold spec_l2Leaf.f
  refine ev_bind E ?_
  unfold leafM
  cases hm : mapOk t.f1
  · exact ev_neg (by simp) (by simpa using j0t)
  · refine ev_tt ?_
    by_cases c1 : (t.f1.length : Int) > 4
    · rw [if_neg (fun h => by simp only [Bool.and_eq_true, decide_eq_true_eq] at h; omega)]; exact ev_pos c1 j0t
    · refine ev_neg c1 ?_
      have e1 : wrap64 ((t.f2.length : Int) + t.f3.length) = (t.f2.length : Int) + t.f3.length := w64 (by omega) (by omega)
      have e2 : wrap64 ((t.f2.length : Int) + t.f3.length + t.f4.length) = (t.f2.length : Int) + t.f3.length + t.f4.length := w64 (by omega) (by omega)
      simp only [e1, e2]
      by_cases c2 : (t.f2.length : Int) + t.f3.length + t.f4.length > 0
      · rw [decide_eq_true c2, if_neg (fun h => by simp only [Bool.and_eq_true, decide_eq_true_eq] at h; omega)]; exact j0t
      · rw [decide_eq_false c2]
        refine ev_step (fun k => by simp only [spec_l2Leaf.j0]; exact rfl) (ev_neg (by simp) (ev_eq hL ?_))
        have a1 : decide (t.f1.length ≤ 4) = true := decide_eq_true (by omega)
        have a2 : decide (t.f2.length = 0) = true := decide_eq_true (by omega)
        have a3 : decide (t.f3.length = 0) = true := decide_eq_true (by omega)
        have a4 : decide (t.f4.length = 0) = true := decide_eq_true (by omega)
        rw [a1, a2, a3, a4]; rfl

theorem spec_depth (d : Nat) : d ≤ 100 → ∀ (n : Nat) (t : S34), goodN n t → ∀ lo hi : Int, 0 ≤ lo → lo ≤ 1000 → 0 ≤ hi → hi ≤ 1000 → Ev (fun k => spec_l2Depth.f k t.f0 t.f1 t.f2 t.f3 t.f4 lo hi d) (depthM d t lo hi) := by
  induction d with
  | zero =>
    intro _ n t _ lo hi _ _ _ _
    refine ev_step (fun k => by simp only [spec_l2Depth.f]; exact rfl) ?_
    exact ev_pos (by rfl) (ev_some _)
  | succ d ih =>
    intro hd n t hg lo hi hlo hlo2 hhi hhi2
    have hg0 := hg
    obtain ⟨n, rfl⟩ : ∃ m, n = m + 1 := by cases n with | zero => exact absurd hg id | succ n => exact ⟨n, rfl⟩
    obtain ⟨g1, g2, ⟨g3, g3k⟩, g4⟩ := hg
    have wd : wrap64 (((d + 1 : Nat) : Int) - 1) = d := by rw [w64 (by omega) (by omega)]; omega
    have wh : wrap64 (hi - 1) = hi - 1 := w64 (by omega) (by omega)
    have wl : wrap64 ((t.f3.length : Int) - 1) = (t.f3.length : Int) - 1 := w64 (by omega) (by omega)
    have kids (hsh : t.f2.length + 1 = t.f3.length) : ∀ (m : Nat) (i dep fr : Int), 0 ≤ i → i ≤ t.f3.length → (t.f3.length : Int) - i = m → 0 ≤ fr → fr ≤ 1000 → Ev (fun k => spec_l2Depth.l1 k hi ((d + 1 : Nat) : Int) t.f3.length dep fr i t.f0 t.f1 t.f2 t.f3 t.f4) (kidsM (depthM d) hi (t.f3.drop i.toNat) (t.f2.drop i.toNat) dep fr (decide (i = 0))) := by
      intro m
      induction m with
      | zero =>
        intro i dep fr h0 hi2 hm _ _
        rw [List.drop_of_length_le (l := t.f3) (by omega)]
        exact ev_step (fun k => by simp only [spec_l2Depth.l1]; exact rfl) (ev_neg (by omega) (ev_some _))
      | succ m ihm =>
        intro i dep fr h0 hi2 hm hf hf2
        have wi : wrap64 (i + 1) = i + 1 := w64 (by omega) (by omega)
        have wf : wrap64 (fr + 1) = fr + 1 := w64 (by omega) (by omega)
        have kid := ih (by omega) n (rd_T34 t.f3 i) (g3k _ (rd_mem2 _ _ h0 (by omega)))
        rw [drop_Tree t.f3 i h0 (by omega)]
        by_cases c : i < t.f2.length
        · rw [drop_int t.f2 i h0 c]
          simp only [kidsM]
          refine ev_step (fun k => by simp only [spec_l2Depth.l1, wd, wh, wl, wi, wf]; exact rfl) (ev_pos (by omega) (ev_pos (by omega) (ev_pos h0 (ev_pos c (ev_bind (ev_all (fun _ => spec_in _ _ _)) ?_)))))
          cases hc : inR (rd t.f2 i) (fr + 1) (hi - 1)
          · rw [if_neg (by simp)]; exact ev_neg (by simp) (ev_some _)
          · rw [if_pos rfl]
            have hb : fr + 1 ≤ rd t.f2 i ∧ rd t.f2 i ≤ hi - 1 := by simpa [inR] using hc
            have hn := ihm (i + 1) (depthM d (rd_T34 t.f3 i) fr (rd t.f2 i)) (rd t.f2 i) (by omega) (by omega) (by omega) (by omega) (by omega)
            rw [decide_eq_false (show ¬ (i + 1 = 0) by omega)] at hn
            exact ev_tt (ev_pos (by omega) (ev_bind (kid fr (rd t.f2 i) hf hf2 (by omega) (by omega)) (tail_ev h0 hn)))
        · rw [List.drop_of_length_le (l := t.f2) (by omega)]
          simp only [kidsM]
          have hn := ihm (i + 1) (depthM d (rd_T34 t.f3 i) fr hi) hi (by omega) (by omega) (by omega) (by omega) (by omega)
          rw [decide_eq_false (show ¬ (i + 1 = 0) by omega), List.drop_of_length_le (l := t.f2) (by omega)] at hn
          exact ev_step (fun k => by simp only [spec_l2Depth.l1, wd, wh, wl, wi, wf]; exact rfl) (ev_pos (by omega) (ev_neg (by omega) (ev_pos h0 (ev_pos (by omega) (ev_bind (kid fr hi hf hf2 hhi hhi2) (tail_ev h0 hn))))))
    have buf (hsh : t.f2.length + 1 = t.f3.length) : ∀ (m : Nat) (i : Int), 0 ≤ i → i ≤ t.f4.length → (t.f4.length : Int) - i = m → Ev (fun k => spec_l2Depth.l0 k lo hi ((d + 1 : Nat) : Int) t.f3.length i t.f0 t.f1 t.f2 t.f3 t.f4) (if bufM (t.f4.drop i.toNat) lo hi = true then kidsM (depthM d) hi t.f3 t.f2 0 lo true else 0) := by
      intro m
      induction m with
      | zero =>
        intro i h0 hi2 hm
        rw [List.drop_of_length_le (by omega)]
        exact ev_step (fun k => by simp only [spec_l2Depth.l0]; exact rfl) (ev_neg (by omega) (kids hsh t.f3.length 0 0 lo (by omega) (by omega) (by omega) hlo hlo2))
      | succ m ihm =>
        intro i h0 hi2 hm
        have wi : wrap64 (i + 1) = i + 1 := w64 (by omega) (by omega)
        have hn := ihm (i + 1) (by omega) (by omega) (by omega)
        rw [drop_Msg t.f4 i h0 (by omega)]
        refine ev_step (fun k => by simp only [spec_l2Depth.l0, wh, wi]; exact rfl) (ev_pos (by omega) (ev_pos h0 (ev_bind (ev_all (fun _ => spec_msgok _ _ _)) ?_)))
        by_cases hm1 : msgOk (rd_T72 t.f4 i).f0 (rd_T72 t.f4 i).f1 (rd_T72 t.f4 i).f2 = true
        rotate_left
        · rw [if_neg (by rw [bufM_cons]; simp [hm1])]; exact ev_neg hm1 (ev_some _)
        · refine ev_pos hm1 ?_
          by_cases h4 : (rd_T72 t.f4 i).f0 = 4
          · rw [if_neg (by rw [bufM_cons]; simp [h4])]; exact ev_pos h4 (ev_some _)
          · refine ev_neg h4 (ev_bind (ev_all (fun _ => spec_in _ _ _)) ?_)
            by_cases hc : inR (rd_T72 t.f4 i).f1 lo (hi - 1) = true
            · refine ev_pos hc (ev_eq hn ?_)
              have e : bufM (rd_T72 t.f4 i :: t.f4.drop (i + 1).toNat) lo hi = bufM (t.f4.drop (i + 1).toNat) lo hi := by rw [bufM_cons, hm1, hc, decide_eq_true h4]; rfl
              rw [e]
            · rw [if_neg (by rw [bufM_cons]; simp [hc])]; exact ev_neg hc (ev_some _)
    have j0t : Ev (fun k => spec_l2Depth.j0 k lo hi ((d + 1 : Nat) : Int) t.f3.length true t.f0 t.f1 t.f2 t.f3 t.f4) 0 := ev_step (fun k => by simp only [spec_l2Depth.j0]; exact rfl) (ev_tt (ev_some _))
    refine ev_step (fun k => by simp only [spec_l2Depth.f, wl]; exact rfl) (ev_neg (by omega) ?_)
    simp only [depthM]
    by_cases hf : t.f0 = true
    · rw [if_pos hf]
      exact ev_pos hf (ev_bind (spec_leaf t _ hg0 lo hi hhi hhi2) (ev_some _))
    · rw [if_neg hf]
      refine ev_neg hf ?_
      by_cases c1 : (t.f1.length : Int) > 0
      · rw [if_neg (fun h => by simp only [shapeM, inR, Bool.and_eq_true, decide_eq_true_eq] at h; omega)]; exact ev_pos c1 j0t
      · refine ev_neg c1 (ev_bind (ev_all (fun _ => spec_in _ _ _)) ?_)
        cases c2 : inR (t.f3.length : Int) 2 4
        · rw [if_neg (by simp [shapeM, c2])]; exact ev_neg (by simp) j0t
        · refine ev_tt ?_
          have hb : 2 ≤ (t.f3.length : Int) := by simp [inR] at c2; omega
          by_cases c3 : (t.f2.length : Int) = (t.f3.length : Int) - 1
          · refine ev_pos c3 ?_
            by_cases c4 : (t.f4.length : Int) > 6
            · rw [decide_eq_true c4, if_neg (fun h => by simp only [shapeM, inR, Bool.and_eq_true, decide_eq_true_eq] at h; omega)]; exact j0t
            · rw [decide_eq_false c4]
              refine ev_step (fun k => by simp only [spec_l2Depth.j0]; exact rfl) (ev_neg (by simp) (ev_eq (buf (by omega) t.f4.length 0 (by omega) (by omega) (by omega)) ?_))
              have s : shapeM t = true := by
                unfold shapeM
                rw [c2, decide_eq_true (show t.f1.length = 0 by omega), decide_eq_true (show t.f2.length + 1 = t.f3.length by omega), decide_eq_true (show t.f4.length ≤ 6 by omega)]
                rfl
              rw [s]; rfl
          · rw [if_neg (fun h => by simp only [shapeM, inR, Bool.and_eq_true, decide_eq_true_eq] at h; omega)]; exact ev_neg c3 j0t

theorem impl_index_leaf (l : List S92) (lo hi : Int) (hl : l.length ≤ 1048576) (h1 : 0 ≤ hi) (h2 : hi ≤ 1000) : ∀ (m : Nat) (i : Int), 0 ≤ i → i ≤ l.length → (l.length : Int) - i = m → ∃ r, Ev (fun k => slices_IndexFunc_Pair_123.l0 k l l.length i lo hi) r ∧ decide (r ≥ 0) = !(l.drop i.toNat).all (fun p => inR p.f0 lo (hi - 1)) := by
  intro m
  induction m with
  | zero =>
    intro i h0 hi2 hm
    rw [List.drop_of_length_le (by omega)]
    exact ⟨-1, ev_step (fun k => by simp only [slices_IndexFunc_Pair_123.l0]; exact rfl) (ev_neg (by omega) (ev_some _)), rfl⟩
  | succ m ih =>
    intro i h0 hi2 hm
    obtain ⟨r, er, hr⟩ := ih (i + 1) (by omega) (by omega) (by omega)
    rw [drop_Pair l i h0 (by omega)]
    have w1 : wrap64 (hi - 1) = hi - 1 := w64 (by omega) (by omega)
    have w2 : wrap64 (i + 1) = i + 1 := w64 (by omega) (by omega)
    have E : ∀ k : Nat, impl_leafOk_f1.f (rd_T92 l i).f0 (rd_T92 l i).f1 lo hi = some (!inR (rd_T92 l i).f0 lo (hi - 1)) := by
      intro _
      simp only [impl_leafOk_f1.f, w1, impl_in, Option.bind_some]
    cases hc : inR (rd_T92 l i).f0 lo (hi - 1)
    · rw [hc] at E
      refine ⟨i, ?_, by simp [hc]; omega⟩
      refine ev_step (fun k => by simp only [slices_IndexFunc_Pair_123.l0, w2]; exact rfl) ?_
      refine ev_pos (by omega) ?_
      refine ev_pos h0 ?_
      refine ev_pos (by omega) ?_
      refine ev_bind (ev_all E) ?_
      exact ev_tt (ev_some _)
    · rw [hc] at E
      refine ⟨r, ?_, by rw [hr]; simp [hc]⟩
      refine ev_step (fun k => by simp only [slices_IndexFunc_Pair_123.l0, w2]; exact rfl) ?_
      refine ev_pos (by omega) ?_
      refine ev_pos h0 ?_
      refine ev_pos (by omega) ?_
      refine ev_bind (ev_all E) ?_
      exact ev_neg (by simp) er
theorem impl_leaf (t : S34) (n : Nat) (hg : goodN n t) (lo hi : Int) (h1 : 0 ≤ hi) (h2 : hi ≤ 1000) : Ev (fun k => impl_leafOk.f k t.f0 t.f1 t.f2 t.f3 t.f4 lo hi) (leafM t lo hi) := by
  obtain ⟨n, rfl⟩ : ∃ m, n = m + 1 := by cases n with | zero => exact absurd hg id | succ n => exact ⟨n, rfl⟩
  obtain ⟨g1, g2, ⟨g3, _⟩, g4⟩ := hg
  obtain ⟨r, er, hr⟩ := impl_index_leaf t.f1 lo hi g1 h1 h2 t.f1.length 0 (by omega) (by omega) (by omega)
  rw [show List.drop (0 : Int).toNat t.f1 = t.f1 from rfl] at hr
  have E : Ev (fun k => impl_MapOk.f k t.f1) (mapOk t.f1) := ev_of t.f1.length (fun k hk => impl_mapok _ (by omega) k hk)
  have C : Ev (fun k => slices_ContainsFunc_Pair_123.f k t.f1 lo hi) (!t.f1.all (fun p => inR p.f0 lo (hi - 1))) := by
    unfold slices_ContainsFunc_Pair_123.f slices_IndexFunc_Pair_123.f
    rw [← hr]
    exact ev_bind er (ev_some _)
  unfold impl_leafOk.f
  refine ev_bind E ?_
  unfold leafM
  cases hm : mapOk t.f1
  · exact ev_neg (by simp) (by simpa using ev_some false)
  · refine ev_tt ?_
    by_cases c1 : (t.f1.length : Int) > 4
    · exact ev_pos c1 (ev_eq (ev_some false) (f_of (fun h => by simp only [Bool.and_eq_true, decide_eq_true_eq] at h; omega)))
    · refine ev_neg c1 ?_
      by_cases c2 : (t.f2.length : Int) > 0
      · exact ev_pos c2 (ev_eq (ev_some false) (f_of (fun h => by simp only [Bool.and_eq_true, decide_eq_true_eq] at h; omega)))
      · refine ev_neg c2 ?_
        by_cases c3 : (t.f3.length : Int) > 0
        · exact ev_pos c3 (ev_eq (ev_some false) (f_of (fun h => by simp only [Bool.and_eq_true, decide_eq_true_eq] at h; omega)))
        · refine ev_neg c3 ?_
          by_cases c4 : (t.f4.length : Int) > 0
          · exact ev_pos c4 (ev_eq (ev_some false) (f_of (fun h => by simp only [Bool.and_eq_true, decide_eq_true_eq] at h; omega)))
          · refine ev_neg c4 (ev_bind C (ev_eq (ev_some _) ?_))
            have a1 : decide (t.f1.length ≤ 4) = true := decide_eq_true (by omega)
            have a2 : decide (t.f2.length = 0) = true := decide_eq_true (by omega)
            have a3 : decide (t.f3.length = 0) = true := decide_eq_true (by omega)
            have a4 : decide (t.f4.length = 0) = true := decide_eq_true (by omega)
            rw [a1, a2, a3, a4]; simp
theorem impl_index_buf (l : List S72) (lo hi : Int) (hl : l.length ≤ 1048576) (h1 : 0 ≤ hi) (h2 : hi ≤ 1000) : ∀ (m : Nat) (i : Int), 0 ≤ i → i ≤ l.length → (l.length : Int) - i = m → ∃ r, Ev (fun k => slices_IndexFunc_Msg_104.l0 k l l.length i lo hi) r ∧ decide (r ≥ 0) = !bufM (l.drop i.toNat) lo hi := by
  intro m
  induction m with
  | zero =>
    intro i h0 hi2 hm
    rw [List.drop_of_length_le (by omega)]
    exact ⟨-1, ev_step (fun k => by simp only [slices_IndexFunc_Msg_104.l0]; exact rfl) (ev_neg (by omega) (ev_some _)), rfl⟩
  | succ m ih =>
    intro i h0 hi2 hm
    obtain ⟨r, er, hr⟩ := ih (i + 1) (by omega) (by omega) (by omega)
    rw [drop_Msg l i h0 (by omega)]
    have w1 : wrap64 (hi - 1) = hi - 1 := w64 (by omega) (by omega)
    have w2 : wrap64 (i + 1) = i + 1 := w64 (by omega) (by omega)
    have E : Ev (fun k => impl_depthOf_f1.f k (rd_T72 l i).f0 (rd_T72 l i).f1 (rd_T72 l i).f2 lo hi) (!(msgOk (rd_T72 l i).f0 (rd_T72 l i).f1 (rd_T72 l i).f2 && decide ((rd_T72 l i).f0 ≠ 4) && inR (rd_T72 l i).f1 lo (hi - 1))) := by
      unfold impl_depthOf_f1.f
      refine ev_bind (ev_of 1 (fun k hk => impl_msgok _ _ _ k hk)) ?_
      cases hm1 : msgOk (rd_T72 l i).f0 (rd_T72 l i).f1 (rd_T72 l i).f2
      · exact ev_neg (by simp) (by simpa using ev_some true)
      · refine ev_tt ?_
        by_cases h4 : (rd_T72 l i).f0 = 4
        · exact ev_pos h4 (ev_eq (ev_some true) (by simp [h4]))
        · rw [w1]
          exact ev_neg h4 (ev_bind (ev_all (fun _ => impl_in _ _ _)) (ev_eq (ev_some _) (by simp [h4])))
    simp only [bufM, List.all_cons] at hr ⊢
    cases hc : (msgOk (rd_T72 l i).f0 (rd_T72 l i).f1 (rd_T72 l i).f2 && decide ((rd_T72 l i).f0 ≠ 4) && inR (rd_T72 l i).f1 lo (hi - 1))
    · rw [hc] at E
      refine ⟨i, ?_, by simp; omega⟩
      refine ev_step (fun k => by simp only [slices_IndexFunc_Msg_104.l0, w2]; exact rfl) ?_
      refine ev_pos (by omega) ?_
      refine ev_pos h0 ?_
      refine ev_pos (by omega) ?_
      refine ev_bind E ?_
      exact ev_tt (ev_some _)
    · rw [hc] at E
      refine ⟨r, ?_, by rw [hr]; simp⟩
      refine ev_step (fun k => by simp only [slices_IndexFunc_Msg_104.l0, w2]; exact rfl) ?_
      refine ev_pos (by omega) ?_
      refine ev_pos h0 ?_
      refine ev_pos (by omega) ?_
      refine ev_bind E ?_
      exact ev_neg (by simp) er
theorem impl_depth (d : Nat) : d ≤ 100 → ∀ (n : Nat) (t : S34), goodN n t → ∀ lo hi : Int, 0 ≤ lo → lo ≤ 1000 → 0 ≤ hi → hi ≤ 1000 → Ev (fun k => impl_depthOf.f k t.f0 t.f1 t.f2 t.f3 t.f4 lo hi d) (depthM d t lo hi) := by
  induction d with
  | zero =>
    intro _ n t _ lo hi _ _ _ _
    refine ev_step (fun k => by simp only [impl_depthOf.f]; exact rfl) ?_
    exact ev_pos (by rfl) (ev_some _)
  | succ d ih =>
    intro hd n t hg lo hi hlo hlo2 hhi hhi2
    have hg0 := hg
    obtain ⟨n, rfl⟩ : ∃ m, n = m + 1 := by cases n with | zero => exact absurd hg id | succ n => exact ⟨n, rfl⟩
    obtain ⟨g1, g2, ⟨g3, g3k⟩, g4⟩ := hg
    have wd : wrap64 (((d + 1 : Nat) : Int) - 1) = d := by rw [w64 (by omega) (by omega)]; omega
    have wl : wrap64 ((t.f3.length : Int) - 1) = (t.f3.length : Int) - 1 := w64 (by omega) (by omega)
    have kids (hsh : t.f2.length + 1 = t.f3.length) : ∀ (m : Nat) (i dep fr : Int), 0 ≤ i → i ≤ t.f3.length → (t.f3.length : Int) - i = m → 0 ≤ fr → fr ≤ 1000 → Ev (fun k => impl_depthOf.l0 k ((d + 1 : Nat) : Int) dep fr t.f3 t.f3.length i t.f0 t.f1 t.f2 t.f3 t.f4 hi) (kidsM (depthM d) hi (t.f3.drop i.toNat) (t.f2.drop i.toNat) dep fr (decide (i = 0))) := by
      intro m
      induction m with
      | zero =>
        intro i dep fr h0 hi2 hm _ _
        rw [List.drop_of_length_le (l := t.f3) (by omega)]
        exact ev_step (fun k => by simp only [impl_depthOf.l0]; exact rfl) (ev_neg (by omega) (ev_some _))
      | succ m ihm =>
        intro i dep fr h0 hi2 hm hf hf2
        have wi : wrap64 (i + 1) = i + 1 := w64 (by omega) (by omega)
        have kid := ih (by omega) n (rd_T34 t.f3 i) (g3k _ (rd_mem2 _ _ h0 (by omega)))
        rw [drop_Tree t.f3 i h0 (by omega)]
        refine ev_step (fun k => by simp only [impl_depthOf.l0]; exact rfl) (ev_pos (by omega) (ev_pos h0 (ev_pos (by omega) ?_)))
        by_cases c : i < t.f2.length
        · rw [drop_int t.f2 i h0 c]
          simp only [kidsM]
          have fl : ∀ b, b = !inR (rd t.f2 i) (fr + 1) (hi - 1) → Ev (fun k => impl_depthOf.j3 k ((d + 1 : Nat) : Int) dep fr i (rd t.f2 i) t.f3 t.f3.length i b t.f0 t.f1 t.f2 t.f3 t.f4 hi (rd_T34 t.f3 i).f0 (rd_T34 t.f3 i).f1 (rd_T34 t.f3 i).f2 (rd_T34 t.f3 i).f3 (rd_T34 t.f3 i).f4) (if inR (rd t.f2 i) (fr + 1) (hi - 1) = true then (if depthM d (rd_T34 t.f3 i) fr (rd t.f2 i) = 0 then 0 else if decide (i = 0) = false ∧ depthM d (rd_T34 t.f3 i) fr (rd t.f2 i) ≠ dep then 0 else kidsM (depthM d) hi (t.f3.drop (i + 1).toNat) (t.f2.drop (i + 1).toNat) (depthM d (rd_T34 t.f3 i) fr (rd t.f2 i)) (rd t.f2 i) false) else 0) := by
            intro b hb
            cases hc : inR (rd t.f2 i) (fr + 1) (hi - 1)
            · rw [hc] at hb; subst hb
              refine ev_step (fun k => by simp only [impl_depthOf.j3]; exact rfl) ?_
              simpa using ev_some (0 : Int)
            · rw [hc] at hb; subst hb
              have hbb : fr + 1 ≤ rd t.f2 i ∧ rd t.f2 i ≤ hi - 1 := by simpa [inR] using hc
              have hn := ihm (i + 1) (depthM d (rd_T34 t.f3 i) fr (rd t.f2 i)) (rd t.f2 i) (by omega) (by omega) (by omega) (by omega) (by omega)
              rw [decide_eq_false (show ¬ (i + 1 = 0) by omega)] at hn
              rw [if_pos rfl]
              exact ev_step (fun k => by simp only [impl_depthOf.j3, wd, wi]; exact rfl) (ev_neg (by simp) (ev_bind (kid fr (rd t.f2 i) hf hf2 (by omega) (by omega)) (tail_ev h0 hn)))
          refine ev_pos c (ev_step (fun k => by simp only [impl_depthOf.j2]; exact rfl) (ev_pos c (ev_bind (ev_all (fun _ => impl_in _ _ _)) ?_)))
          cases h9 : inR (rd t.f2 i) 1 999
          · exact ev_neg (by simp) (fl true (by
              simp only [inR, Bool.and_eq_false_iff, decide_eq_false_iff_not] at h9
              symm; simp only [inR, Bool.not_eq_true', Bool.and_eq_false_iff, decide_eq_false_iff_not]; omega))
          · refine ev_tt ?_
            by_cases c5 : rd t.f2 i ≤ fr
            · exact ev_pos c5 (fl true (by
                symm; simp only [inR, Bool.not_eq_true', Bool.and_eq_false_iff, decide_eq_false_iff_not]; omega))
            · refine ev_neg c5 (fl _ ?_)
              by_cases c6 : rd t.f2 i ≥ hi
              · rw [decide_eq_true c6]
                symm; simp only [inR, Bool.not_eq_true', Bool.and_eq_false_iff, decide_eq_false_iff_not]; omega
              · rw [decide_eq_false c6]
                symm; simp only [inR, Bool.not_eq_false', Bool.and_eq_true, decide_eq_true_eq]; omega
        · rw [List.drop_of_length_le (l := t.f2) (by omega)]
          simp only [kidsM]
          have hn := ihm (i + 1) (depthM d (rd_T34 t.f3 i) fr hi) hi (by omega) (by omega) (by omega) (by omega) (by omega)
          rw [decide_eq_false (show ¬ (i + 1 = 0) by omega), List.drop_of_length_le (l := t.f2) (by omega)] at hn
          exact ev_neg c (ev_step (fun k => by simp only [impl_depthOf.j2]; exact rfl) (ev_neg c (ev_step (fun k => by simp only [impl_depthOf.j3, wd, wi]; exact rfl) (ev_neg (by simp) (ev_bind (kid fr hi hf hf2 hhi hhi2) (tail_ev h0 hn))))))
    have j0t : Ev (fun k => impl_depthOf.j0 k ((d + 1 : Nat) : Int) true t.f0 t.f1 t.f2 t.f3 t.f4 lo hi) 0 := ev_step (fun k => by simp only [impl_depthOf.j0]; exact rfl) (ev_tt (ev_some _))
    obtain ⟨r, er, hr⟩ := impl_index_buf t.f4 lo hi g4 hhi hhi2 t.f4.length 0 (by omega) (by omega) (by omega)
    rw [show List.drop (0 : Int).toNat t.f4 = t.f4 from rfl] at hr
    have C : Ev (fun k => slices_ContainsFunc_Msg_104.f k t.f4 lo hi) (!bufM t.f4 lo hi) := by
      unfold slices_ContainsFunc_Msg_104.f slices_IndexFunc_Msg_104.f
      rw [← hr]
      exact ev_bind er (ev_some _)
    refine ev_step (fun k => by simp only [impl_depthOf.f, wl]; exact rfl) (ev_neg (by omega) ?_)
    simp only [depthM]
    by_cases hf : t.f0 = true
    · rw [if_pos hf]
      refine ev_pos hf (ev_bind (impl_leaf t _ hg0 lo hi hhi hhi2) ?_)
      cases leafM t lo hi
      · exact ev_neg (by simp) (by simpa using ev_some (0 : Int))
      · exact ev_tt (by simpa using ev_some (1 : Int))
    · rw [if_neg hf]
      refine ev_neg hf (ev_bind (ev_all (fun _ => impl_in _ _ _)) ?_)
      cases c2 : inR (t.f3.length : Int) 2 4
      · rw [if_neg (by simp [shapeM, c2])]; exact ev_neg (by simp) j0t
      · refine ev_tt ?_
        have hb : 2 ≤ (t.f3.length : Int) := by simp [inR] at c2; omega
        by_cases c3 : (t.f2.length : Int) = (t.f3.length : Int) - 1
        · refine ev_pos c3 ?_
          by_cases c4 : (t.f4.length : Int) > 6
          · rw [if_neg (fun h => by simp only [shapeM, inR, Bool.and_eq_true, decide_eq_true_eq] at h; omega)]; exact ev_pos c4 j0t
          · refine ev_neg c4 ?_
            by_cases c1 : (t.f1.length : Int) > 0
            · rw [decide_eq_true c1, if_neg (fun h => by simp only [shapeM, inR, Bool.and_eq_true, decide_eq_true_eq] at h; omega)]; exact j0t
            · rw [decide_eq_false c1]
              have s : shapeM t = true := by
                unfold shapeM
                rw [c2, decide_eq_true (show t.f1.length = 0 by omega), decide_eq_true (show t.f2.length + 1 = t.f3.length by omega), decide_eq_true (show t.f4.length ≤ 6 by omega)]
                rfl
              rw [s]
              refine ev_step (fun k => by simp only [impl_depthOf.j0]; exact rfl) (ev_neg (by simp) (ev_bind C ?_))
              cases hbm : bufM t.f4 lo hi
              · exact ev_tt (by simpa using ev_some (0 : Int))
              · exact ev_neg (by simp) (ev_eq (kids (by omega) t.f3.length 0 0 lo (by omega) (by omega) (by omega) hlo hlo2) (by simp))
        · rw [if_neg (fun h => by simp only [shapeM, inR, Bool.and_eq_true, decide_eq_true_eq] at h; omega)]; exact ev_neg c3 j0t

theorem spec_treedepth (n : Nat) (t : S34) (gt : goodN n t) : Ev (fun k => spec_TreeDepth.f k t.f0 t.f1 t.f2 t.f3 t.f4) (depthM 7 t 0 1000) := by
  unfold spec_TreeDepth.f
  exact ev_bind (spec_depth 7 (by omega) _ t gt 0 1000 (by omega) (by omega) (by omega) (by omega)) (ev_some _)
theorem impl_treedepth (n : Nat) (t : S34) (gt : goodN n t) : Ev (fun k => impl_TreeDepth.f k t.f0 t.f1 t.f2 t.f3 t.f4) (depthM 7 t 0 1000) := by
  unfold impl_TreeDepth.f
  exact ev_bind (impl_depth 7 (by omega) _ t gt 0 1000 (by omega) (by omega) (by omega) (by omega)) (ev_some _)
/-- A tree is as told. -/
def treeOk (t : S34) : Bool := decide (depthM 7 t 0 1000 > 0)
theorem spec_treeok (n : Nat) (t : S34) (gt : goodN n t) : Ev (fun k => spec_TreeOk.f k t.f0 t.f1 t.f2 t.f3 t.f4) (treeOk t) := by
  unfold spec_TreeOk.f
  exact ev_bind (spec_treedepth n t gt) (ev_some _)
theorem impl_treeok (n : Nat) (t : S34) (gt : goodN n t) : Ev (fun k => impl_TreeOk.f k t.f0 t.f1 t.f2 t.f3 t.f4) (treeOk t) := by
  unfold impl_TreeOk.f
  exact ev_bind (impl_treedepth n t gt) (ev_some _)

def asc : Int → List Int → Prop
  | _, [] => True
  | p, c :: r => p < c ∧ asc c r
/-- How many cuts there are ahead of the first one that is greater than a; how many are at most a. -/
def pre (a : Int) : List Int → Int
  | [] => 0
  | c :: r => if c ≤ a then 1 + pre a r else 0
def cnt (a : Int) : List Int → Int
  | [] => 0
  | c :: r => if c ≤ a then 1 + cnt a r else cnt a r
theorem cnt_none (a : Int) : ∀ (l : List Int) (p : Int), a < p → asc p l → cnt a l = 0
  | [], _, _, _ => rfl
  | c :: r, p, h, ⟨h1, h2⟩ => by
    simp only [cnt]
    rw [if_neg (by omega)]
    exact cnt_none a r c (by omega) h2
theorem pre_cnt (a : Int) : ∀ (l : List Int) (p : Int), asc p l → pre a l = cnt a l
  | [], _, _ => rfl
  | c :: r, p, ⟨h1, h2⟩ => by
    simp only [pre, cnt]
    by_cases h : c ≤ a
    · rw [if_pos h, if_pos h, pre_cnt a r c h2]
    · rw [if_neg h, if_neg h, cnt_none a r c (by omega) h2]
theorem kidsM_asc (D : S34 → Int → Int → Int) (hi : Int) : ∀ (ts : List S34) (cs : List Int) (dep fr : Int) (b : Bool), cs.length < ts.length → kidsM D hi ts cs dep fr b ≠ 0 → asc fr cs
  | [], _, _, _, _, h, _ => by simp at h
  | t :: r, [], _, _, _, _, _ => trivial
  | t :: r, c :: cs, dep, fr, b, h, hn => by
    simp only [kidsM] at hn
    by_cases hc : inR c (fr + 1) (hi - 1) = true
    · rw [if_pos hc] at hn
      have hb : fr + 1 ≤ c ∧ c ≤ hi - 1 := by simpa [inR] using hc
      by_cases h1 : D t fr c = 0
      · rw [if_pos h1] at hn; exact absurd rfl hn
      · rw [if_neg h1] at hn
        by_cases h2 : b = false ∧ D t fr c ≠ dep
        · rw [if_pos h2] at hn; exact absurd rfl hn
        · rw [if_neg h2] at hn
          exact ⟨by omega, kidsM_asc D hi r cs _ c false (by simp at h; omega) hn⟩
    · rw [if_neg hc] at hn; exact absurd rfl hn
theorem ok_asc (t : S34) (h : treeOk t = true) (hl : ¬ t.f0 = true) : asc 0 t.f2 := by
  have h2 := of_decide_eq_true h
  unfold depthM at h2
  rw [if_neg hl] at h2
  by_cases hs : (shapeM t && bufM t.f4 0 1000) = true
  · rw [if_pos hs] at h2
    have hm : shapeM t = true := by simp at hs; exact hs.1
    simp only [shapeM, Bool.and_eq_true, decide_eq_true_eq] at hm
    exact kidsM_asc (depthM 6) 1000 t.f3 t.f2 0 0 true (by omega) (Int.ne_of_gt h2)
  · rw [if_neg hs] at h2; omega
theorem cnt_le (a : Int) : ∀ l : List Int, 0 ≤ cnt a l ∧ cnt a l ≤ l.length
  | [] => by simp [cnt]
  | c :: r => by
    have := cnt_le a r
    simp only [cnt, List.length_cons]
    split <;> omega
def kidOfM (t : S34) (a : Int) : Int := if t.f0 = true then -1 else if treeOk t = true then cnt a t.f2 else -1
theorem good_f2 (n : Nat) (t : S34) (gt : goodN n t) : t.f2.length ≤ 1048576 := by
  cases n with
  | zero => exact absurd gt id
  | succ n => exact gt.2.1

/-- What the nodes of a right tree are. -/
def okT : Nat → S34 → Prop
  | 0, _ => False
  | d + 1, t => (t.f0 = true → t.f1.length ≤ 4 ∧ mapOk t.f1 = true ∧ t.f2 = [] ∧ t.f3 = [] ∧ t.f4 = []) ∧ (¬ t.f0 = true → t.f1 = [] ∧ t.f3.length ≤ 4 ∧ t.f2.length + 1 = t.f3.length ∧ (∃ p, asc p t.f2) ∧ t.f4.length ≤ 6 ∧ ∀ x ∈ t.f3, okT d x)
theorem kidsM_all (D : S34 → Int → Int → Int) (hi : Int) : ∀ (ts : List S34) (cs : List Int) (dep fr : Int) (b : Bool), kidsM D hi ts cs dep fr b ≠ 0 → ∀ x ∈ ts, ∃ lo up, D x lo up ≠ 0
  | [], _, _, _, _, _, x, hx => by cases hx
  | t :: r, [], dep, fr, b, hn, x, hx => by
    simp only [kidsM] at hn
    by_cases h1 : D t fr hi = 0
    · rw [if_pos h1] at hn; exact absurd rfl hn
    · rw [if_neg h1] at hn
      by_cases h2 : b = false ∧ D t fr hi ≠ dep
      · rw [if_pos h2] at hn; exact absurd rfl hn
      · rw [if_neg h2] at hn
        rcases List.mem_cons.1 hx with rfl | hx
        · exact ⟨_, _, h1⟩
        · exact kidsM_all D hi r [] _ hi false hn x hx
  | t :: r, c :: cs, dep, fr, b, hn, x, hx => by
    simp only [kidsM] at hn
    by_cases hc : inR c (fr + 1) (hi - 1) = true
    · rw [if_pos hc] at hn
      by_cases h1 : D t fr c = 0
      · rw [if_pos h1] at hn; exact absurd rfl hn
      · rw [if_neg h1] at hn
        by_cases h2 : b = false ∧ D t fr c ≠ dep
        · rw [if_pos h2] at hn; exact absurd rfl hn
        · rw [if_neg h2] at hn
          rcases List.mem_cons.1 hx with rfl | hx
          · exact ⟨_, _, h1⟩
          · exact kidsM_all D hi r cs _ c false hn x hx
    · rw [if_neg hc] at hn; exact absurd rfl hn
theorem depth_ok (d : Nat) : ∀ (t : S34) (lo hi : Int), depthM d t lo hi ≠ 0 → okT d t := by
  induction d with
  | zero => intro t lo hi h; exact absurd rfl h
  | succ d ih =>
    intro t lo hi h
    unfold depthM at h
    by_cases hf : t.f0 = true
    · rw [if_pos hf] at h
      refine ⟨fun _ => ?_, fun hn => absurd hf hn⟩
      by_cases hl : leafM t lo hi = true
      · simp only [leafM, Bool.and_eq_true, decide_eq_true_eq] at hl
        exact ⟨hl.1.1.1.1.2, hl.1.1.1.1.1, List.eq_nil_of_length_eq_zero hl.1.1.1.2, List.eq_nil_of_length_eq_zero hl.1.1.2, List.eq_nil_of_length_eq_zero hl.1.2⟩
      · rw [if_neg hl] at h; exact absurd rfl h
    · rw [if_neg hf] at h
      refine ⟨fun hn => absurd hn hf, fun _ => ?_⟩
      by_cases hs : (shapeM t && bufM t.f4 lo hi) = true
      · rw [if_pos hs] at h
        have hm : shapeM t = true := by simp at hs; exact hs.1
        simp only [shapeM, Bool.and_eq_true, decide_eq_true_eq, inR] at hm
        refine ⟨List.eq_nil_of_length_eq_zero hm.1.1.1, by omega, by omega, ⟨lo, kidsM_asc (depthM d) hi t.f3 t.f2 0 lo true (by omega) h⟩, by omega, fun x hx => ?_⟩
        obtain ⟨l2, u2, hx2⟩ := kidsM_all (depthM d) hi t.f3 t.f2 0 lo true h x hx
        exact ih x l2 u2 hx2
      · rw [if_neg hs] at h; exact absurd rfl h
theorem treeOk_okT (t : S34) (h : treeOk t = true) : okT 7 t := by
  have h2 := of_decide_eq_true h
  exact depth_ok 7 t 0 1000 (by omega)
/-- The kid to which a key belongs. -/
def kidAt (t : S34) (a : Int) : S34 := rd_T34 t.f3 (cnt a t.f2)

/-- The rows that a row's elements are sent to, one behind the other. -/
def catM (f : S34 → List S92) : List S34 → List S92
  | [] => []
  | t :: r => f t ++ catM f r
/-- The map of a right tree. -/
def mapM : Nat → S34 → List S92
  | 0, _ => []
  | d + 1, t => if t.f0 = true then t.f1 else mapAllOf (catM (mapM d) t.f3) t.f4
theorem catM_len (f : S34 → List S92) (B : Nat) : ∀ l : List S34, (∀ x ∈ l, (f x).length ≤ B) → (catM f l).length ≤ l.length * B
  | [], _ => by simp [catM]
  | t :: r, h => by
    have h1 := h t (List.mem_cons_self ..)
    have h2 := catM_len f B r (fun x hx => h x (List.mem_cons_of_mem _ hx))
    simp only [catM, List.length_append, List.length_cons, Nat.add_mul, Nat.one_mul]
    omega
def bnd : Nat → Nat
  | 0 => 0
  | d + 1 => 4 * bnd d + 6
theorem bnd_le (d : Nat) (hd : d ≤ 7) : bnd d ≤ 32766 := by
  have h : ∀ x : Fin 8, bnd x ≤ 32766 := by decide
  exact h ⟨d, by omega⟩
theorem mapM_len (d : Nat) : ∀ t, okT d t → (mapM d t).length ≤ bnd d := by
  induction d with
  | zero => intro t h; exact absurd h id
  | succ d ih =>
    intro t ot
    unfold mapM bnd
    by_cases hf : t.f0 = true
    · rw [if_pos hf]
      have := (ot.1 hf).1
      omega
    · rw [if_neg hf]
      obtain ⟨_, h3, _, _, h6, hk⟩ := ot.2 hf
      have h1 := catM_len (mapM d) (bnd d) t.f3 (fun x hx => ih x (hk x hx))
      have h2 := mapAll_len t.f4 (catM (mapM d) t.f3)
      have h4 : t.f3.length * bnd d ≤ 4 * bnd d := Nat.mul_le_mul_right _ h3
      omega
theorem spec_map_l0 (d : Nat) (f0 : Bool) (l1 : List S92) (l2 : List Int) (l3 : List S34) (l4 : List S72) (h4 : l4.length ≤ 6) (h3 : l3.length ≤ 4) (hk : ∀ x ∈ l3, okT d x) (hb : ∀ x, okT d x → (mapM d x).length ≤ 32766) (ih : ∀ t, okT d t → Ev (fun k => spec_l3Map.f k t.f0 t.f1 t.f2 t.f3 t.f4) (mapM d t)) : ∀ (m : Nat) (i : Int) (acc : List S92), 0 ≤ i → i ≤ l3.length → (l3.length : Int) - i = m → acc.length + 32766 * m ≤ 1000000 → Ev (fun k => spec_l3Map.l0 k acc i f0 l1 l2 l3 l4) (mapAllOf (acc ++ catM (mapM d) (l3.drop i.toNat)) l4) := by
  intro m
  induction m with
  | zero =>
    intro i acc h0 hi hm ha
    rw [List.drop_of_length_le (by omega)]
    simp only [catM, List.append_nil]
    exact ev_step (fun k => by simp only [spec_l3Map.l0]; exact rfl) (ev_neg (by omega) (ev_bind (spec_mapall acc l4 (by omega) (by omega)) (ev_some _)))
  | succ m ihm =>
    intro i acc h0 hi hm ha
    have wi : wrap64 (i + 1) = i + 1 := w64 (by omega) (by omega)
    have ok := hk _ (rd_mem2 l3 i h0 (by omega))
    have hl := hb _ ok
    rw [drop_Tree l3 i h0 (by omega)]
    refine ev_step (fun k => by simp only [spec_l3Map.l0, wi]; exact rfl) ?_
    refine ev_pos (by omega) ?_
    refine ev_pos h0 ?_
    refine ev_bind (ih _ ok) ?_
    refine ev_pos (by omega) ?_
    have h := ihm (i + 1) (acc ++ mapM d (rd_T34 l3 i)) (by omega) (by omega) (by omega) (by rw [List.length_append]; omega)
    rw [List.append_assoc] at h
    exact h
theorem spec_map (d : Nat) (hd : d ≤ 7) : ∀ t, okT d t → Ev (fun k => spec_l3Map.f k t.f0 t.f1 t.f2 t.f3 t.f4) (mapM d t) := by
  induction d with
  | zero => intro t h; exact absurd h id
  | succ d ih =>
    intro t ot
    have hb : ∀ x, okT d x → (mapM d x).length ≤ 32766 := fun x hx => Nat.le_trans (mapM_len d x hx) (bnd_le d (by omega))
    refine ev_step (fun k => by simp only [spec_l3Map.f]; exact rfl) ?_
    refine ev_bind (f := fun _ => some []) (ev_some []) ?_
    unfold mapM
    by_cases hf : t.f0 = true
    · rw [if_pos hf]
      obtain ⟨h1, _, _, h3, h4⟩ := ot.1 hf
      refine ev_pos (by simp only [List.length_nil]; omega) ?_
      have h := spec_map_l0 d t.f0 t.f1 t.f2 t.f3 t.f4 (by rw [h4]; simp) (by rw [h3]; simp) (by rw [h3]; intro x hx; cases hx) hb (ih (by omega)) t.f3.length 0 ([] ++ t.f1) (by omega) (by omega) (by omega) (by rw [h3]; simp only [List.nil_append, List.length_nil]; omega)
      refine ev_eq h ?_
      rw [h3, h4]
      simp [catM, mapAllOf]
    · rw [if_neg hf]
      obtain ⟨h1, h3, _, _, h4, hk⟩ := ot.2 hf
      refine ev_pos (by rw [h1]; decide) ?_
      have h := spec_map_l0 d t.f0 t.f1 t.f2 t.f3 t.f4 h4 h3 hk hb (ih (by omega)) t.f3.length 0 ([] ++ t.f1) (by omega) (by omega) (by omega) (by rw [h1]; simp only [List.nil_append, List.length_nil]; omega)
      refine ev_eq h ?_
      rw [h1]
      rfl
theorem impl_map_l0 (d : Nat) (f0 : Bool) (l1 : List S92) (l2 : List Int) (l3 : List S34) (l4 : List S72) (h4 : l4.length ≤ 6) (h3 : l3.length ≤ 4) (hk : ∀ x ∈ l3, okT d x) (hb : ∀ x, okT d x → (mapM d x).length ≤ 32766) (ih : ∀ t, okT d t → Ev (fun k => impl_treeMap.f k t.f0 t.f1 t.f2 t.f3 t.f4) (mapM d t)) : ∀ (m : Nat) (i : Int) (acc : List S92), 0 ≤ i → i ≤ l3.length → (l3.length : Int) - i = m → acc.length + 32766 * m ≤ 1000000 → Ev (fun k => impl_treeMap.l0 k acc l3 l3.length i f0 l1 l2 l3 l4) (mapAllOf (acc ++ catM (mapM d) (l3.drop i.toNat)) l4) := by
  intro m
  induction m with
  | zero =>
    intro i acc h0 hi hm ha
    rw [List.drop_of_length_le (by omega)]
    simp only [catM, List.append_nil]
    exact ev_step (fun k => by simp only [impl_treeMap.l0]; exact rfl) (ev_neg (by omega) (ev_bind (impl_mapall acc l4 (by omega) (by omega)) (ev_some _)))
  | succ m ihm =>
    intro i acc h0 hi hm ha
    have wi : wrap64 (i + 1) = i + 1 := w64 (by omega) (by omega)
    have ok := hk _ (rd_mem2 l3 i h0 (by omega))
    have hl := hb _ ok
    rw [drop_Tree l3 i h0 (by omega)]
    refine ev_step (fun k => by simp only [impl_treeMap.l0, wi]; exact rfl) ?_
    refine ev_pos (by omega) ?_
    refine ev_pos h0 ?_
    refine ev_pos (by omega) ?_
    refine ev_bind (ih _ ok) ?_
    refine ev_pos (by omega) ?_
    have h := ihm (i + 1) (acc ++ mapM d (rd_T34 l3 i)) (by omega) (by omega) (by omega) (by rw [List.length_append]; omega)
    rw [List.append_assoc] at h
    exact h
theorem impl_map (d : Nat) (hd : d ≤ 7) : ∀ t, okT d t → Ev (fun k => impl_treeMap.f k t.f0 t.f1 t.f2 t.f3 t.f4) (mapM d t) := by
  induction d with
  | zero => intro t h; exact absurd h id
  | succ d ih =>
    intro t ot
    have hb : ∀ x, okT d x → (mapM d x).length ≤ 32766 := fun x hx => Nat.le_trans (mapM_len d x hx) (bnd_le d (by omega))
    refine ev_step (fun k => by simp only [impl_treeMap.f]; exact rfl) ?_
    unfold mapM
    by_cases hf : t.f0 = true
    · rw [if_pos hf]
      obtain ⟨h1, _⟩ := ot.1 hf
      refine ev_pos hf ?_
      refine ev_bind (f := fun _ => some []) (ev_some []) ?_
      exact ev_pos (by simp only [List.length_nil]; omega) (ev_some _)
    · rw [if_neg hf]
      obtain ⟨h1, h3, _, _, h4, hk⟩ := ot.2 hf
      refine ev_neg hf ?_
      exact impl_map_l0 d t.f0 t.f1 t.f2 t.f3 t.f4 h4 h3 hk hb (ih (by omega)) t.f3.length 0 [] (by omega) (by omega) (by omega) (by simp only [List.length_nil]; omega)
/-- The map of a tree. -/
def treeMapM (t : S34) : List S92 := if treeOk t = true then mapM 7 t else []
theorem treeMapM_len (t : S34) : (treeMapM t).length ≤ 32766 := by
  unfold treeMapM
  by_cases ho : treeOk t = true
  · rw [if_pos ho]
    have h1 := mapM_len 7 t (treeOk_okT t ho)
    have h2 := bnd_le 7 (by omega)
    omega
  · rw [if_neg ho]; simp
theorem spec_treemap (n : Nat) (t : S34) (gt : goodN n t) : Ev (fun k => spec_TreeMap.f k t.f0 t.f1 t.f2 t.f3 t.f4) (treeMapM t) := by
  unfold spec_TreeMap.f treeMapM
  refine ev_bind (spec_treeok n t gt) ?_
  by_cases ho : treeOk t = true
  · rw [if_pos ho]
    exact ev_pos ho (ev_bind (spec_map 7 (by omega) t (treeOk_okT t ho)) (ev_some _))
  · rw [if_neg ho]
    exact ev_neg ho (ev_some _)
theorem impl_treemap (n : Nat) (t : S34) (gt : goodN n t) : Ev (fun k => impl_TreeMap.f k t.f0 t.f1 t.f2 t.f3 t.f4) (treeMapM t) := by
  unfold impl_TreeMap.f treeMapM
  refine ev_bind (impl_treeok n t gt) ?_
  by_cases ho : treeOk t = true
  · rw [if_pos ho]
    exact ev_pos ho (ev_bind (impl_map 7 (by omega) t (treeOk_okT t ho)) (ev_some _))
  · rw [if_neg ho]
    exact ev_neg ho (ev_some _)

/-- The pairs of a row whose keys lie from a to b. -/
def pairR (a b : Int) (p : S92) : Bool := decide (p.f0 ≥ a) && decide (p.f0 < b)
theorem spec_range_l0 (a b : Int) (l : List S92) (hl : l.length ≤ 1000000) : ∀ (m : Nat) (i : Int) (acc : List S92), 0 ≤ i → i ≤ l.length → (l.length : Int) - i = m → acc.length + m ≤ 2000000 → Ev (fun k => spec_TreeRange.l0 k a b acc l i) (acc ++ (l.drop i.toNat).filter (pairR a b)) := by
  intro m
  induction m with
  | zero =>
    intro i acc h0 hi hm ha
    rw [List.drop_of_length_le (by omega)]
    exact ev_step (fun k => by simp only [spec_TreeRange.l0]; exact rfl) (ev_neg (by omega) (ev_eq (ev_some acc) (by simp)))
  | succ m ih =>
    intro i acc h0 hi hm ha
    have wi : wrap64 (i + 1) = i + 1 := w64 (by omega) (by omega)
    rw [drop_Pair l i h0 (by omega), List.filter_cons]
    refine ev_step (fun k => by simp only [spec_TreeRange.l0, wi]; exact rfl) (ev_pos (by omega) (ev_pos h0 ?_))
    have hn := ih (i + 1) acc (by omega) (by omega) (by omega) (by omega)
    by_cases c : (rd_T92 l i).f0 ≥ a
    · refine ev_pos c ?_
      by_cases c2 : (rd_T92 l i).f0 < b
      · rw [if_pos (by unfold pairR; simp; omega)]
        refine ev_pos c2 (ev_pos (by omega) ?_)
        have h := ih (i + 1) (acc ++ [rd_T92 l i]) (by omega) (by omega) (by omega) (by simp only [List.length_append, List.length_cons, List.length_nil]; omega)
        rw [List.append_assoc] at h
        exact h
      · rw [if_neg (by unfold pairR; simp; omega)]
        exact ev_neg c2 hn
    · rw [if_neg (by unfold pairR; simp; omega)]
      exact ev_neg c hn
theorem impl_range_l0 (a b : Int) (l : List S92) (hl : l.length ≤ 1000000) : ∀ (m : Nat) (i : Int) (acc : List S92), 0 ≤ i → i ≤ l.length → (l.length : Int) - i = m → acc.length + m ≤ 2000000 → Ev (fun k => impl_TreeRange.l0 k a b acc l l.length i) (acc ++ (l.drop i.toNat).filter (pairR a b)) := by
  intro m
  induction m with
  | zero =>
    intro i acc h0 hi hm ha
    rw [List.drop_of_length_le (by omega)]
    exact ev_step (fun k => by simp only [impl_TreeRange.l0]; exact rfl) (ev_neg (by omega) (ev_eq (ev_some acc) (by simp)))
  | succ m ih =>
    intro i acc h0 hi hm ha
    have wi : wrap64 (i + 1) = i + 1 := w64 (by omega) (by omega)
    rw [drop_Pair l i h0 (by omega), List.filter_cons]
    refine ev_step (fun k => by simp only [impl_TreeRange.l0, wi]; exact rfl) (ev_pos (by omega) (ev_pos h0 (ev_pos (by omega) ?_)))
    have hn := ih (i + 1) acc (by omega) (by omega) (by omega) (by omega)
    by_cases c : (rd_T92 l i).f0 ≥ a
    · refine ev_pos c ?_
      by_cases c2 : (rd_T92 l i).f0 < b
      · rw [if_pos (by unfold pairR; simp; omega)]
        refine ev_pos c2 (ev_pos (by omega) ?_)
        have h := ih (i + 1) (acc ++ [rd_T92 l i]) (by omega) (by omega) (by omega) (by simp only [List.length_append, List.length_cons, List.length_nil]; omega)
        rw [List.append_assoc] at h
        exact h
      · rw [if_neg (by unfold pairR; simp; omega)]
        exact ev_neg c2 hn
    · rw [if_neg (by unfold pairR; simp; omega)]
      exact ev_neg c hn
def rangeM (a b : Int) (t : S34) : List S92 := (treeMapM t).filter (pairR a b)
theorem rangeM_len (a b : Int) (t : S34) : (rangeM a b t).length ≤ 32766 := Nat.le_trans (List.length_filter_le ..) (treeMapM_len t)
theorem spec_treerange (n : Nat) (t : S34) (gt : goodN n t) (a b : Int) : Ev (fun k => spec_TreeRange.f k t.f0 t.f1 t.f2 t.f3 t.f4 a b) (rangeM a b t) := by
  have hl := treeMapM_len t
  unfold spec_TreeRange.f rangeM
  refine ev_bind (spec_treemap n t gt) ?_
  exact spec_range_l0 a b _ (by omega) (treeMapM t).length 0 [] (by omega) (by omega) (by omega) (by simp only [List.length_nil]; omega)
theorem impl_treerange (n : Nat) (t : S34) (gt : goodN n t) (a b : Int) : Ev (fun k => impl_TreeRange.f k t.f0 t.f1 t.f2 t.f3 t.f4 a b) (rangeM a b t) := by
  have hl := treeMapM_len t
  unfold impl_TreeRange.f rangeM
  refine ev_bind (impl_treemap n t gt) ?_
  exact impl_range_l0 a b _ (by omega) (treeMapM t).length 0 [] (by omega) (by omega) (by omega) (by simp only [List.length_nil]; omega)

/-- How many parts a tree has. -/
def wL : Nat → S27 → Nat
  | 0, _ => 0
  | n + 1, t => t.f1.length + t.f2.length + t.f3.length + (t.f3.map (wL n)).sum + t.f4.length
def wI : Nat → S34 → Nat
  | 0, _ => 0
  | n + 1, t => t.f1.length + t.f2.length + t.f3.length + (t.f3.map (wI n)).sum + t.f4.length
theorem sz_row2 {α : Type} (l : List α) (b : Int) (hb : 0 ≤ b) (hb2 : b ≤ 1048576) (hl : l.length ≤ 17592186044416) : ∃ r, (if (wrap64 (b - (l.length : Int))) < 0 then some (-1) else some (wrap64 (b - (l.length : Int)))) = some r ∧ r ≤ b ∧ r ≤ 1048576 ∧ (0 ≤ r → l.length ≤ 1048576 ∧ r + (l.length : Int) = b) := by
  rw [w64 (by omega) (by omega)]
  by_cases h : b - (l.length : Int) < 0
  · exact ⟨-1, by rw [if_pos h], by omega, by omega, by omega⟩
  · exact ⟨b - l.length, by rw [if_neg h], by omega, by omega, by omega⟩
theorem sz_tree2 (n : Nat) : ∀ (t : S27), okN27 n t → ∀ b : Int, 0 ≤ b → b ≤ 1048576 → ∃ r, Ev (fun k => laws_szTree.f k t.f0 t.f1 t.f2 t.f3 t.f4 b) r ∧ r ≤ b ∧ (0 ≤ r → smallN n t ∧ r + (wL n t : Int) ≤ b) := by
  induction n with
  | zero => intro t h; exact absurd h id
  | succ n ih =>
    intro t ⟨_, ⟨h1, _⟩, ⟨h2, _⟩, ⟨h3, h3k⟩, ⟨h4, _⟩⟩ b hb hb2
    have row : ∀ (m : Nat) (i b : Int), 0 ≤ i → i ≤ t.f3.length → (t.f3.length : Int) - i = m → 0 ≤ b → b ≤ 1048576 → ∃ r, Ev (fun k => laws_szTreeS.l0 k t.f3 b i) r ∧ r ≤ b ∧ (0 ≤ r → (∀ x ∈ t.f3.drop i.toNat, smallN n x) ∧ r + (((t.f3.drop i.toNat).map (wL n)).sum : Int) ≤ b) := by
      intro m
      induction m with
      | zero =>
        intro i b h0 hi hm hb hb2
        refine ⟨b, ev_step (fun k => by simp only [laws_szTreeS.l0]; exact rfl) (ev_neg (by omega) (ev_some b)), by omega, fun _ => ?_⟩
        rw [List.drop_of_length_le (by omega)]
        exact ⟨fun x hx => absurd hx (by simp), by simp⟩
      | succ m ihm =>
        intro i b h0 hi hm hb hb2
        obtain ⟨r1, e1, l1, s1⟩ := ih (rd_T27 t.f3 i) (h3k _ (rd_mem _ _ h0 (by omega))) b hb hb2
        by_cases hr : r1 < 0
        · refine ⟨-1, ev_step (fun k => by simp only [laws_szTreeS.l0]; exact rfl) (ev_pos (by omega) (ev_pos h0 (ev_bind e1 (ev_pos hr (ev_some _))))), by omega, fun h => by omega⟩
        · obtain ⟨r2, e2, l2, s2⟩ := ihm (i + 1) r1 (by omega) (by omega) (by omega) (by omega) (by omega)
          refine ⟨r2, ev_step (fun k => by simp only [laws_szTreeS.l0]; exact rfl) (ev_pos (by omega) (ev_pos h0 (ev_bind e1 (ev_neg hr ?_)))), by omega, fun h => ?_⟩
          · rw [w64 (x := i + 1) (by omega) (by omega)]; exact e2
          · have q1 := s1 (by omega)
            have q2 := s2 h
            rw [drop_laws _ _ h0 (by omega)]
            refine ⟨fun x hx => ?_, ?_⟩
            · rcases List.mem_cons.1 hx with rfl | hx
              · exact q1.1
              · exact q2.1 x hx
            · have e := q2.2
              have e1 := q1.2
              rw [List.map_cons, List.sum_cons]
              omega
    obtain ⟨r1, e1, l1, m1, s1⟩ := sz_row2 t.f1 b hb hb2 (by omega)
    have E1 : Ev (fun _ => laws_szPairS.f t.f1 b) r1 := ev_all (fun _ => e1)
    by_cases c1 : r1 < 0
    · exact ⟨-1, ev_step (fun k => by simp only [laws_szTree.f]; exact rfl) (ev_bind E1 (ev_pos c1 (ev_some _))), by omega, fun h => by omega⟩
    obtain ⟨r2, e2, l2, m2, s2⟩ := sz_row2 t.f2 r1 (by omega) (by omega) (by omega)
    have E2 : Ev (fun _ => laws_szIntS.f t.f2 r1) r2 := ev_all (fun _ => e2)
    by_cases c2 : r2 < 0
    · exact ⟨-1, ev_step (fun k => by simp only [laws_szTree.f]; exact rfl) (ev_bind E1 (ev_neg c1 (ev_bind E2 (ev_pos c2 (ev_some _))))), by omega, fun h => by omega⟩
    have hS : ∃ r, Ev (fun k => laws_szTreeS.f k t.f3 r2) r ∧ r ≤ r2 ∧ (0 ≤ r → (t.f3.length ≤ 1048576 ∧ ∀ x ∈ t.f3, smallN n x) ∧ r + (t.f3.length : Int) + ((t.f3.map (wL n)).sum : Int) ≤ r2) := by
      have hw : wrap64 (r2 - (t.f3.length : Int)) = r2 - t.f3.length := w64 (by omega) (by omega)
      by_cases h : r2 - (t.f3.length : Int) < 0
      · exact ⟨-1, ev_step (fun k => by simp only [laws_szTreeS.f, hw]; exact rfl) (ev_pos h (ev_some _)), by omega, fun h => by omega⟩
      · obtain ⟨r, e, l, s⟩ := row t.f3.length 0 (r2 - t.f3.length) (by omega) (by omega) (by omega) (by omega) (by omega)
        exact ⟨r, ev_step (fun k => by simp only [laws_szTreeS.f, hw]; exact rfl) (ev_neg h e), by omega, fun h => ⟨⟨by omega, (s h).1⟩, by have e := (s h).2; simp only [Int.toNat_zero, List.drop_zero] at e; omega⟩⟩
    obtain ⟨r3, E3, l3, s3⟩ := hS
    by_cases c3 : r3 < 0
    · exact ⟨-1, ev_step (fun k => by simp only [laws_szTree.f]; exact rfl) (ev_bind E1 (ev_neg c1 (ev_bind E2 (ev_neg c2 (ev_bind E3 (ev_pos c3 (ev_some _))))))), by omega, fun h => by omega⟩
    obtain ⟨r4, e4, l4, m4, s4⟩ := sz_row2 t.f4 r3 (by omega) (by omega) (by omega)
    have E4 : Ev (fun _ => laws_szMsgS.f t.f4 r3) r4 := ev_all (fun _ => e4)
    by_cases c4 : r4 < 0
    · exact ⟨-1, ev_step (fun k => by simp only [laws_szTree.f]; exact rfl) (ev_bind E1 (ev_neg c1 (ev_bind E2 (ev_neg c2 (ev_bind E3 (ev_neg c3 (ev_bind E4 (ev_pos c4 (ev_some _))))))))), by omega, fun h => by omega⟩
    exact ⟨r4, ev_step (fun k => by simp only [laws_szTree.f]; exact rfl) (ev_bind E1 (ev_neg c1 (ev_bind E2 (ev_neg c2 (ev_bind E3 (ev_neg c3 (ev_bind E4 (ev_neg c4 (ev_some _))))))))), by omega, fun h => ⟨⟨(s1 (by omega)).1, (s2 (by omega)).1, (s3 (by omega)).1, (s4 h).1⟩, by
      have q1 := (s1 (by omega)).2
      have q2 := (s2 (by omega)).2
      have q3 := (s3 (by omega)).2
      have q4 := (s4 h).2
      show r4 + ((t.f1.length + t.f2.length + t.f3.length + (t.f3.map (wL n)).sum + t.f4.length : Nat) : Int) ≤ b
      omega⟩⟩

theorem to_tree2 (n : Nat) : ∀ (t : S27), smallN n t → ∃ u : S34, Ev (fun k => laws_toTree.f k t.f0 t.f1 t.f2 t.f3 t.f4) (u.f0, u.f1, u.f2, u.f3, u.f4) ∧ goodN n u ∧ wI n u = wL n t := by
  induction n with
  | zero => intro t h; exact absurd h id
  | succ n ih =>
    intro t ⟨h1, h2, ⟨h3, h3k⟩, h4⟩
    have row : ∀ (m : Nat) (i : Int) (y : List S34), 0 ≤ i → i ≤ t.f3.length → (t.f3.length : Int) - i = m → y.length = t.f3.length → (∀ j : Nat, (j : Int) < i → goodN n (y.getD j z34) ∧ wI n (y.getD j z34) = wL n (rd_T27 t.f3 j)) → ∃ r, Ev (fun k => laws_toTreeS.l0 k t.f3 y i) r ∧ r.length = t.f3.length ∧ (∀ x ∈ r, goodN n x) ∧ r.map (wI n) = t.f3.map (wL n) := by
      intro m
      induction m with
      | zero =>
        intro i y h0 hi hm hy hg
        refine ⟨y, ev_step (fun k => by simp only [laws_toTreeS.l0]; exact rfl) (ev_neg (by omega) (ev_some y)), hy, fun x hx => ?_, ?_⟩
        · obtain ⟨j, hj, rfl⟩ := List.getElem_of_mem hx
          have := (hg j (by omega)).1
          rwa [List.getD_eq_getElem?_getD, List.getElem?_eq_getElem hj] at this
        · refine List.ext_getElem (by simp [hy]) (fun j h1 h2 => ?_)
          rw [List.length_map] at h1 h2
          have := (hg j (by omega)).2
          unfold rd_T27 at this
          rw [List.getD_eq_getElem?_getD, List.getElem?_eq_getElem h1, List.getD_eq_getElem?_getD, List.getElem?_eq_getElem (by omega)] at this
          rw [List.getElem_map, List.getElem_map]
          exact this
      | succ m ihm =>
        intro i y h0 hi hm hy hg
        obtain ⟨u, e1, g1, g2⟩ := ih (rd_T27 t.f3 i) (h3k _ (rd_mem _ _ h0 (by omega)))
        obtain ⟨r, e2, l2, s2, s3⟩ := ihm (i + 1) (y.set (i : Int).toNat ⟨u.f0, u.f1, u.f2, u.f3, u.f4⟩) (by omega) (by omega) (by omega) (by simpa using hy) (fun j hj => by
          by_cases he : (j : Int) = i
          · subst he
            rw [List.getD_eq_getElem?_getD, show ((j : Int)).toNat = j by omega, List.getElem?_set_self (by omega), etaT]
            exact ⟨g1, g2⟩
          · have := hg j (by omega)
            rw [List.getD_eq_getElem?_getD] at this ⊢
            rwa [List.getElem?_set_ne (by omega)])
        refine ⟨r, ?_, l2, s2, s3⟩
        have w2 : wrap64 (i + 1) = i + 1 := w64 (by omega) (by omega)
        refine ev_step (fun k => by simp only [laws_toTreeS.l0, w2]; exact rfl) ?_
        refine ev_pos (by omega) ?_
        refine ev_pos h0 ?_
        refine ev_bind e1 ?_
        refine ev_pos (by omega) ?_
        exact e2
    obtain ⟨r, e3, l3, s3, s4⟩ := row t.f3.length 0 (List.replicate t.f3.length z34) (by omega) (by omega) (by omega) (by simp) (fun j hj => by omega)
    have E1 : Ev (fun k => laws_toPairS.f k t.f1) (t.f1.map cvPair) := ev_of t.f1.length (fun k hk => toPairS_all _ h1 k hk)
    have E2 : Ev (fun k => laws_toIntS.f k t.f2) t.f2 := ev_of t.f2.length (fun k hk => toIntS_all _ h2 k hk)
    have E4 : Ev (fun k => laws_toMsgS.f k t.f4) (t.f4.map cvMsg) := ev_of t.f4.length (fun k hk => toMsgS_all _ h4 k hk)
    have E3 : Ev (fun k => laws_toTreeS.f k t.f3) r := ev_step (fun k => by simp only [laws_toTreeS.f]; exact rfl) (ev_pos (by omega) (ev_pos (by omega) e3))
    refine ⟨⟨t.f0, t.f1.map cvPair, t.f2, r, t.f4.map cvMsg⟩, ?_, ⟨by simpa using h1, h2, ⟨by show r.length ≤ _; omega, s3⟩, by simpa using h4⟩, ?_⟩
    · refine ev_step (fun k => by simp only [laws_toTree.f]; exact rfl) ?_
      refine ev_bind E1 ?_
      refine ev_bind E2 ?_
      refine ev_bind E3 ?_
      refine ev_bind E4 ?_
      exact ev_some _
    · show (t.f1.map cvPair).length + t.f2.length + r.length + (r.map (wI n)).sum + (t.f4.map cvMsg).length = t.f1.length + t.f2.length + t.f3.length + (t.f3.map (wL n)).sum + t.f4.length
      rw [s4, l3, List.length_map, List.length_map]
theorem cnt_row (n : Nat) (h : ∀ u, goodN n u → cntT u ≤ 1 + 3 * wI n u) : ∀ l : List S34, (∀ x ∈ l, goodN n x) → cntL l ≤ l.length + 3 * (l.map (wI n)).sum
  | [], _ => by simp [cntL]
  | x :: l, hl => by
    have h1 := h x (hl x (List.mem_cons_self ..))
    have h2 := cnt_row n h l (fun z hz => hl z (List.mem_cons_of_mem _ hz))
    simp only [cntL, List.map_cons, List.sum_cons, List.length_cons]
    omega
theorem cnt_tree_le (n : Nat) : ∀ u, goodN n u → cntT u ≤ 1 + 3 * wI n u := by
  induction n with
  | zero => intro u h; exact absurd h id
  | succ n ih =>
    intro u hu
    have h3 := cnt_row n ih u.f3 hu.2.2.1.2
    rw [cntT_eq]
    show _ ≤ 1 + 3 * (u.f1.length + u.f2.length + u.f3.length + (u.f3.map (wI n)).sum + u.f4.length)
    omega
/-- What marks a tree ends. -/
theorem mark_tree (n : Nat) (u : S34) (gu : goodN n u) (hw : wI n u ≤ 1048576) : ∃ r : Int, 0 ≤ r ∧ laws_markTree.f u.f0 u.f1 u.f2 u.f3 u.f4 1 = some r := by
  have h := cnt_tree_le n u gu
  rw [cntT_eq] at h
  refine ⟨_, ?_, by unfold laws_markTree.f; rw [if_pos (by omega)]⟩
  omega

theorem law_of {f0 : Bool} {l1 : List S107} {l2 : List Int} {l3 : List S27} {l4 : List S109} {a b : Int} (h : Ev (fun k => laws_FnExactTreeRange.f k f0 l1 l2 l3 l4 a b) true) : ∃ k, laws_FnExactTreeRange.f k f0 l1 l2 l3 l4 a b = some true := by
  obtain ⟨k, hk⟩ := h
  exact ⟨k, hk k (Nat.le_refl _)⟩
theorem FnExactTreeRange : OpnFnExactTreeRange.Pure := by
  intro f0 l1 l2 l3 l4 a b h1 h2 ⟨h3, h3k⟩ h4 _ _
  obtain ⟨n, hn⟩ := ok_row l3 h3k
  obtain ⟨r, er, _, hr⟩ := sz_tree2 (n + 1) ⟨f0, l1, l2, l3, l4⟩ ⟨trivial, h1, h2, ⟨h3, hn⟩, h4⟩ 1048576 (by omega) (by omega)
  refine law_of ?_
  unfold laws_FnExactTreeRange.f
  by_cases c : r < 0
  · exact ev_bind er (ev_pos c (ev_some _))
  · obtain ⟨hsm, hw⟩ := hr (by omega)
    obtain ⟨t, et, gt, wt⟩ := to_tree2 (n + 1) _ hsm
    have hs := spec_treerange _ t gt a b
    have hi := impl_treerange _ t gt a b
    have hl := rangeM_len a b t
    generalize rangeM a b t = p at *
    have eqp : Ev (fun k => laws_eqPairS.f k p p) true := ev_of p.length (fun k hk => eqPairS_self p (by omega) k hk)
    obtain ⟨z, m1, m2⟩ := markPairS_all p (by omega) 1 (by omega) (by omega)
    obtain ⟨q, q0, mq⟩ := mark_tree _ t gt (by omega)
    refine ev_bind er ?_
    refine ev_neg c ?_
    refine ev_bind et ?_
    refine ev_bind hs ?_
    refine ev_bind et ?_
    refine ev_bind hi ?_
    refine ev_bind eqp ?_
    refine ev_pos (by rfl) ?_
    refine ev_bind et ?_
    refine ev_bind (eq_tree (n + 1) t gt) ?_
    refine ev_pos (by rfl) ?_
    refine ev_bind (ev_all (fun k => mq)) ?_
    refine ev_neg (by omega) ?_
    refine ev_bind eqp ?_
    refine ev_step (fun k => by simp only [laws_FnExactTreeRange.j0]; exact rfl) ?_
    refine ev_neg (by simp) ?_
    refine ev_bind (ev_of _ m1) ?_
    refine ev_bind (ev_of _ m2) ?_
    refine ev_neg (by omega) ?_
    refine ev_pos (by rfl) ?_
    refine ev_bind et ?_
    refine ev_bind hi ?_
    refine ev_bind eqp ?_
    refine ev_pos (by rfl) ?_
    refine ev_bind (ev_of _ m2) ?_
    refine ev_neg (by omega) ?_
    exact ev_pos (by rfl) (ev_some _)

end Go.Proofs.Ytfnndcpaldkkoaa.Pure
